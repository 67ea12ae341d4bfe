/- Walks. No condition. -/
import Derived.Test.YtdepaileabejgaaGreatDoorQFnExactOpenJournalx15
namespace Go.Proofs.YtdepaileabejgaaGreatDoor.PFnExactOpenJournal
open Go.RowKit Go.Proofs.YtdepaileabejgaaGreatDoorW.PrintWords Go.Proofs.YtdepaileabejgaaGreatDoorW.PrintLast Go.Proofs.YtdepaileabejgaaGreatDoorW.PrintMore Go.Proofs.YtdepaileabejgaaGreatDoorW.Short
attribute [local go_sem] max2_int min2_int max_two min_two max_three min_three max_four min_four
set_option maxHeartbeats 8000000
set_option maxRecDepth 100000
set_option linter.unusedVariables false
set_option linter.unusedSimpArgs false
def impl_ConfOk.l0 : Nat → List Int → List Int → Int → Int → Option (Bool)
 | 0, _, _, _, _ => none
 | k + 1, x0, x5, x6, x7 => if x7 < x6 then (if 0 ≤ x7 then (if x7 < (x5.length : Int) then ((impl_in.f (rd x5 x7) 1 4).bind fun t509 => (if t509 = true then (if x7 > 0 then (if 0 ≤ (wrap64 (x7 - 1)) then (if (wrap64 (x7 - 1)) < (x0.length : Int) then (if (rd x0 (wrap64 (x7 - 1))) ≥ (rd x5 x7) then (some false) else (impl_ConfOk.l0 k x0 x5 x6 (wrap64 (x7 + 1)))) else (none)) else (none)) else (impl_ConfOk.l0 k x0 x5 x6 (wrap64 (x7 + 1)))) else (some false))) else (none)) else (none)) else (some (decide ((x0.length : Int) ≥ 1)))
def impl_ConfOk.f (k : Nat) (l0 : List Int) : Option (Bool) := impl_ConfOk.l0 k l0 l0 (l0.length : Int) 0
theorem impl_ConfOk.calls (k : Nat) (A0 : Option Addr) (c0 : Nat) (l0 : List Int) (r : Bool) (w : World) (hr0 : Kd.C (Kd.int .i64) w A0 l0.length l0) (hc0 : l0.length ≤ c0) (H : impl_ConfOk.f k l0 = some r) :
 Calls Tryz.prog 119 #[.slice A0 l0.length c0] w fun e w' => e = .returned (.bool r) ∧ Drawn0 w w' := by
 have HR0 := ak hr0; have HC0 := ak hc0; clear hr0 hc0; unfold impl_ConfOk.f at H; have H' := ak H; clear H; go_enter Tryz.func119, Tryz.ntmps119; go_wp2
 go_loopg [7] k (fun kq v7 w' => ∃ (x7_1 : Int), v7 = .int .i64 x7_1 ∧ Aside0 (impl_ConfOk.l0 kq l0 l0 (l0.length : Int) x7_1 = some r) ∧ Aside0 (kq ≤ k) ∧ Drawn0 w w')
 case atStart => exact ⟨(0), fr, H', ⟨Nat.le_refl _⟩, d0⟩
 case round =>
  clear H'; obtain ⟨x7_1, rfl, HA, HK1, ⟨m1, rfl⟩⟩ := hrel
  cases gk with
  | zero => exact absurd HA.out (by simp [impl_ConfOk.l0])
  | succ k1 =>
   have H := HA.out; clear HA; simp only [impl_ConfOk.l0] at H; revert H
   refine si (fun c2 H => ?_) fun c2 H => ?_
   ·have c2b0 := dt c2; clear c2; obtain ⟨c3, H⟩ := ifs H; have c3b0 := dt c3; clear c3; obtain ⟨c4, H⟩ := ifs H; have c4b0 := dt c4; clear c4; obtain ⟨t509, A5, H⟩ := bo H; cases t509; rotate_left
    ·rw [if_pos rfl] at H; revert H
     refine si (fun c7 H => ?_) fun c7 H => ?_
     ·have c7b0 : decide (0 < x7_1) = true := dt c7; clear c7; obtain ⟨ji8, hji8, hji8w⟩ := jj (x7_1 - 1)
      first | rw [hji8] at H | simp only [hji8] at H
      (try rw [hji8] at A5)
      obtain ⟨c9, H⟩ := ifs H; have c9b0 := dt c9; clear c9; obtain ⟨c10, H⟩ := ifs H; have c10b0 := dt c10; clear c10; revert H
      refine si (fun c11 H => ?_) fun c11 H => ?_
      have c11b0 : decide ((rd l0 x7_1) ≤ (rd l0 (ji8))) = true := dt c11; clear c11; obtain rfl := oj H; have p508 : 0 ≤ (x7_1 : Int) := da; have q508 : x7_1 < (l0.length : Int) := da; obtain ⟨ad508, e508, hx508_0⟩ := Kd.at_int HR0.out x7_1 p508 q508; cases e508; replace p508 := eq_true p508; replace q508 := eq_true q508; rotate_left; have c11b0 : decide ((rd l0 x7_1) ≤ (rd l0 (ji8))) = false := df c11; clear c11; have H' := ak H; clear H; have p508 : 0 ≤ (x7_1 : Int) := da; have q508 : x7_1 < (l0.length : Int) := da; obtain ⟨ad508, e508, hx508_0⟩ := Kd.at_int HR0.out x7_1 p508 q508; cases e508; replace p508 := eq_true p508; replace q508 := eq_true q508
      all_goals
       go_wp2_with (first | ((with_reducible refine gd 13 rfl ?_); refine gc 13 Tryz.func54 (impl_in.calls (rd l0 x7_1) 1 4 true _ A5.out) fun w' h_ => ?_; obtain ⟨nd, rfl⟩ := h_; have p510 : 0 ≤ ((ji8) : Int) := da; have q510 : (ji8) < (l0.length : Int) := da; obtain ⟨ad510, e510, hx510_0⟩ := Kd.at_int HR0.out (ji8) p510 q510; obtain rfl : ad508 = ad510 := (by injection e510); replace p510 := eq_true p510; replace q510 := eq_true q510))
      ·go_roundg k1
       case measure => have := HK1.out; omega
       case rel => exact ⟨(wrap64 (x7_1 + 1)), fr, H', ⟨by have := HK1.out; omega⟩, d0⟩
      ·go_ret
       exact ⟨by first | rfl | (simp; done) | (simp only [← hji8] <;> (first | rfl | simp)) | (simp [*]; done), d0⟩
     ·have c7b0 : decide (0 < x7_1) = false := df c7; clear c7; have H' := ak H; clear H; have p508 : 0 ≤ (x7_1 : Int) := da; have q508 : x7_1 < (l0.length : Int) := da; obtain ⟨ad508, e508, hx508_0⟩ := Kd.at_int HR0.out x7_1 p508 q508; cases e508; replace p508 := eq_true p508; replace q508 := eq_true q508
      go_wp2_with (first | ((with_reducible refine gd 13 rfl ?_); refine gc 13 Tryz.func54 (impl_in.calls (rd l0 x7_1) 1 4 true _ A5.out) fun w' h_ => ?_; obtain ⟨nd, rfl⟩ := h_))
      go_roundg k1
      case measure => have := HK1.out; omega
      case rel => exact ⟨(wrap64 (x7_1 + 1)), fr, H', ⟨by have := HK1.out; omega⟩, d0⟩
    ·rw [if_neg nf] at H; obtain rfl := oj H; have p508 : 0 ≤ (x7_1 : Int) := da; have q508 : x7_1 < (l0.length : Int) := da; obtain ⟨ad508, e508, hx508_0⟩ := Kd.at_int HR0.out x7_1 p508 q508; cases e508; replace p508 := eq_true p508; replace q508 := eq_true q508
     go_wp2_with (first | ((with_reducible refine gd 13 rfl ?_); refine gc 13 Tryz.func54 (impl_in.calls (rd l0 x7_1) 1 4 false _ A5.out) fun w' h_ => ?_; obtain ⟨nd, rfl⟩ := h_))
     go_ret
     exact ⟨fr, d0⟩
   ·have c2b0 := df c2; clear c2; obtain rfl := oj H; go_wp2; go_ret
    exact ⟨fr, d0⟩
def impl_ReadConf.l0 : Nat → ByteArray → List Int → Int → Int → Option (List Int × Bool)
 | 0, _, _, _, _ => none
 | k + 1, x0, x4, x8, x9 => if x9 < x8 then (if 0 ≤ x9 then (if x9 < (x0.size : Int) then (if x4.length < 17592186044416 then (impl_ReadConf.l0 k x0 (x4 ++ [wrap64 (bt x0 x9)]) x8 (wrap64 (x9 + 1))) else (none)) else (none)) else (none)) else ((impl_ConfOk.f k x4).bind fun t517 => (if t517 = true then (some (x4, true)) else (some (([] : List Int), false))))
def impl_ReadConf.f (k : Nat) (a0 : ByteArray) : Option (List Int × Bool) := impl_ReadConf.l0 k a0 (([] : List Int)) (a0.size : Int) 0
theorem impl_ReadConf.calls (k : Nat) (a0 : ByteArray) (r1 : List Int) (r2 : Bool) (w : World) (H : impl_ReadConf.f k a0 = some (r1, r2)) :
 Calls Tryz.prog 107 #[.string a0] w fun e w' => ∃ v0_ : Value, e = .returned (.tuple #[v0_, .bool r2]) ∧ Kd.R (Kd.int .i64) 3 w' w.heap.size (fun _ => True) v0_ r1 ∧ Below w.heap.size w w' := by
 have HB := ak (Below.refl w.heap.size w); unfold impl_ReadConf.f at H; obtain ⟨y511, hy511⟩ : ∃ y_ : List Int, y_ = (([] : List Int)) := ⟨_, rfl⟩
 first | replace H := bs hy511 H | rw [← hy511] at H
 have Ny511 := ak hy511; clear hy511; have H' := ak H; clear H; go_enter Tryz.func107, Tryz.ntmps107
 go_wp2_with (first | ((with_reducible refine gate_dst (N := 6) rfl ?_); refine Kd.R_lit (Kd.int .i64) _ 3 ?hg (N := 6) ?hd (xs := ([] : List Int)) (inner := []) (ok := fun _ => True) (okp := fun _ => True) ?hr ?hp (fun _ hk => hk) trivial (Below.refl _ _) (Nat.le_refl _) (by simp) ?_; (case hd => rfl); (case hg => rfl); (case hr => first | (go_simp; done) | (go_simp; rfl)); (case hp => exact (Reps.none _ _)); intro v512 w2 ho3 hb hg_ hnew_; clear hg_ hnew_; (first | rw [← Ny511.out] at ho3 | (simp only [Int.reduceToNat] at ho3; rw [← Ny511.out] at ho3)); have HO513 := ak (Kd.R_lower ho3 (below_size (bt HB))); replace HB := bs1 HB hb; clear hb ho3))
 go_loopg [4, 9] k (fun kq v4 v9 w' => ∃ (x4_1 : List Int) (x9_1 : Int), v9 = .int .i64 x9_1 ∧ Aside0 (impl_ReadConf.l0 kq a0 x4_1 (a0.size : Int) x9_1 = some (r1, r2)) ∧ Aside0 (kq ≤ k) ∧ Aside0 (Kd.R (Kd.int .i64) 3 w' w.heap.size (fun _ => True) v4 x4_1) ∧ Aside0 (Below w.heap.size w w'))
 case atStart => exact ⟨(y511), (0), fr, H', ⟨Nat.le_refl _⟩, ⟨rk HO513⟩, ⟨bt HB⟩⟩
 case round =>
  clear H'; obtain ⟨x4_1, x9_1, rfl, HA, HK1, HO_4, HB⟩ := hrel
  cases gk with
  | zero => exact absurd HA.out (by simp [impl_ReadConf.l0])
  | succ k1 =>
   have H := HA.out; clear HA; simp only [impl_ReadConf.l0] at H; revert H
   refine si (fun c4 H => ?_) fun c4 H => ?_
   ·have c4b0 := dt c4; clear c4; obtain ⟨c5, H⟩ := ifs H; have c5b0 := dt c5; clear c5; obtain ⟨c6, H⟩ := ifs H; have c6b0 := dt c6; clear c6; obtain ⟨c8, H⟩ := ifs H; have LMc8 := ak c8; clear c8; obtain ⟨y514, hy514⟩ : ∃ y_ : List Int, y_ = (x4_1 ++ [wrap64 (bt a0 x9_1)]) := ⟨_, rfl⟩
    first | replace H := bs hy514 H | rw [← hy514] at H
    have Ny514 := ak hy514; clear hy514; have H' := ak H; clear H; have p7 : 0 ≤ (x9_1 : Int) := da; have q7 : x9_1 < (a0.size : Int) := da; have hx7 := bt_at a0 x9_1; replace p7 := eq_true p7; replace q7 := eq_true q7
    go_wp2_with (first | ((with_reducible refine gate_builtin (b := .append) (xs := #[.tmp 12, .tmp 17]) rfl ?_); at_builtin; refine Kd.R_append (Kd.int .i64) (w0 := w) w.heap.size rfl (.tmp 12) (.tmp 17) 126 3 (.int .i64 0) 8 rfl Tryz.underlying126 info3 rfl (by decide) (by omega) u4 x4_1 (wrap64 (bt a0 x9_1)) [.int .i64 (wrap64 (bt a0 x9_1))] (fun _ => True) (fun _ => False) rfl rfl ?aP (fun _ hk => hk.elim) ?aF ?aO ?aB ?aS ?aL ?_; (case aP => exact rfl); (case aB => exact (bt HB)); (case aF => exact (fun _ _ => trivial)); (case aO => exact (rk HO_4)); (case aS => exact (below_size (bt HB))); (case aL => have := LMc8.out; omega); intro v515 w9 ho hb hg hat; rw [← Ny514.out] at ho; have n0_ := ak hb; have n1_ := ak ho; clear HB HO_4; revert n0_ n1_; intro HB HO516; clear ho hb hg hat))
    go_roundg k1
    case measure => have := HK1.out; omega
    case rel => exact ⟨(y514), (wrap64 (x9_1 + 1)), fr, H', ⟨by have := HK1.out; omega⟩, ⟨rk HO516⟩, ⟨bt HB⟩⟩
   ·have c4b0 := df c4; clear c4; obtain ⟨t517, A10, H⟩ := bo H; cases t517; rotate_left; rw [if_pos rfl] at H; obtain ⟨rfl, rfl⟩ := o2 H; obtain ⟨Ao13, co13, eo12⟩ := Kd.R_slice HO_4.out; subst eo12; rotate_left; rw [if_neg nf] at H; obtain ⟨rfl, rfl⟩ := o2 H; obtain ⟨Ao13, co13, eo13⟩ := Kd.R_slice HO_4.out; subst eo13
    all_goals
     go_wp2_with (first | ((with_reducible refine gd 21 rfl ?_); refine gc 21 Tryz.func119 (impl_ConfOk.calls k1 _ _ x4_1 _ _ ?s1 ?s2 A10.out) fun w' h_ => ?_; (case s1 => exact cr HO_4); (case s2 => exact (Kd.R_reads' HO_4.out).2.1); obtain ⟨nd, rfl⟩ := h_))
     go_ret2
    ·exact ⟨_, fe, by first | exact Kd.R_nil _ _ _ _ _ | exact Kd.N_nil _ _ _ _ _ | exact Kd.V_nil _ _ _ _ _ | exact Kd.Q_nil _ _ _ _ _ | exact Kd.S_nil _ _ _ _ _, bt HB⟩
    ·exact ⟨_, fe, rk HO_4, bt HB⟩
def impl_EntryOk.f (k : Nat) (a0_0 : Int) (a0_1 : Int) (a0_2 : ByteArray) : Option (Bool) := (impl_in.f a0_0 0 100000).bind fun t519 => (if t519 = true then (if a0_1 = 1 then (some (a0_2.toList == ([] : List UInt8))) else (if a0_1 = 2 then ((impl_ReadConf.f k a0_2).bind fun bt520 => (some bt520.2)) else (if a0_1 = 3 then (some (decide ((a0_2.size : Int) ≤ 120))) else (some false)))) else (some false))
theorem impl_EntryOk.calls (k : Nat) (a0_0 : Int) (a0_1 : Int) (a0_2 : ByteArray) (r : Bool) (w : World) (H : impl_EntryOk.f k a0_0 a0_1 a0_2 = some r) :
 Calls Tryz.prog 89 #[.agg #[.int .i64 a0_0, .int .i64 a0_1, .string a0_2]] w fun e w' => e = .returned (.bool r) ∧ Below w.heap.size w w' := by
 have hu105 := Tryz.underlying105; have HB := ak (Below.refl w.heap.size w); unfold impl_EntryOk.f at H; obtain ⟨t519, A2, H⟩ := bo H; cases t519; rotate_left
 focus
  rw [if_pos rfl] at H; revert H
  refine si (fun c4 H => ?_) fun c4 H => ?_
  have c4b0 : (a0_1 == 1) = true := beq_iff_eq.mpr c4; have c4b1 : (a0_1 != 1) = false := bne_eq_false_iff_eq.mpr c4; clear c4; obtain rfl := oj H; rotate_left
  focus
   have c4b0 : (a0_1 == 1) = false := beq_eq_false_iff_ne.mpr c4; have c4b1 : (a0_1 != 1) = true := bne_iff_ne.mpr c4; revert H
   refine si (fun c7 H => ?_) fun c7 H => ?_
   have c7b0 : (a0_1 == 2) = true := beq_iff_eq.mpr c7; have c7b1 : (a0_1 != 2) = false := bne_eq_false_iff_eq.mpr c7; clear c7; obtain ⟨⟨t520, t521⟩, A8, H⟩ := bo H
   try dsimp only at H
   obtain rfl := oj H; rotate_left
   focus
    have c7b0 : (a0_1 == 2) = false := beq_eq_false_iff_ne.mpr c7; have c7b1 : (a0_1 != 2) = true := bne_iff_ne.mpr c7; revert H
    refine si (fun c12 H => ?_) fun c12 H => ?_
    have c12b0 : (a0_1 == 3) = true := beq_iff_eq.mpr c12; have c12b1 : (a0_1 != 3) = false := bne_eq_false_iff_eq.mpr c12; clear c12; obtain rfl := oj H; rotate_left; have c12b0 : (a0_1 == 3) = false := beq_eq_false_iff_ne.mpr c12; have c12b1 : (a0_1 != 3) = true := bne_iff_ne.mpr c12; obtain rfl := oj H
 rotate_left 4; rw [if_neg nf] at H; obtain rfl := oj H
 all_goals
  go_enter Tryz.func89, Tryz.ntmps89
  go_wp2_with (first | ((with_reducible refine gd 1 rfl ?_); refine bx 1 105 #[.int .i64 a0_0, .int .i64 a0_1, .string a0_2] fun gb518 hg w9 BK518 hb => ?_; have GE518 := ge_ hg HB; replace HB := bs1 HB hb; clear hb hg; obtain ⟨_, _, _, _, _, _⟩ := bc3 BK518) | ((with_reducible refine gd 7 rfl ?_); refine gc 7 Tryz.func54 (impl_in.calls a0_0 0 100000 _ _ A2.out) fun w' h_ => ?_; obtain ⟨nd, rfl⟩ := h_) | ((with_reducible refine gd 21 rfl ?_); refine gcv 21 Tryz.func107 (impl_ReadConf.calls k a0_2 t520 t521 _ A8.out) fun v522 w11 h_ => ?_; obtain ⟨ho0, hb⟩ := h_; have HO523 := ak (Kd.R_lower ho0 (below_size (bt HB))); replace BK518 := bb BK518 hb; replace HB := bs1 HB hb; (try clear ho0)))
  go_ret; exact ⟨fe, bt HB⟩
mutual
def impl_LogOk.j0 : Nat → Bool → Int → Int → List (S105) → Option (Bool)
 | 0, _, _, _, _ => none
 | k + 1, x30, x525000, x525001, x525002 => if x30 = true then (some false) else (impl_LogOk.l0 k x525001 x525002 (x525002.length : Int) 0)
def impl_LogOk.l0 : Nat → Int → List (S105) → Int → Int → Option (Bool)
 | 0, _, _, _, _ => none
 | k + 1, x3, x34, x35, x36 => if x36 < x35 then (if 0 ≤ x36 then (if x36 < (x34.length : Int) then ((impl_EntryOk.f k ((rd_T105 x34 x36).f0) ((rd_T105 x34 x36).f1) ((rd_T105 x34 x36).f2)).bind fun t529 => (if t529 = true then (if ((rd_T105 x34 x36).f0) < x3 then (some false) else (impl_LogOk.l0 k ((rd_T105 x34 x36).f0) x34 x35 (wrap64 (x36 + 1)))) else (some false))) else (none)) else (none)) else (some true)
end
def impl_LogOk.f (k : Nat) (a0_0 : Int) (a0_1 : Int) (l0_2 : List (S105)) : Option (Bool) := (impl_in.f a0_0 0 1000000).bind fun t525 => (if t525 = true then ((impl_in.f a0_1 0 100000).bind fun t526 => (if t526 = true then (if (l0_2.length : Int) > 60 then (impl_LogOk.j0 k true a0_0 a0_1 l0_2) else (impl_LogOk.j0 k (decide ((wrap64 (a0_0 + (l0_2.length : Int))) > 1000000)) a0_0 a0_1 l0_2)) else (impl_LogOk.j0 k true a0_0 a0_1 l0_2))) else (impl_LogOk.j0 k true a0_0 a0_1 l0_2))
theorem impl_LogOk.calls (k : Nat) (a0_0 : Int) (a0_1 : Int) (A0_2 : Option Addr) (c0_2 : Nat) (l0_2 : List (S105)) (r : Bool) (w : World) (hr0_2 : Kd.C k105 w A0_2 l0_2.length l0_2) (hc0_2 : l0_2.length ≤ c0_2) (H : impl_LogOk.f k a0_0 a0_1 l0_2 = some r) :
 Calls Tryz.prog 58 #[.agg #[.int .i64 a0_0, .int .i64 a0_1, .slice A0_2 l0_2.length c0_2]] w fun e w' => e = .returned (.bool r) ∧ Below w.heap.size w w' := by
 have hu28 := Tryz.underlying28; have hu105 := Tryz.underlying105; have HR0_2 := ak hr0_2; have HC0_2 := ak hc0_2; clear hr0_2 hc0_2; have HB := ak (Below.refl w.heap.size w); unfold impl_LogOk.f at H; have HC2 := ak H; clear H; go_enter Tryz.func58, Tryz.ntmps58
 go_upto_region 1 with (first | ((with_reducible refine gate_dst (N := 1) rfl ?_); (try (refine gate_guard (by rfl) ?_; dsimp only)); refine box_event ?hg (N := 1) ?hd (cs := #[.int .i64 a0_0, .int .i64 a0_1, .slice A0_2 l0_2.length c0_2]) (t := 28) ?hr ?_; (case hd => rfl); (case hg => rfl); (case hr => first | (go_simp; done) | (go_simp; rfl)); intro gb524 hg w3 hbox hb; have BK524 := ak hbox; have GE524 := ge_ hg HB; replace HB := bs1 HB hb; clear hb hbox hg))
 (try simp only [Act.put, zA, zB, zC])
 go_cut [30] (fun v30 wc => ∃ (kq : Nat) (x30_1 : Bool), v30 = .bool x30_1 ∧ Aside0 (impl_LogOk.j0 kq x30_1 a0_0 a0_1 l0_2 = some r) ∧ Aside0 (kq ≤ k) ∧ Aside0 (wc.heap[gb524]? = some (.cells #[.int .i64 a0_0, .int .i64 a0_1, (.slice A0_2 l0_2.length c0_2)] 28 (0, 0))) ∧ Aside0 (Below w.heap.size w wc))
 case first =>
  have H := HC2.out; clear HC2; obtain ⟨t525, A4, H⟩ := bo H; cases t525; rotate_left
  focus
   rw [if_pos rfl] at H; obtain ⟨t526, A6, H⟩ := bo H; cases t526; rotate_left
   focus
    rw [if_pos rfl] at H; revert H
    refine si (fun c8 H => ?_) fun c8 H => ?_
    have c8b0 : decide (60 < (l0_2.length : Int)) = true := dt c8
    have c8b1 : decide (60 < l0_2.length) = true := dt (by omega)
    clear c8
    (first | rw [c8b0] | (simp only [i64_w, i32_w]; rw [c8b0]) | skip)
    have H' := ak H; clear H; obtain ⟨_, _, _, _, _, _⟩ := bc3 BK524; rotate_left; have c8b0 : decide (60 < (l0_2.length : Int)) = false := df c8
    have c8b1 : decide (60 < l0_2.length) = false := df (by omega)
    clear c8
    (first | rw [c8b0] | (simp only [i64_w, i32_w]; rw [c8b0]) | skip)
    have H' := ak H; clear H; obtain ⟨_, _, _, _, _, _⟩ := bc3 BK524
   rotate_left 2; rw [if_neg nf] at H; have H' := ak H; clear H; obtain ⟨_, _, _, _, _, _⟩ := bc3 BK524
  rotate_left 3; rw [if_neg nf] at H; have H' := ak H; clear H; obtain ⟨_, _, _, _, _, _⟩ := bc3 BK524
  all_goals
   go_wp2_with (first | ((with_reducible refine gd 8 rfl ?_); refine gc 8 Tryz.func54 (impl_in.calls a0_0 0 1000000 _ _ A4.out) fun w' h_ => ?_; obtain ⟨nd, rfl⟩ := h_) | (go_at_call 54; (with_reducible refine (impl_in.calls a0_1 0 100000 _ _ A6.out).mono ?_); rintro e w' ⟨rfl, ⟨nd, rfl⟩⟩))
  rotate_left 2
  ·go_meet
   case rel => exact ⟨_, (decide ((wrap64 (a0_0 + (l0_2.length : Int))) > 1000000)), fr, H', ⟨by first | omega | exact Nat.le_refl _⟩, ⟨bk BK524⟩, ⟨bt HB⟩⟩
  all_goals
   go_meet
   case rel => exact ⟨_, (true), fr, H', ⟨by first | omega | exact Nat.le_refl _⟩, ⟨bk BK524⟩, ⟨bt HB⟩⟩
 case rest =>
  clear HC2; obtain ⟨kq, x30_1, rfl, HA, HJ1, BK524, HB⟩ := hcut
  cases kq with
  | zero => exact absurd HA.out (by simp [impl_LogOk.j0])
  | succ kj1 =>
   have H := HA.out; clear HA; simp only [impl_LogOk.j0] at H; cases x30_1; rotate_left
   ·rw [if_pos rfl] at H; obtain rfl := oj H; go_wp2; go_ret; exact ⟨fe, bt HB⟩
   ·rw [if_neg nf] at H; have H' := ak H; clear H; obtain ⟨_, _, _, _, _, _⟩ := bc3 BK524; go_wp2
    go_loopg [3, 36] kj1 (fun kq v3 v36 w' => ∃ (x3_2 : Int) (x36_2 : Int), v3 = .int .i64 x3_2 ∧ v36 = .int .i64 x36_2 ∧ Aside0 (impl_LogOk.l0 kq x3_2 l0_2 (l0_2.length : Int) x36_2 = some r) ∧ Aside0 (kq ≤ kj1) ∧ Aside0 (w'.heap[gb524]? = some (.cells #[.int .i64 a0_0, .int .i64 a0_1, (.slice A0_2 l0_2.length c0_2)] 28 (0, 0))) ∧ Aside0 (Below w.heap.size w w'))
    case atStart => exact ⟨(a0_1), (0), fr, fr, H', ⟨Nat.le_refl _⟩, ⟨bk BK524⟩, ⟨bt HB⟩⟩
    case round =>
     clear H'; obtain ⟨x3_2, x36_2, rfl, rfl, HA, HK2, BK524, HB⟩ := hrel
     cases gk with
     | zero => exact absurd HA.out (by simp [impl_LogOk.l0])
     | succ k2 =>
      have H := HA.out; clear HA; simp only [impl_LogOk.l0] at H; revert H
      refine si (fun c15 H => ?_) fun c15 H => ?_
      ·have c15b0 := dt c15; clear c15; obtain ⟨c16, H⟩ := ifs H; have c16b0 := dt c16; clear c16; obtain ⟨c17, H⟩ := ifs H; have c17b0 := dt c17; clear c17; obtain ⟨t529, A18, H⟩ := bo H; cases t529; rotate_left
       ·rw [if_pos rfl] at H; revert H
        refine si (fun c20 H => ?_) fun c20 H => ?_
        have c20b0 := dt c20; clear c20; obtain rfl := oj H; obtain ⟨ad527, e527, hx527_0, hx527_1, hx527_2, p527, q527⟩ := ax105 HR0_2 HB x36_2; cases e527; rotate_left; have c20b0 := df c20; clear c20; have H' := ak H; clear H; obtain ⟨ad527, e527, hx527_0, hx527_1, hx527_2, p527, q527⟩ := ax105 HR0_2 HB x36_2; cases e527
        all_goals
         go_wp2_with (first | ((with_reducible refine gate_dst (N := 5) rfl ?_); (try (refine gate_guard (by rfl) ?_; dsimp only)); refine box_event ?hg (N := 5) ?hd (cs := #[.int .i64 0, .int .i64 0, .string (⟨#[]⟩ : ByteArray)]) (t := 105) ?hr ?_; (case hd => rfl); (case hg => rfl); (case hr => first | (go_simp; done) | (go_simp; rfl)); intro gb528 hg w26 hbox hb; have BK528 := ak hbox; have GE528 := ge_ hg HB; replace HB := bs1 HB hb; have NB524_528 := nl_ hg BK524; have NB528_524 := nr_ hg BK524; replace BK524 := bb BK524 hb; clear hb hbox hg; have := NB528_524.out; have := NB524_528.out; obtain ⟨_, _, _, _, _, _⟩ := bc3 BK528) | ((with_reducible refine gd 41 rfl ?_); refine gc 41 Tryz.func89 (impl_EntryOk.calls k2 ((rd_T105 l0_2 x36_2).f0) ((rd_T105 l0_2 x36_2).f1) ((rd_T105 l0_2 x36_2).f2) true _ A18.out) fun w29 hb => ?_; replace BK524 := bbg BK524 hb; replace BK528 := bbp BK528 hb #[.int .i64 ((rd_T105 l0_2 x36_2).f0), .int .i64 ((rd_T105 l0_2 x36_2).f1), .string ((rd_T105 l0_2 x36_2).f2)]; replace HB := bs1 HB hb; obtain ⟨_, _, _, _, _, _⟩ := bc3 BK528))
        ·go_roundg k2
         case measure => have := HJ1.out; have := HK2.out; omega
         case rel => exact ⟨((rd_T105 l0_2 x36_2).f0), (wrap64 (x36_2 + 1)), fr, fr, H', ⟨by have := HJ1.out; have := HK2.out; omega⟩, ⟨bk BK524⟩, ⟨bt HB⟩⟩
        ·go_ret; exact ⟨fe, bt HB⟩
       ·rw [if_neg nf] at H; obtain rfl := oj H; obtain ⟨ad527, e527, hx527_0, hx527_1, hx527_2, p527, q527⟩ := ax105 HR0_2 HB x36_2; cases e527
        go_wp2_with (first | ((with_reducible refine gate_dst (N := 5) rfl ?_); (try (refine gate_guard (by rfl) ?_; dsimp only)); refine box_event ?hg (N := 5) ?hd (cs := #[.int .i64 0, .int .i64 0, .string (⟨#[]⟩ : ByteArray)]) (t := 105) ?hr ?_; (case hd => rfl); (case hg => rfl); (case hr => first | (go_simp; done) | (go_simp; rfl)); intro gb528 hg w31 hbox hb; have BK528 := ak hbox; have GE528 := ge_ hg HB; replace HB := bs1 HB hb; have NB524_528 := nl_ hg BK524; have NB528_524 := nr_ hg BK524; replace BK524 := bb BK524 hb; clear hb hbox hg; have := NB528_524.out; have := NB524_528.out; obtain ⟨_, _, _, _, _, _⟩ := bc3 BK528) | ((with_reducible refine gd 41 rfl ?_); refine gc 41 Tryz.func89 (impl_EntryOk.calls k2 ((rd_T105 l0_2 x36_2).f0) ((rd_T105 l0_2 x36_2).f1) ((rd_T105 l0_2 x36_2).f2) false _ A18.out) fun w34 hb => ?_; replace BK524 := bbg BK524 hb; replace BK528 := bbp BK528 hb #[.int .i64 ((rd_T105 l0_2 x36_2).f0), .int .i64 ((rd_T105 l0_2 x36_2).f1), .string ((rd_T105 l0_2 x36_2).f2)]; replace HB := bs1 HB hb))
        go_ret; exact ⟨fe, bt HB⟩
      ·have c15b0 := df c15; clear c15; obtain rfl := oj H; go_wp2; go_ret; exact ⟨fe, bt HB⟩
def impl_hardOk.f (a0 : Int) (a1 : Int) : Option (Bool) := (impl_in.f a0 0 100000).bind fun t530 => (if t530 = true then ((impl_in.f a1 0 4).bind fun t531 => (some t531)) else (some false))
theorem impl_hardOk.calls (a0 : Int) (a1 : Int) (r : Bool) (w : World) (H : impl_hardOk.f a0 a1 = some r) :
 Calls Tryz.prog 90 #[.int .i64 a0, .int .i64 a1] w fun e w' => e = .returned (.bool r) ∧ Drawn0 w w' := by
 unfold impl_hardOk.f at H; obtain ⟨t530, A3, H⟩ := bo H; cases t530; rotate_left; rw [if_pos rfl] at H; obtain ⟨t531, A5, H⟩ := bo H; obtain rfl := oj H; rotate_left; rw [if_neg nf] at H; obtain rfl := oj H
 all_goals
  go_enter Tryz.func90, Tryz.ntmps90
  go_wp2_with (first | ((with_reducible refine gd 6 rfl ?_); refine gc 6 Tryz.func54 (impl_in.calls a0 0 100000 _ _ A3.out) fun w' h_ => ?_; obtain ⟨nd, rfl⟩ := h_) | (go_at_call 54; (with_reducible refine (impl_in.calls a1 0 4 t531 _ A5.out).mono ?_); rintro e w' ⟨rfl, ⟨nd, rfl⟩⟩))
  go_ret
  exact ⟨fr, d0⟩
end Go.Proofs.YtdepaileabejgaaGreatDoor.PFnExactOpenJournal
