/- Walks. No condition. -/
import Derived.Test.YtdepaileabejgaaGreatDoorQFnExactOpenJournalx6
namespace Go.Proofs.YtdepaileabejgaaGreatDoor.PFnExactOpenJournal
open Go.RowKit Go.Proofs.YtdepaileabejgaaGreatDoorW.PrintWords Go.Proofs.YtdepaileabejgaaGreatDoorW.PrintLast Go.Proofs.YtdepaileabejgaaGreatDoorW.PrintMore Go.Proofs.YtdepaileabejgaaGreatDoorW.Short
attribute [local go_sem] max2_int min2_int max_two min_two max_three min_three max_four min_four
set_option maxHeartbeats 8000000
set_option maxRecDepth 100000
set_option linter.unusedVariables false
set_option linter.unusedSimpArgs false
def spec_ConfOk.f (k : Nat) (l0 : List Int) : Option (Bool) := (spec_l01In.f (l0.length : Int) 1 4).bind fun t184 => (if t184 = true then ((spec_l05Rise.f k l0 1 4).bind fun t185 => (some t185)) else (some false))
theorem spec_ConfOk.calls (k : Nat) (A0 : Option Addr) (c0 : Nat) (l0 : List Int) (r : Bool) (w : World) (hr0 : Kd.C (Kd.int .i64) w A0 l0.length l0) (hc0 : l0.length ≤ c0) (H : spec_ConfOk.f k l0 = some r) :
 Calls Tryz.prog 114 #[.slice A0 l0.length c0] w fun e w' => e = .returned (.bool r) ∧ Drawn0 w w' := by
 have HR0 := ak hr0; have HC0 := ak hc0; clear hr0 hc0; unfold spec_ConfOk.f at H; obtain ⟨t184, A2, H⟩ := bo H; cases t184; rotate_left; rw [if_pos rfl] at H; obtain ⟨t185, A4, H⟩ := bo H; obtain rfl := oj H; rotate_left; rw [if_neg nf] at H; obtain rfl := oj H
 all_goals
  go_enter Tryz.func114, Tryz.ntmps114
  go_wp2_with (first | ((with_reducible refine gd 5 rfl ?_); refine gc 5 Tryz.func42 (spec_l01In.calls (l0.length : Int) 1 4 _ _ A2.out) fun w' h_ => ?_; obtain ⟨nd, rfl⟩ := h_) | (go_at_call 122; (with_reducible refine (spec_l05Rise.calls k _ _ l0 1 4 t185 _ ?side1 ?side2 A4.out).mono ?_); (case side1 => repeat (first | exact HR0.out | (with_reducible refine Kd.C_alloc ?_ _) | (with_reducible refine Kd.C_drewN ?_ _) | (with_reducible refine Kd.C_drew ?_))); (case side2 => exact HC0.out); rintro e w' ⟨rfl, ⟨nd, rfl⟩⟩))
  go_ret
  exact ⟨fr, d0⟩
def spec_ReadConf.l0 : Nat → ByteArray → List Int → Int → Option (List Int × Bool)
 | 0, _, _, _ => none
 | k + 1, x0, x4, x5 => if x5 < (x0.size : Int) then (if x5 ≤ 4 then (if 0 ≤ x5 then (if x4.length < 17592186044416 then (spec_ReadConf.l0 k x0 (x4 ++ [wrap64 (bt x0 x5)]) (wrap64 (x5 + 1))) else (none)) else (none)) else (if (x4.length : Int) = (x0.size : Int) then ((spec_ConfOk.f k x4).bind fun t192 => (if t192 = true then (some (x4, true)) else (some ((([] : List Int)), false)))) else (some ((([] : List Int)), false)))) else (if (x4.length : Int) = (x0.size : Int) then ((spec_ConfOk.f k x4).bind fun t199 => (if t199 = true then (some (x4, true)) else (some ((([] : List Int)), false)))) else (some ((([] : List Int)), false)))
def spec_ReadConf.f (k : Nat) (a0 : ByteArray) : Option (List Int × Bool) := spec_ReadConf.l0 k a0 (([] : List Int)) 0
theorem spec_ReadConf.calls (k : Nat) (a0 : ByteArray) (r1 : List Int) (r2 : Bool) (w : World) (H : spec_ReadConf.f k a0 = some (r1, r2)) :
 Calls Tryz.prog 99 #[.string a0] w fun e w' => ∃ v0_ : Value, e = .returned (.tuple #[v0_, .bool r2]) ∧ Kd.R (Kd.int .i64) 3 w' w.heap.size (fun _ => True) v0_ r1 ∧ Below w.heap.size w w' := by
 have HB := ak (Below.refl w.heap.size w); unfold spec_ReadConf.f at H; obtain ⟨y186, hy186⟩ : ∃ y_ : List Int, y_ = (([] : List Int)) := ⟨_, rfl⟩
 first | replace H := bs hy186 H | rw [← hy186] at H
 have Ny186 := ak hy186; clear hy186; have H' := ak H; clear H; go_enter Tryz.func99, Tryz.ntmps99
 go_wp2_with (first | ((with_reducible refine gate_dst (N := 6) rfl ?_); refine Kd.R_lit (Kd.int .i64) _ 3 ?hg (N := 6) ?hd (xs := ([] : List Int)) (inner := []) (ok := fun _ => True) (okp := fun _ => True) ?hr ?hp (fun _ hk => hk) trivial (Below.refl _ _) (Nat.le_refl _) (by simp) ?_; (case hd => rfl); (case hg => rfl); (case hr => first | (go_simp; done) | (go_simp; rfl)); (case hp => exact (Reps.none _ _)); intro v187 w2 ho3 hb hg_ hnew_; clear hg_ hnew_; (first | rw [← Ny186.out] at ho3 | (simp only [Int.reduceToNat] at ho3; rw [← Ny186.out] at ho3)); have HO188 := ak (Kd.R_lower ho3 (below_size (bt HB))); replace HB := bs1 HB hb; clear hb ho3))
 go_loopg [4, 5] k (fun kq v4 v5 w' => ∃ (x4_1 : List Int) (x5_1 : Int), v5 = .int .i64 x5_1 ∧ Aside0 (spec_ReadConf.l0 kq a0 x4_1 x5_1 = some (r1, r2)) ∧ Aside0 (kq ≤ k) ∧ Aside0 (Kd.R (Kd.int .i64) 3 w' w.heap.size (fun _ => True) v4 x4_1) ∧ Aside0 (Below w.heap.size w w'))
 case atStart => exact ⟨(y186), (0), fr, H', ⟨Nat.le_refl _⟩, ⟨rk HO188⟩, ⟨bt HB⟩⟩
 case round =>
  clear H'; obtain ⟨x4_1, x5_1, rfl, HA, HK1, HO_4, HB⟩ := hrel
  cases gk with
  | zero => exact absurd HA.out (by simp [spec_ReadConf.l0])
  | succ k1 =>
   have H := HA.out; clear HA; simp only [spec_ReadConf.l0] at H; revert H
   refine si (fun c4 H => ?_) fun c4 H => ?_
   ·have c4b0 := dt c4; clear c4; revert H
    refine si (fun c5 H => ?_) fun c5 H => ?_
    ·have c5b0 := dt c5; clear c5; obtain ⟨c6, H⟩ := ifs H; have c6b0 := dt c6; clear c6; obtain ⟨c8, H⟩ := ifs H; have LMc8 := ak c8; clear c8; obtain ⟨y189, hy189⟩ : ∃ y_ : List Int, y_ = (x4_1 ++ [wrap64 (bt a0 x5_1)]) := ⟨_, rfl⟩
     first | replace H := bs hy189 H | rw [← hy189] at H
     have Ny189 := ak hy189; clear hy189; have H' := ak H; clear H; have p7 : 0 ≤ (x5_1 : Int) := da; have q7 : x5_1 < (a0.size : Int) := da; have hx7 := bt_at a0 x5_1; replace p7 := eq_true p7; replace q7 := eq_true q7
     go_wp2_with (first | ((with_reducible refine gate_builtin (b := .append) (xs := #[.tmp 17, .tmp 22]) rfl ?_); at_builtin; refine Kd.R_append (Kd.int .i64) (w0 := w) w.heap.size rfl (.tmp 17) (.tmp 22) 126 3 (.int .i64 0) 8 rfl Tryz.underlying126 info3 rfl (by decide) (by omega) u4 x4_1 (wrap64 (bt a0 x5_1)) [.int .i64 (wrap64 (bt a0 x5_1))] (fun _ => True) (fun _ => False) rfl rfl ?aP (fun _ hk => hk.elim) ?aF ?aO ?aB ?aS ?aL ?_; (case aP => exact rfl); (case aB => exact (bt HB)); (case aF => exact (fun _ _ => trivial)); (case aO => exact (rk HO_4)); (case aS => exact (below_size (bt HB))); (case aL => have := LMc8.out; omega); intro v190 w9 ho hb hg hat; rw [← Ny189.out] at ho; have n0_ := ak hb; have n1_ := ak ho; clear HB HO_4; revert n0_ n1_; intro HB HO191; clear ho hb hg hat))
     go_roundg k1
     case measure => have := HK1.out; omega
     case rel => exact ⟨(y189), (wrap64 (x5_1 + 1)), fr, H', ⟨by have := HK1.out; omega⟩, ⟨rk HO191⟩, ⟨bt HB⟩⟩
    ·have c5b0 := df c5; clear c5; revert H
     refine si (fun c10 H => ?_) fun c10 H => ?_
     ·have c10b0 : ((x4_1.length : Int) == (a0.size : Int)) = true := beq_iff_eq.mpr c10; have c10b1 : ((x4_1.length : Int) != (a0.size : Int)) = false := bne_eq_false_iff_eq.mpr c10
      have c10b2 : (x4_1.length == a0.size) = true := by first | simpa using c10 | (simp at c10 ⊢; omega)
      clear c10; obtain ⟨t192, A11, H⟩ := bo H; cases t192; rotate_left; rw [if_pos rfl] at H; obtain ⟨rfl, rfl⟩ := o2 H; obtain ⟨Ao13, co13, eo13⟩ := Kd.R_slice HO_4.out; subst eo13; rotate_left; rw [if_neg nf] at H; obtain ⟨y193, hy193⟩ : ∃ y_ : List Int, y_ = (([] : List Int)) := ⟨_, rfl⟩
      first | replace H := bs hy193 H | rw [← hy193] at H
      have Ny193 := ak hy193; clear hy193; obtain ⟨rfl, rfl⟩ := o2 H; obtain ⟨Ao14, co14, eo14⟩ := Kd.R_slice HO_4.out; subst eo14
      all_goals
       go_wp2_with (first | (go_at_call 114; (with_reducible refine (spec_ConfOk.calls k1 _ _ x4_1 _ _ ?side1 ?side2 A11.out).mono ?_); (case side1 => exact cr HO_4); (case side2 => exact (Kd.R_reads' HO_4.out).2.1); rintro e w' ⟨rfl, ⟨nd, rfl⟩⟩) | ((with_reducible refine gate_dst (N := 34) rfl ?_); refine Kd.R_lit (Kd.int .i64) _ 3 ?hg (N := 34) ?hd (xs := ([] : List Int)) (inner := []) (ok := fun _ => True) (okp := fun _ => True) ?hr ?hp (fun _ hk => hk) trivial (Below.refl _ _) (Nat.le_refl _) (by simp) ?_; (case hd => rfl); (case hg => rfl); (case hr => first | (go_simp; done) | (go_simp; rfl)); (case hp => exact (Reps.none _ _)); intro v194 w15 ho16 hb hg_ hnew_; clear hg_ hnew_; (first | rw [← Ny193.out] at ho16 | (simp only [Int.reduceToNat] at ho16; rw [← Ny193.out] at ho16)); have HO195 := ak (Kd.R_lower (Kd.R_new' ho16 (Kd.R_lt (rk HO_4))) (below_size (bt HB))); replace HO_4 := ak (Kd.R_elder' (rk HO_4) (Kd.R_base ho16) hb); replace HB := bs1 HB hb; clear hb ho16))
       go_ret2
      ·exact ⟨_, fe, Kd.R_mono (rk HO195) (fun _ hk => trivial), bt HB⟩
      ·exact ⟨_, fe, rk HO_4, bt HB⟩
     ·have c10b0 : ((x4_1.length : Int) == (a0.size : Int)) = false := beq_eq_false_iff_ne.mpr c10; have c10b1 : ((x4_1.length : Int) != (a0.size : Int)) = true := bne_iff_ne.mpr c10
      have c10b2 : (x4_1.length == a0.size) = false := by first | simpa using c10 | (simp at c10 ⊢; omega)
      obtain ⟨y196, hy196⟩ : ∃ y_ : List Int, y_ = (([] : List Int)) := ⟨_, rfl⟩
      first | replace H := bs hy196 H | rw [← hy196] at H
      have Ny196 := ak hy196; clear hy196; obtain ⟨rfl, rfl⟩ := o2 H; obtain ⟨Ao17, co17, eo17⟩ := Kd.R_slice HO_4.out; subst eo17
      go_wp2_with (first | ((with_reducible refine gate_dst (N := 34) rfl ?_); refine Kd.R_lit (Kd.int .i64) _ 3 ?hg (N := 34) ?hd (xs := ([] : List Int)) (inner := []) (ok := fun _ => True) (okp := fun _ => True) ?hr ?hp (fun _ hk => hk) trivial (Below.refl _ _) (Nat.le_refl _) (by simp) ?_; (case hd => rfl); (case hg => rfl); (case hr => first | (go_simp; done) | (go_simp; rfl)); (case hp => exact (Reps.none _ _)); intro v197 w18 ho19 hb hg_ hnew_; clear hg_ hnew_; (first | rw [← Ny196.out] at ho19 | (simp only [Int.reduceToNat] at ho19; rw [← Ny196.out] at ho19)); have HO198 := ak (Kd.R_lower (Kd.R_new' ho19 (Kd.R_lt (rk HO_4))) (below_size (bt HB))); replace HO_4 := ak (Kd.R_elder' (rk HO_4) (Kd.R_base ho19) hb); replace HB := bs1 HB hb; clear hb ho19))
      go_ret2
      exact ⟨_, fe, Kd.R_mono (rk HO198) (fun _ hk => trivial), bt HB⟩
   ·have c4b0 := df c4; clear c4; revert H
    refine si (fun c20 H => ?_) fun c20 H => ?_
    ·have c20b0 : ((x4_1.length : Int) == (a0.size : Int)) = true := beq_iff_eq.mpr c20; have c20b1 : ((x4_1.length : Int) != (a0.size : Int)) = false := bne_eq_false_iff_eq.mpr c20
     have c20b2 : (x4_1.length == a0.size) = true := by first | simpa using c20 | (simp at c20 ⊢; omega)
     clear c20; obtain ⟨t199, A21, H⟩ := bo H; cases t199; rotate_left; rw [if_pos rfl] at H; obtain ⟨rfl, rfl⟩ := o2 H; obtain ⟨Ao23, co23, eo23⟩ := Kd.R_slice HO_4.out; subst eo23; rotate_left; rw [if_neg nf] at H; obtain ⟨y200, hy200⟩ : ∃ y_ : List Int, y_ = (([] : List Int)) := ⟨_, rfl⟩
     first | replace H := bs hy200 H | rw [← hy200] at H
     have Ny200 := ak hy200; clear hy200; obtain ⟨rfl, rfl⟩ := o2 H; obtain ⟨Ao24, co24, eo24⟩ := Kd.R_slice HO_4.out; subst eo24
     all_goals
      go_wp2_with (first | (go_at_call 114; (with_reducible refine (spec_ConfOk.calls k1 _ _ x4_1 _ _ ?side1 ?side2 A21.out).mono ?_); (case side1 => exact cr HO_4); (case side2 => exact (Kd.R_reads' HO_4.out).2.1); rintro e w' ⟨rfl, ⟨nd, rfl⟩⟩) | ((with_reducible refine gate_dst (N := 34) rfl ?_); refine Kd.R_lit (Kd.int .i64) _ 3 ?hg (N := 34) ?hd (xs := ([] : List Int)) (inner := []) (ok := fun _ => True) (okp := fun _ => True) ?hr ?hp (fun _ hk => hk) trivial (Below.refl _ _) (Nat.le_refl _) (by simp) ?_; (case hd => rfl); (case hg => rfl); (case hr => first | (go_simp; done) | (go_simp; rfl)); (case hp => exact (Reps.none _ _)); intro v201 w25 ho26 hb hg_ hnew_; clear hg_ hnew_; (first | rw [← Ny200.out] at ho26 | (simp only [Int.reduceToNat] at ho26; rw [← Ny200.out] at ho26)); have HO202 := ak (Kd.R_lower (Kd.R_new' ho26 (Kd.R_lt (rk HO_4))) (below_size (bt HB))); replace HO_4 := ak (Kd.R_elder' (rk HO_4) (Kd.R_base ho26) hb); replace HB := bs1 HB hb; clear hb ho26))
      go_ret2
     ·exact ⟨_, fe, Kd.R_mono (rk HO202) (fun _ hk => trivial), bt HB⟩
     ·exact ⟨_, fe, rk HO_4, bt HB⟩
    ·have c20b0 : ((x4_1.length : Int) == (a0.size : Int)) = false := beq_eq_false_iff_ne.mpr c20; have c20b1 : ((x4_1.length : Int) != (a0.size : Int)) = true := bne_iff_ne.mpr c20
     have c20b2 : (x4_1.length == a0.size) = false := by first | simpa using c20 | (simp at c20 ⊢; omega)
     obtain ⟨y203, hy203⟩ : ∃ y_ : List Int, y_ = (([] : List Int)) := ⟨_, rfl⟩
     first | replace H := bs hy203 H | rw [← hy203] at H
     have Ny203 := ak hy203; clear hy203; obtain ⟨rfl, rfl⟩ := o2 H; obtain ⟨Ao27, co27, eo27⟩ := Kd.R_slice HO_4.out; subst eo27
     go_wp2_with (first | ((with_reducible refine gate_dst (N := 34) rfl ?_); refine Kd.R_lit (Kd.int .i64) _ 3 ?hg (N := 34) ?hd (xs := ([] : List Int)) (inner := []) (ok := fun _ => True) (okp := fun _ => True) ?hr ?hp (fun _ hk => hk) trivial (Below.refl _ _) (Nat.le_refl _) (by simp) ?_; (case hd => rfl); (case hg => rfl); (case hr => first | (go_simp; done) | (go_simp; rfl)); (case hp => exact (Reps.none _ _)); intro v204 w28 ho29 hb hg_ hnew_; clear hg_ hnew_; (first | rw [← Ny203.out] at ho29 | (simp only [Int.reduceToNat] at ho29; rw [← Ny203.out] at ho29)); have HO205 := ak (Kd.R_lower (Kd.R_new' ho29 (Kd.R_lt (rk HO_4))) (below_size (bt HB))); replace HO_4 := ak (Kd.R_elder' (rk HO_4) (Kd.R_base ho29) hb); replace HB := bs1 HB hb; clear hb ho29))
     go_ret2
     exact ⟨_, fe, Kd.R_mono (rk HO205) (fun _ hk => trivial), bt HB⟩
def spec_EntryOk.f (k : Nat) (a0_0 : Int) (a0_1 : Int) (a0_2 : ByteArray) : Option (Bool) := (spec_l01In.f a0_0 0 100000).bind fun t207 => (if t207 = true then (if a0_1 = 1 then (some (a0_2.toList == ([] : List UInt8))) else (if a0_1 = 2 then ((spec_ReadConf.f k a0_2).bind fun bt208 => (some bt208.2)) else (if a0_1 = 3 then (some (decide ((a0_2.size : Int) ≤ 120))) else (some false)))) else (some false))
theorem spec_EntryOk.calls (k : Nat) (a0_0 : Int) (a0_1 : Int) (a0_2 : ByteArray) (r : Bool) (w : World) (H : spec_EntryOk.f k a0_0 a0_1 a0_2 = some r) :
 Calls Tryz.prog 71 #[.agg #[.int .i64 a0_0, .int .i64 a0_1, .string a0_2]] w fun e w' => e = .returned (.bool r) ∧ Below w.heap.size w w' := by
 have hu105 := Tryz.underlying105; have HB := ak (Below.refl w.heap.size w); unfold spec_EntryOk.f at H; obtain ⟨t207, A2, H⟩ := bo H; cases t207; rotate_left
 focus
  rw [if_pos rfl] at H; revert H
  refine si (fun c4 H => ?_) fun c4 H => ?_
  have c4b0 : (a0_1 == 1) = true := beq_iff_eq.mpr c4; have c4b1 : (a0_1 != 1) = false := bne_eq_false_iff_eq.mpr c4; clear c4; obtain rfl := oj H; rotate_left
  focus
   have c4b0 : (a0_1 == 1) = false := beq_eq_false_iff_ne.mpr c4; have c4b1 : (a0_1 != 1) = true := bne_iff_ne.mpr c4; revert H
   refine si (fun c7 H => ?_) fun c7 H => ?_
   have c7b0 : (a0_1 == 2) = true := beq_iff_eq.mpr c7; have c7b1 : (a0_1 != 2) = false := bne_eq_false_iff_eq.mpr c7; clear c7; obtain ⟨⟨t208, t209⟩, A8, H⟩ := bo H
   try dsimp only at H
   obtain rfl := oj H; rotate_left
   focus
    have c7b0 : (a0_1 == 2) = false := beq_eq_false_iff_ne.mpr c7; have c7b1 : (a0_1 != 2) = true := bne_iff_ne.mpr c7; revert H
    refine si (fun c12 H => ?_) fun c12 H => ?_
    have c12b0 : (a0_1 == 3) = true := beq_iff_eq.mpr c12; have c12b1 : (a0_1 != 3) = false := bne_eq_false_iff_eq.mpr c12; clear c12; obtain rfl := oj H; rotate_left; have c12b0 : (a0_1 == 3) = false := beq_eq_false_iff_ne.mpr c12; have c12b1 : (a0_1 != 3) = true := bne_iff_ne.mpr c12; obtain rfl := oj H
 rotate_left 4; rw [if_neg nf] at H; obtain rfl := oj H
 all_goals
  go_enter Tryz.func71, Tryz.ntmps71
  go_wp2_with (first | ((with_reducible refine gd 1 rfl ?_); refine bx 1 105 #[.int .i64 a0_0, .int .i64 a0_1, .string a0_2] fun gb206 hg w9 BK206 hb => ?_; have GE206 := ge_ hg HB; replace HB := bs1 HB hb; clear hb hg; obtain ⟨_, _, _, _, _, _⟩ := bc3 BK206) | ((with_reducible refine gd 7 rfl ?_); refine gc 7 Tryz.func42 (spec_l01In.calls a0_0 0 100000 _ _ A2.out) fun w' h_ => ?_; obtain ⟨nd, rfl⟩ := h_) | ((with_reducible refine gd 21 rfl ?_); refine gcv 21 Tryz.func99 (spec_ReadConf.calls k a0_2 t208 t209 _ A8.out) fun v210 w11 h_ => ?_; obtain ⟨ho0, hb⟩ := h_; have HO211 := ak (Kd.R_lower ho0 (below_size (bt HB))); replace BK206 := bb BK206 hb; replace HB := bs1 HB hb; (try clear ho0)))
  go_ret; exact ⟨fe, bt HB⟩
mutual
def spec_LogOk.j0 : Nat → Bool → Int → Int → List (S105) → Option (Bool)
 | 0, _, _, _, _ => none
 | k + 1, x29, x213000, x213001, x213002 => if x29 = true then (some false) else (spec_LogOk.l0 k x213001 0 x213000 x213001 x213002)
def spec_LogOk.l0 : Nat → Int → Int → Int → Int → List (S105) → Option (Bool)
 | 0, _, _, _, _, _ => none
 | k + 1, x3, x4, x213000, x213001, x213002 => if x4 < (x213002.length : Int) then (if 0 ≤ x4 then ((spec_EntryOk.f k ((rd_T105 x213002 x4).f0) ((rd_T105 x213002 x4).f1) ((rd_T105 x213002 x4).f2)).bind fun t216 => (if t216 = true then (if ((rd_T105 x213002 x4).f0) < x3 then (some false) else (spec_LogOk.l0 k ((rd_T105 x213002 x4).f0) (wrap64 (x4 + 1)) x213000 x213001 x213002)) else (some false))) else (none)) else (some true)
end
def spec_LogOk.f (k : Nat) (a0_0 : Int) (a0_1 : Int) (l0_2 : List (S105)) : Option (Bool) := (spec_l01In.f a0_0 0 1000000).bind fun t213 => (if t213 = true then ((spec_l01In.f a0_1 0 100000).bind fun t214 => (if t214 = true then (if (l0_2.length : Int) > 60 then (spec_LogOk.j0 k true a0_0 a0_1 l0_2) else (spec_LogOk.j0 k (decide ((wrap64 (a0_0 + (l0_2.length : Int))) > 1000000)) a0_0 a0_1 l0_2)) else (spec_LogOk.j0 k true a0_0 a0_1 l0_2))) else (spec_LogOk.j0 k true a0_0 a0_1 l0_2))
theorem spec_LogOk.calls (k : Nat) (a0_0 : Int) (a0_1 : Int) (A0_2 : Option Addr) (c0_2 : Nat) (l0_2 : List (S105)) (r : Bool) (w : World) (hr0_2 : Kd.C k105 w A0_2 l0_2.length l0_2) (hc0_2 : l0_2.length ≤ c0_2) (H : spec_LogOk.f k a0_0 a0_1 l0_2 = some r) :
 Calls Tryz.prog 47 #[.agg #[.int .i64 a0_0, .int .i64 a0_1, .slice A0_2 l0_2.length c0_2]] w fun e w' => e = .returned (.bool r) ∧ Below w.heap.size w w' := by
 have hu28 := Tryz.underlying28; have hu105 := Tryz.underlying105; have HR0_2 := ak hr0_2; have HC0_2 := ak hc0_2; clear hr0_2 hc0_2; have HB := ak (Below.refl w.heap.size w); unfold spec_LogOk.f at H; have HC2 := ak H; clear H; go_enter Tryz.func47, Tryz.ntmps47
 go_upto_region 1 with (first | ((with_reducible refine gate_dst (N := 1) rfl ?_); (try (refine gate_guard (by rfl) ?_; dsimp only)); refine box_event ?hg (N := 1) ?hd (cs := #[.int .i64 a0_0, .int .i64 a0_1, .slice A0_2 l0_2.length c0_2]) (t := 28) ?hr ?_; (case hd => rfl); (case hg => rfl); (case hr => first | (go_simp; done) | (go_simp; rfl)); intro gb212 hg w3 hbox hb; have BK212 := ak hbox; have GE212 := ge_ hg HB; replace HB := bs1 HB hb; clear hb hbox hg))
 (try simp only [Act.put, zA, zB, zC])
 go_cut [29] (fun v29 wc => ∃ (kq : Nat) (x29_1 : Bool), v29 = .bool x29_1 ∧ Aside0 (spec_LogOk.j0 kq x29_1 a0_0 a0_1 l0_2 = some r) ∧ Aside0 (kq ≤ k) ∧ Aside0 (wc.heap[gb212]? = some (.cells #[.int .i64 a0_0, .int .i64 a0_1, (.slice A0_2 l0_2.length c0_2)] 28 (0, 0))) ∧ Aside0 (Below w.heap.size w wc))
 case first =>
  have H := HC2.out; clear HC2; obtain ⟨t213, A4, H⟩ := bo H; cases t213; rotate_left
  focus
   rw [if_pos rfl] at H; obtain ⟨t214, A6, H⟩ := bo H; cases t214; rotate_left
   focus
    rw [if_pos rfl] at H; revert H
    refine si (fun c8 H => ?_) fun c8 H => ?_
    have c8b0 : decide (60 < (l0_2.length : Int)) = true := dt c8
    have c8b1 : decide (60 < l0_2.length) = true := dt (by omega)
    clear c8
    (first | rw [c8b0] | (simp only [i64_w, i32_w]; rw [c8b0]) | skip)
    have H' := ak H; clear H; obtain ⟨_, _, _, _, _, _⟩ := bc3 BK212; rotate_left; have c8b0 : decide (60 < (l0_2.length : Int)) = false := df c8
    have c8b1 : decide (60 < l0_2.length) = false := df (by omega)
    clear c8
    (first | rw [c8b0] | (simp only [i64_w, i32_w]; rw [c8b0]) | skip)
    have H' := ak H; clear H; obtain ⟨_, _, _, _, _, _⟩ := bc3 BK212
   rotate_left 2; rw [if_neg nf] at H; have H' := ak H; clear H; obtain ⟨_, _, _, _, _, _⟩ := bc3 BK212
  rotate_left 3; rw [if_neg nf] at H; have H' := ak H; clear H; obtain ⟨_, _, _, _, _, _⟩ := bc3 BK212
  all_goals
   go_wp2_with (first | ((with_reducible refine gd 7 rfl ?_); refine gc 7 Tryz.func42 (spec_l01In.calls a0_0 0 1000000 _ _ A4.out) fun w' h_ => ?_; obtain ⟨nd, rfl⟩ := h_) | (go_at_call 42; (with_reducible refine (spec_l01In.calls a0_1 0 100000 _ _ A6.out).mono ?_); rintro e w' ⟨rfl, ⟨nd, rfl⟩⟩))
  rotate_left 2
  ·go_meet
   case rel => exact ⟨_, (decide ((wrap64 (a0_0 + (l0_2.length : Int))) > 1000000)), fr, H', ⟨by first | omega | exact Nat.le_refl _⟩, ⟨bk BK212⟩, ⟨bt HB⟩⟩
  all_goals
   go_meet
   case rel => exact ⟨_, (true), fr, H', ⟨by first | omega | exact Nat.le_refl _⟩, ⟨bk BK212⟩, ⟨bt HB⟩⟩
 case rest =>
  clear HC2; obtain ⟨kq, x29_1, rfl, HA, HJ1, BK212, HB⟩ := hcut
  cases kq with
  | zero => exact absurd HA.out (by simp [spec_LogOk.j0])
  | succ kj1 =>
   have H := HA.out; clear HA; simp only [spec_LogOk.j0] at H; cases x29_1; rotate_left
   ·rw [if_pos rfl] at H; obtain rfl := oj H; go_wp2; go_ret; exact ⟨fe, bt HB⟩
   ·rw [if_neg nf] at H; have H' := ak H; clear H; obtain ⟨_, _, _, _, _, _⟩ := bc3 BK212; go_wp2
    go_loopg [3, 4] kj1 (fun kq v3 v4 w' => ∃ (x3_2 : Int) (x4_2 : Int), v3 = .int .i64 x3_2 ∧ v4 = .int .i64 x4_2 ∧ Aside0 (spec_LogOk.l0 kq x3_2 x4_2 a0_0 a0_1 l0_2 = some r) ∧ Aside0 (kq ≤ kj1) ∧ Aside0 (w'.heap[gb212]? = some (.cells #[.int .i64 a0_0, .int .i64 a0_1, (.slice A0_2 l0_2.length c0_2)] 28 (0, 0))) ∧ Aside0 (Below w.heap.size w w'))
    case atStart => exact ⟨(a0_1), (0), fr, fr, H', ⟨Nat.le_refl _⟩, ⟨bk BK212⟩, ⟨bt HB⟩⟩
    case round =>
     clear H'; obtain ⟨x3_2, x4_2, rfl, rfl, HA, HK2, BK212, HB⟩ := hrel
     cases gk with
     | zero => exact absurd HA.out (by simp [spec_LogOk.l0])
     | succ k2 =>
      have H := HA.out; clear HA; simp only [spec_LogOk.l0] at H; revert H
      refine si (fun c15 H => ?_) fun c15 H => ?_
      ·have c15b0 := dt c15; clear c15; obtain ⟨c16, H⟩ := ifs H; have c16b0 := dt c16; clear c16; obtain ⟨t216, A17, H⟩ := bo H; cases t216; rotate_left
       ·rw [if_pos rfl] at H; revert H
        refine si (fun c19 H => ?_) fun c19 H => ?_
        ·have c19b0 := dt c19; clear c19; obtain rfl := oj H; obtain ⟨_, _, _, _, _, _⟩ := bc3 BK212; obtain ⟨ad215, e215, hx215_0, hx215_1, hx215_2, p215, q215⟩ := ax105 HR0_2 HB x4_2; cases e215
         go_wp2_with (first | ((with_reducible refine gd 44 rfl ?_); refine gc 44 Tryz.func71 (spec_EntryOk.calls k2 ((rd_T105 l0_2 x4_2).f0) ((rd_T105 l0_2 x4_2).f1) ((rd_T105 l0_2 x4_2).f2) true _ A17.out) fun w21 hb => ?_; replace BK212 := bb BK212 hb; replace HB := bs1 HB hb; obtain ⟨_, _, _, _, _, _⟩ := bc3 BK212; have p217 : 0 ≤ (x4_2 : Int) := da; have q217 : x4_2 < (l0_2.length : Int) := da; obtain ⟨ad217, e217, hx217_0, hx217_1, hx217_2⟩ := at_T105 HR0_2.out x4_2 p217 q217; obtain rfl : ad215 = ad217 := (by injection e217); replace hx217_0 := xb HB hx217_0; replace hx217_1 := xb HB hx217_1; replace hx217_2 := xb HB hx217_2; replace p217 := eq_true p217; replace q217 := eq_true q217))
         go_ret; exact ⟨fe, bt HB⟩
        ·have c19b0 := df c19; clear c19; have H' := ak H; clear H; obtain ⟨_, _, _, _, _, _⟩ := bc3 BK212; obtain ⟨ad215, e215, hx215_0, hx215_1, hx215_2, p215, q215⟩ := ax105 HR0_2 HB x4_2; cases e215
         go_wp2_with (first | ((with_reducible refine gd 44 rfl ?_); refine gc 44 Tryz.func71 (spec_EntryOk.calls k2 ((rd_T105 l0_2 x4_2).f0) ((rd_T105 l0_2 x4_2).f1) ((rd_T105 l0_2 x4_2).f2) true _ A17.out) fun w24 hb => ?_; replace BK212 := bb BK212 hb; replace HB := bs1 HB hb; obtain ⟨_, _, _, _, _, _⟩ := bc3 BK212; have p217 : 0 ≤ (x4_2 : Int) := da; have q217 : x4_2 < (l0_2.length : Int) := da; obtain ⟨ad217, e217, hx217_0, hx217_1, hx217_2⟩ := at_T105 HR0_2.out x4_2 p217 q217; obtain rfl : ad215 = ad217 := (by injection e217); replace hx217_0 := xb HB hx217_0; replace hx217_1 := xb HB hx217_1; replace hx217_2 := xb HB hx217_2; replace p217 := eq_true p217; replace q217 := eq_true q217; have p218 : 0 ≤ (x4_2 : Int) := da; have q218 : x4_2 < (l0_2.length : Int) := da; obtain ⟨ad218, e218, hx218_0, hx218_1, hx218_2⟩ := at_T105 HR0_2.out x4_2 p218 q218; obtain rfl : ad215 = ad218 := (by injection e218); replace hx218_0 := xb HB hx218_0; replace hx218_1 := xb HB hx218_1; replace hx218_2 := xb HB hx218_2; replace p218 := eq_true p218; replace q218 := eq_true q218))
         go_roundg k2
         case measure => have := HJ1.out; have := HK2.out; omega
         case rel => exact ⟨((rd_T105 l0_2 x4_2).f0), (wrap64 (x4_2 + 1)), fr, fr, H', ⟨by have := HJ1.out; have := HK2.out; omega⟩, ⟨bk BK212⟩, ⟨bt HB⟩⟩
       ·rw [if_neg nf] at H; obtain rfl := oj H; obtain ⟨_, _, _, _, _, _⟩ := bc3 BK212; obtain ⟨ad215, e215, hx215_0, hx215_1, hx215_2, p215, q215⟩ := ax105 HR0_2 HB x4_2; cases e215
        go_wp2_with (first | ((with_reducible refine gd 44 rfl ?_); refine gc 44 Tryz.func71 (spec_EntryOk.calls k2 ((rd_T105 l0_2 x4_2).f0) ((rd_T105 l0_2 x4_2).f1) ((rd_T105 l0_2 x4_2).f2) false _ A17.out) fun w27 hb => ?_; replace BK212 := bb BK212 hb; replace HB := bs1 HB hb))
        go_ret; exact ⟨fe, bt HB⟩
      ·have c15b0 := df c15; clear c15; obtain rfl := oj H; obtain ⟨_, _, _, _, _, _⟩ := bc3 BK212; go_wp2; go_ret; exact ⟨fe, bt HB⟩
end Go.Proofs.YtdepaileabejgaaGreatDoor.PFnExactOpenJournal
