/- Walks. No condition. -/
import Derived.Test.YtdepaileabejgaaGreatDoorQFnExactOpenJournalx18
import Derived.Test.YtdepaileabejgaaGreatDoorQFnExactOpenJournalx19
namespace Go.Proofs.YtdepaileabejgaaGreatDoor.PFnExactOpenJournal
open Go.RowKit Go.Proofs.YtdepaileabejgaaGreatDoorW.PrintWords Go.Proofs.YtdepaileabejgaaGreatDoorW.PrintLast Go.Proofs.YtdepaileabejgaaGreatDoorW.PrintMore Go.Proofs.YtdepaileabejgaaGreatDoorW.Short
attribute [local go_sem] max2_int min2_int max_two min_two max_three min_three max_four min_four
set_option maxHeartbeats 8000000
set_option maxRecDepth 100000
set_option linter.unusedVariables false
set_option linter.unusedSimpArgs false
mutual
def impl_dropOthers.j0 : Nat → ByteArray → Int → ByteArray → List (S57) → List (S49) → Option ((List (S57)))
 | 0, _, _, _, _, _ => none
 | k + 1, x2, x3, x4, x11, x608000 => impl_dropOthers.l0 k x2 x3 x4 x11 x608000 (x608000.length : Int) 0
def impl_dropOthers.l0 : Nat → ByteArray → Int → ByteArray → List (S57) → List (S49) → Int → Int → Option ((List (S57)))
 | 0, _, _, _, _, _, _, _ => none
 | k + 1, x2, x3, x4, x11, x27, x28, x29 => if x29 < x28 then (if 0 ≤ x29 then (if x29 < (x27.length : Int) then ((impl_numbered.f ((rd_T49 x27 x29).f0) x2 x3).bind fun bt617 => (if bt617.2 = true then (if ((rd_T49 x27 x29).f0).toList = x4.toList then (impl_dropOthers.l0 k x2 x3 x4 x11 x27 x28 (wrap64 (x29 + 1))) else (if x11.length < 2513169434916 then (impl_dropOthers.l0 k x2 x3 x4 (x11 ++ [(⟨4, (rd_T49 x27 x29).f0, (⟨#[]⟩ : ByteArray), (⟨#[]⟩ : ByteArray)⟩ : S57)]) x27 x28 (wrap64 (x29 + 1))) else (none))) else (impl_dropOthers.l0 k x2 x3 x4 x11 x27 x28 (wrap64 (x29 + 1))))) else (none)) else (none)) else (some x11)
end
def impl_dropOthers.f (k : Nat) (l0_0 : List (S49)) (a1 : ByteArray) (a2 : ByteArray) (a3 : Int) (a4 : ByteArray) : Option ((List (S57))) := (some (([] : List (S57)) : List (S57))).bind fun y608 => ((impl_place.f l0_0 a1).bind fun t611 => (if t611 ≥ 0 then (if y608.length < 2513169434916 then (impl_dropOthers.j0 k a2 a3 a4 (y608 ++ [(⟨4, a1, (⟨#[]⟩ : ByteArray), (⟨#[]⟩ : ByteArray)⟩ : S57)]) l0_0) else (none)) else (impl_dropOthers.j0 k a2 a3 a4 y608 l0_0)))
theorem impl_dropOthers.calls (k : Nat) (A0_0 : Option Addr) (c0_0 : Nat) (l0_0 : List (S49)) (a1 : ByteArray) (a2 : ByteArray) (a3 : Int) (a4 : ByteArray) (r : List (S57)) (w : World) (hr0_0 : Kd.C k49 w A0_0 l0_0.length l0_0) (hc0_0 : l0_0.length ≤ c0_0) (H : impl_dropOthers.f k l0_0 a1 a2 a3 a4 = some r) (HT0 : TabE w) :
 Calls Tryz.prog 31 #[.agg #[.slice A0_0 l0_0.length c0_0], .string a1, .string a2, .int .i64 a3, .string a4] w fun e w' => ∃ v0_ : Value, e = .returned (v0_) ∧ Kd.R k57 57 w' w.heap.size (fun _ => True) v0_ r ∧ Below w.heap.size w w' := by
 have hu36 := Tryz.underlying36; have hu57 := Tryz.underlying57; have hu49 := Tryz.underlying49; have HR0_0 := ak hr0_0; have HC0_0 := ak hc0_0; clear hr0_0 hc0_0; have HB := ak (Below.refl w.heap.size w); have HT := ak HT0; clear HT0; unfold impl_dropOthers.f at H; obtain ⟨y608, Ny608, H⟩ := bsx H; obtain ⟨t611, A6, H⟩ := bo H; have HC7 := ak H; clear H; go_enter Tryz.func31, Tryz.ntmps31
 go_upto_if 20 with (first | ((with_reducible refine gd 5 rfl ?_); refine bx 5 36 #[.slice A0_0 l0_0.length c0_0] fun gb607 hg w8 BK607 hb => ?_; have GE607 := ge_ hg HB; replace HB := bs1 HB hb; clear hb hg) | ((with_reducible refine gate_dst (N := 16) rfl ?_); refine Kd.R_lit k57 _ 57 ?hg (N := 16) ?hd (xs := ([] : List (S57))) (inner := []) (ok := fun _ => True) (okp := fun _ => True) ?hr ?hp (fun _ hk => hk) trivial (Below.refl _ _) (Nat.le_refl _) (by simp) ?_; (case hd => rfl); (case hg => rfl); (case hr => first | (go_simp; done) | (go_simp; rfl)); (case hp => exact (Reps.none _ _)); intro v609 w9 ho10 hb hg_ hnew_; clear hg_ hnew_; (first | rw [← Ny608.out] at ho10 | (simp only [Int.reduceToNat] at ho10; rw [← Ny608.out] at ho10)); have HO610 := ak (Kd.R_lower ho10 (below_size (bt HB))); replace BK607 := bb BK607 hb; replace HB := bs1 HB hb; clear hb ho10; obtain ⟨_, _⟩ := bc1 BK607) | ((with_reducible refine gd 19 rfl ?_); refine gc 19 Tryz.func53 (impl_place.calls _ _ l0_0 a1 t611 _ ?s1 ?s2 A6.out) fun w12 hb => ?_; (case s1 => exact ca HR0_0 HB); (case s2 => exact HC0_0.out); replace HO610 := rb HO610 hb; replace BK607 := bb BK607 hb; replace HB := bs1 HB hb))
 (try simp only [Act.put, zA, zB, zC])
 go_cut [11] (fun v11 wc => ∃ (kq : Nat) (x11_6 : List (S57)), Aside0 (impl_dropOthers.j0 kq a2 a3 a4 x11_6 l0_0 = some r) ∧ Aside0 (kq ≤ k) ∧ Aside0 (Kd.R k57 57 wc w.heap.size (fun _ => True) v11 x11_6) ∧ Aside0 (wc.heap[gb607]? = some (.cells #[(.slice A0_0 l0_0.length c0_0)] 36 (0, 0))) ∧ Aside0 (Below w.heap.size w wc))
 case first =>
  have H := HC7.out; clear HC7; revert H
  refine si (fun c13 H => ?_) fun c13 H => ?_
  ·have c13b0 : decide (0 ≤ t611) = true := dt c13; clear c13
   (first | rw [c13b0] | (simp only [i64_w, i32_w]; rw [c13b0]) | skip)
   obtain ⟨c14, H⟩ := ifs H; have LMc14 := ak c14; clear c14; obtain ⟨y612, hy612⟩ : ∃ y_ : List (S57), y_ = (y608 ++ [(⟨4, a1, (⟨#[]⟩ : ByteArray), (⟨#[]⟩ : ByteArray)⟩ : S57)]) := ⟨_, rfl⟩
   first | replace H := bs hy612 H | rw [← hy612] at H
   have Ny612 := ak hy612; clear hy612; have H' := ak H; clear H
   go_wp2_with (first | ((with_reducible refine gate_builtin (b := .append) (xs := #[.tmp 21, .tmp 24]) rfl ?_); at_builtin; refine Kd.R_append k57 (w0 := w) w.heap.size rfl (.tmp 21) (.tmp 24) 31 57 (.agg #[(.int .i64 0), (.string ⟨#[]⟩), (.string ⟨#[]⟩), (.string ⟨#[]⟩)]) 56 rfl Tryz.underlying31 info57 rfl (by decide) (by omega) v609 y608 (⟨4, a1, (⟨#[]⟩ : ByteArray), (⟨#[]⟩ : ByteArray)⟩ : S57) [.int .i64 4, .string a1, .string (⟨#[]⟩ : ByteArray), .string (⟨#[]⟩ : ByteArray)] (fun _ => True) (fun _ => False) rfl rfl ?aP (fun _ hk => hk.elim) ?aF ?aO ?aB ?aS ?aL ?_; (case aP => exact k57_mkM _ _ _ (⟨4, a1, (⟨#[]⟩ : ByteArray), (⟨#[]⟩ : ByteArray)⟩ : S57)); (case aB => exact (bt HB)); (case aF => exact (fun _ _ => trivial)); (case aO => exact (rk HO610)); (case aS => exact (below_size (bt HB))); (case aL => have := LMc14.out; omega); intro v613 w15 ho hb hg hat; rw [← Ny612.out] at ho; have n0_ := ak (blk_grown (g := gb607) (o := .cells #[.slice A0_0 l0_0.length c0_0] 36 (0, 0)) (bk BK607) hg (Kd.R_ne HO610.out BK607.out (by decide))); have n1_ := ak hb; have n2_ := ak ho; clear BK607 HB HO610; revert n0_ n1_ n2_; intro BK607 HB HO614; clear ho hb hg hat))
   go_meet
   case rel => exact ⟨_, (y612), H', ⟨by first | omega | exact Nat.le_refl _⟩, ⟨rk HO614⟩, ⟨bk BK607⟩, ⟨bt HB⟩⟩
  ·have c13b0 : decide (0 ≤ t611) = false := df c13; clear c13
   (first | rw [c13b0] | (simp only [i64_w, i32_w]; rw [c13b0]) | skip)
   have H' := ak H; clear H; go_wp2; go_meet
   case rel => exact ⟨_, (y608), H', ⟨by first | omega | exact Nat.le_refl _⟩, ⟨rk HO610⟩, ⟨bk BK607⟩, ⟨bt HB⟩⟩
 case rest =>
  clear HC7; obtain ⟨kq, x11_6, HA, HJ6, HO_11, BK607, HB⟩ := hcut
  cases kq with
  | zero => exact absurd HA.out (by simp [impl_dropOthers.j0])
  | succ kj6 =>
   have H := HA.out; clear HA; simp only [impl_dropOthers.j0] at H; have H' := ak H; clear H; obtain ⟨_, _⟩ := bc1 BK607; go_wp2
   go_loopg [11, 29] kj6 (fun kq v11 v29 w' => ∃ (x11_2 : List (S57)) (x29_2 : Int), v29 = .int .i64 x29_2 ∧ Aside0 (impl_dropOthers.l0 kq a2 a3 a4 x11_2 l0_0 (l0_0.length : Int) x29_2 = some r) ∧ Aside0 (kq ≤ kj6) ∧ Aside0 (Kd.R k57 57 w' w.heap.size (fun _ => True) v11 x11_2) ∧ Aside0 (w'.heap[gb607]? = some (.cells #[(.slice A0_0 l0_0.length c0_0)] 36 (0, 0))) ∧ Aside0 (Below w.heap.size w w'))
   case atStart => exact ⟨(x11_6), (0), fr, H', ⟨Nat.le_refl _⟩, ⟨rk HO_11⟩, ⟨bk BK607⟩, ⟨bt HB⟩⟩
   case round =>
    clear H'; obtain ⟨x11_2, x29_2, rfl, HA, HK2, HO_11, BK607, HB⟩ := hrel
    cases gk with
    | zero => exact absurd HA.out (by simp [impl_dropOthers.l0])
    | succ k2 =>
     have H := HA.out; clear HA; simp only [impl_dropOthers.l0] at H; revert H
     refine si (fun c17 H => ?_) fun c17 H => ?_
     ·have c17b0 := dt c17; clear c17; obtain ⟨c18, H⟩ := ifs H; have c18b0 := dt c18; clear c18; obtain ⟨c19, H⟩ := ifs H; have c19b0 := dt c19; clear c19; obtain ⟨⟨t617, t618⟩, A20, H⟩ := bo H
      try dsimp only at H
      cases t618; rotate_left
      focus
       rw [if_pos rfl] at H; revert H
       refine si (fun c22 H => ?_) fun c22 H => ?_
       have c22b0 : (((rd_T49 l0_0 x29_2).f0).toList == a4.toList) = true := beq_iff_eq.mpr c22; have c22b1 : (((rd_T49 l0_0 x29_2).f0).toList != a4.toList) = false := bne_eq_false_iff_eq.mpr c22; clear c22; have H' := ak H; clear H; obtain ⟨ad615, e615, hx615_0, hx615_1, hx615_2, p615, q615⟩ := ax49 HR0_0 HB x29_2; cases e615; rotate_left; have c22b0 : (((rd_T49 l0_0 x29_2).f0).toList == a4.toList) = false := beq_eq_false_iff_ne.mpr c22; have c22b1 : (((rd_T49 l0_0 x29_2).f0).toList != a4.toList) = true := bne_iff_ne.mpr c22; obtain ⟨c28, H⟩ := ifs H; have LMc28 := ak c28; clear c28; obtain ⟨y619, hy619⟩ : ∃ y_ : List (S57), y_ = (x11_2 ++ [(⟨4, (rd_T49 l0_0 x29_2).f0, (⟨#[]⟩ : ByteArray), (⟨#[]⟩ : ByteArray)⟩ : S57)]) := ⟨_, rfl⟩
       first | replace H := bs hy619 H | rw [← hy619] at H
       have Ny619 := ak hy619; clear hy619; have H' := ak H; clear H; obtain ⟨ad615, e615, hx615_0, hx615_1, hx615_2, p615, q615⟩ := ax49 HR0_0 HB x29_2; cases e615
      rotate_left 2; rw [if_neg nf] at H; have H' := ak H; clear H; obtain ⟨ad615, e615, hx615_0, hx615_1, hx615_2, p615, q615⟩ := ax49 HR0_0 HB x29_2; cases e615
      all_goals
       go_wp2_with (first | ((with_reducible refine gd 13 rfl ?_); refine bx 13 49 #[.string (⟨#[]⟩ : ByteArray), .string (⟨#[]⟩ : ByteArray), .int .i64 0] fun gb616 hg w29 BK616 hb => ?_; replace HO_11 := rb HO_11 hb; have GE616 := ge_ hg HB; replace HB := bs1 HB hb; have NB607_616 := nl_ hg BK607; have NB616_607 := nr_ hg BK607; replace BK607 := bb BK607 hb; clear hb hg; have := NB616_607.out; have := NB607_616.out; obtain ⟨_, _, _, _, _, _⟩ := bc3 BK616) | ((with_reducible refine gd 38 rfl ?_); refine gc 38 Tryz.func52 (impl_numbered.calls ((rd_T49 l0_0 x29_2).f0) a2 a3 t617 _ _ A20.out (tabE_below HT (bt HB))) fun w32 hb => ?_; replace HO_11 := rfb HO_11 BK616 hb; replace BK607 := bbg BK607 hb; replace BK616 := bbp BK616 hb #[.string ((rd_T49 l0_0 x29_2).f0), .string ((rd_T49 l0_0 x29_2).f1), .int .i64 ((rd_T49 l0_0 x29_2).f2)]; replace HB := bs1 HB hb; obtain ⟨_, _, _, _, _, _⟩ := bc3 BK616) | ((with_reducible refine gate_builtin (b := .append) (xs := #[.tmp 48, .tmp 52]) rfl ?_); at_builtin; refine Kd.R_append k57 (w0 := w) w.heap.size rfl (.tmp 48) (.tmp 52) 31 57 (.agg #[(.int .i64 0), (.string ⟨#[]⟩), (.string ⟨#[]⟩), (.string ⟨#[]⟩)]) 56 rfl Tryz.underlying31 info57 rfl (by decide) (by omega) u11 x11_2 (⟨4, (rd_T49 l0_0 x29_2).f0, (⟨#[]⟩ : ByteArray), (⟨#[]⟩ : ByteArray)⟩ : S57) [.int .i64 4, .string ((rd_T49 l0_0 x29_2).f0), .string (⟨#[]⟩ : ByteArray), .string (⟨#[]⟩ : ByteArray)] (fun _ => True) (fun _ => False) rfl rfl ?aP (fun _ hk => hk.elim) ?aF ?aO ?aB ?aS ?aL ?_; (case aP => exact k57_mkM _ _ _ (⟨4, (rd_T49 l0_0 x29_2).f0, (⟨#[]⟩ : ByteArray), (⟨#[]⟩ : ByteArray)⟩ : S57)); (case aB => exact (bt HB)); (case aF => exact (fun _ _ => trivial)); (case aO => exact (rk HO_11)); (case aS => exact (below_size (bt HB))); (case aL => have := LMc28.out; omega); intro v620 w34 ho hb hg hat; rw [← Ny619.out] at ho; have n0_ := ak (blk_grown (g := gb607) (o := .cells #[.slice (some ad615) l0_0.length c0_0] 36 (0, 0)) (bk BK607) hg (Kd.R_ne HO_11.out BK607.out (by decide))); have n1_ := ak (blk_grown (g := gb616) (o := .cells #[.string ((rd_T49 l0_0 x29_2).f0), .string ((rd_T49 l0_0 x29_2).f1), .int .i64 ((rd_T49 l0_0 x29_2).f2)] 49 (0, 0)) (bk BK616) hg (Kd.R_ne HO_11.out BK616.out (by decide))); have n2_ := ak hb; have n3_ := ak ho; clear BK607 BK616 HB HO_11; revert n0_ n1_ n2_ n3_; intro BK607 BK616 HB HO621; clear ho hb hg hat))
      rotate_left
      ·go_roundg k2
       case measure => have := HJ6.out; have := HK2.out; omega
       case rel => exact ⟨(y619), (wrap64 (x29_2 + 1)), fr, H', ⟨by have := HJ6.out; have := HK2.out; omega⟩, ⟨rk HO621⟩, ⟨bk BK607⟩, ⟨bt HB⟩⟩
      all_goals
       go_roundg k2
       case measure => have := HJ6.out; have := HK2.out; omega
       case rel => exact ⟨(x11_2), (wrap64 (x29_2 + 1)), fr, H', ⟨by have := HJ6.out; have := HK2.out; omega⟩, ⟨rk HO_11⟩, ⟨bk BK607⟩, ⟨bt HB⟩⟩
     ·have c17b0 := df c17; clear c17; obtain rfl := oj H; go_wp2; go_ret; exact ⟨_, fe, rk HO_11, bt HB⟩
def impl_JournalOk.f (k : Nat) (a0_0 : Int) (a0_1 : Int) (a0_2 : Int) (a0_3 : Int) (a0_4 : Int) (l0_5 : List (S105)) : Option (Bool) := (impl_in.f a0_0 0 999).bind fun t623 => (if t623 = true then ((impl_hardOk.f a0_1 a0_2).bind fun t624 => (if t624 = true then ((impl_LogOk.f k a0_3 a0_4 l0_5).bind fun t625 => (some t625)) else (some false))) else (some false))
theorem impl_JournalOk.calls (k : Nat) (a0_0 : Int) (a0_1 : Int) (a0_2 : Int) (a0_3 : Int) (a0_4 : Int) (A0_5 : Option Addr) (c0_5 : Nat) (l0_5 : List (S105)) (r : Bool) (w : World) (hr0_5 : Kd.C k105 w A0_5 l0_5.length l0_5) (hc0_5 : l0_5.length ≤ c0_5) (H : impl_JournalOk.f k a0_0 a0_1 a0_2 a0_3 a0_4 l0_5 = some r) :
 Calls Tryz.prog 93 #[.agg #[.int .i64 a0_0, .int .i64 a0_1, .int .i64 a0_2, .int .i64 a0_3, .int .i64 a0_4, .slice A0_5 l0_5.length c0_5]] w fun e w' => e = .returned (.bool r) ∧ Below w.heap.size w w' := by
 have hu30 := Tryz.underlying30; have hu28 := Tryz.underlying28; have HR0_5 := ak hr0_5; have HC0_5 := ak hc0_5; clear hr0_5 hc0_5; have HB := ak (Below.refl w.heap.size w); unfold impl_JournalOk.f at H; obtain ⟨t623, A2, H⟩ := bo H; cases t623; rotate_left
 focus
  rw [if_pos rfl] at H; obtain ⟨t624, A4, H⟩ := bo H; cases t624; rotate_left; rw [if_pos rfl] at H; obtain ⟨t625, A6, H⟩ := bo H; obtain rfl := oj H; rotate_left; rw [if_neg nf] at H; obtain rfl := oj H
 rotate_left 2; rw [if_neg nf] at H; obtain rfl := oj H
 all_goals
  go_enter Tryz.func93, Tryz.ntmps93
  go_wp2_with (first | ((with_reducible refine gd 1 rfl ?_); refine bx 1 30 #[.int .i64 a0_0, .int .i64 a0_1, .int .i64 a0_2, .int .i64 a0_3, .int .i64 a0_4, .slice A0_5 l0_5.length c0_5] fun gb622 hg w7 BK622 hb => ?_; have GE622 := ge_ hg HB; replace HB := bs1 HB hb; clear hb hg; obtain ⟨_, _, _, _, _, _, _, _, _, _, _, _⟩ := bc6 BK622) | ((with_reducible refine gd 5 rfl ?_); refine gc 5 Tryz.func54 (impl_in.calls a0_0 0 999 _ _ A2.out) fun w' h_ => ?_; obtain ⟨nd, rfl⟩ := h_) | (go_at_call 90; (with_reducible refine (impl_hardOk.calls a0_1 a0_2 _ _ A4.out).mono ?_); rintro e w' ⟨rfl, ⟨nd, rfl⟩⟩) | (go_at_call 58; (with_reducible refine (impl_LogOk.calls k a0_3 a0_4 _ _ l0_5 t625 _ ?side1 ?side2 A6.out).mono ?_); (case side1 => exact ca HR0_5 HB); (case side2 => exact HC0_5.out); rintro e w9 ⟨rfl, hb⟩; replace BK622 := bb BK622 hb; replace HB := bs1 HB hb))
  go_ret; exact ⟨fe, bt HB⟩
def impl_VarText.l0 : Nat → Int → List Int → Option (ByteArray × Bool)
 | 0, _, _ => none
 | k + 1, x0, x4 => if x0 > 127 then (if x4.length < 140737488355328 then (impl_VarText.l0 k (x0 / 128) (x4 ++ [(Go.bits .or .i64 (Go.bits .and .i64 x0 127) 128) % 256])) else (none)) else (if x4.length < 140737488355328 then (some (strOfNums (x4 ++ [(x0) % 256]), true)) else (none))
def impl_VarText.f (k : Nat) (a0 : Int) : Option (ByteArray × Bool) := (impl_in.f a0 0 1000000000).bind fun t626 => (if t626 = true then (impl_VarText.l0 k a0 (([] : List Int))) else (some ((⟨#[]⟩ : ByteArray), false)))
theorem impl_VarText.calls (k : Nat) (a0 : Int) (r1 : ByteArray) (r2 : Bool) (w : World) (H : impl_VarText.f k a0 = some (r1, r2)) :
 Calls Tryz.prog 112 #[.int .i64 a0] w fun e w' => e = .returned (.tuple #[.string r1, .bool r2]) ∧ Below w.heap.size w w' := by
 have HB := ak (Below.refl w.heap.size w); unfold impl_VarText.f at H; obtain ⟨t626, A2, H⟩ := bo H; cases t626; rotate_left; rw [if_pos rfl] at H; obtain ⟨y627, hy627⟩ : ∃ y_ : List Int, y_ = (([] : List Int)) := ⟨_, rfl⟩
 first | replace H := bs hy627 H | rw [← hy627] at H
 have Ny627 := ak hy627; clear hy627; have H' := ak H; clear H; rotate_left; rw [if_neg nf] at H; obtain ⟨rfl, rfl⟩ := o2 H
 all_goals
  go_enter Tryz.func112, Tryz.ntmps112
  go_wp2_with (first | ((with_reducible refine gd 6 rfl ?_); refine gc 6 Tryz.func54 (impl_in.calls a0 0 1000000000 _ _ A2.out) fun w' h_ => ?_; obtain ⟨nd, rfl⟩ := h_) | ((with_reducible refine gate_dst (N := 8) rfl ?_); refine Kd.R_lit (Kd.int .u8) _ 5 ?hg (N := 8) ?hd (xs := ([] : List Int)) (inner := []) (ok := fun _ => True) (okp := fun _ => True) ?hr ?hp (fun _ hk => hk) trivial (Below.refl _ _) (Nat.le_refl _) (by simp) ?_; (case hd => rfl); (case hg => rfl); (case hr => first | (go_simp; done) | (go_simp; rfl)); (case hp => exact (Reps.none _ _)); intro v628 w4 ho5 hb hg_ hnew_; clear hg_ hnew_; (first | rw [← Ny627.out] at ho5 | (simp only [Int.reduceToNat] at ho5; rw [← Ny627.out] at ho5)); have HO629 := ak (Kd.R_lower ho5 (below_size (bt HB))); replace HB := bs1 HB hb; clear hb ho5))
 ·go_ret2; exact ⟨fe, bt HB⟩
 ·go_loopg [0, 4] k (fun kq v0 v4 w' => ∃ (x0_1 : Int) (x4_1 : List Int), v0 = .int .i64 x0_1 ∧ Aside0 (impl_VarText.l0 kq x0_1 x4_1 = some (r1, r2)) ∧ Aside0 (kq ≤ k) ∧ Aside0 (Kd.R (Kd.int .u8) 5 w' w.heap.size (fun _ => True) v4 x4_1) ∧ Aside0 (Below w.heap.size w w'))
  case atStart => exact ⟨(a0), (y627), fr, H', ⟨Nat.le_refl _⟩, ⟨rk HO629⟩, ⟨bt HB⟩⟩
  case round =>
   clear H'; obtain ⟨x0_1, x4_1, rfl, HA, HK1, HO_4, HB⟩ := hrel
   cases gk with
   | zero => exact absurd HA.out (by simp [impl_VarText.l0])
   | succ k1 =>
    have H := HA.out; clear HA; simp only [impl_VarText.l0] at H; revert H
    refine si (fun c6 H => ?_) fun c6 H => ?_
    ·have c6b0 : decide (127 < x0_1) = true := dt c6; clear c6; obtain ⟨c7, H⟩ := ifs H; have LMc7 := ak c7; clear c7; obtain ⟨y630, hy630⟩ : ∃ y_ : List Int, y_ = (x4_1 ++ [(Go.bits .or .i64 (Go.bits .and .i64 x0_1 127) 128) % 256]) := ⟨_, rfl⟩
     first | replace H := bs hy630 H | rw [← hy630] at H
     have Ny630 := ak hy630; clear hy630; have H' := ak H; clear H
     go_wp2_with (first | ((with_reducible refine gate_builtin (b := .append) (xs := #[.tmp 11, .tmp 16]) rfl ?_); at_builtin; refine Kd.R_append (Kd.int .u8) (w0 := w) w.heap.size rfl (.tmp 11) (.tmp 16) 95 5 (.int .u8 0) 1 rfl Tryz.underlying95 info5 rfl (by decide) (by omega) u4 x4_1 ((Go.bits .or .i64 (Go.bits .and .i64 x0_1 127) 128) % 256) [.int .u8 ((Go.bits .or .i64 (Go.bits .and .i64 x0_1 127) 128) % 256)] (fun _ => True) (fun _ => False) rfl rfl ?aP (fun _ hk => hk.elim) ?aF ?aO ?aB ?aS ?aL ?_; (case aP => exact rfl); (case aB => exact (bt HB)); (case aF => exact (fun _ _ => trivial)); (case aO => exact (rk HO_4)); (case aS => exact (below_size (bt HB))); (case aL => have := LMc7.out; omega); intro v631 w8 ho hb hg hat; rw [← Ny630.out] at ho; have n0_ := ak hb; have n1_ := ak ho; clear HB HO_4; revert n0_ n1_; intro HB HO632; clear ho hb hg hat))
     go_roundg k1
     case measure => have := HK1.out; omega
     case rel => exact ⟨(x0_1 / 128), (y630), fr, H', ⟨by have := HK1.out; omega⟩, ⟨rk HO632⟩, ⟨bt HB⟩⟩
    ·have c6b0 : decide (127 < x0_1) = false := df c6; clear c6; obtain ⟨c9, H⟩ := ifs H; have LMc9 := ak c9; clear c9; obtain ⟨y633, hy633⟩ : ∃ y_ : List Int, y_ = (x4_1 ++ [(x0_1) % 256]) := ⟨_, rfl⟩
     first | replace H := bs hy633 H | rw [← hy633] at H
     have Ny633 := ak hy633; clear hy633; obtain ⟨rfl, rfl⟩ := o2 H
     go_wp2_with (first | ((with_reducible refine gate_builtin (b := .append) (xs := #[.tmp 20, .tmp 23]) rfl ?_); at_builtin; refine Kd.R_append (Kd.int .u8) (w0 := w) w.heap.size rfl (.tmp 20) (.tmp 23) 95 5 (.int .u8 0) 1 rfl Tryz.underlying95 info5 rfl (by decide) (by omega) u4 x4_1 ((x0_1) % 256) [.int .u8 ((x0_1) % 256)] (fun _ => True) (fun _ => False) rfl rfl ?aP (fun _ hk => hk.elim) ?aF ?aO ?aB ?aS ?aL ?_; (case aP => exact rfl); (case aB => exact (bt HB)); (case aF => exact (fun _ _ => trivial)); (case aO => exact (rk HO_4)); (case aS => exact (below_size (bt HB))); (case aL => have := LMc9.out; omega); intro v634 w10 ho hb hg hat; rw [← Ny633.out] at ho; have n0_ := ak hb; have n1_ := ak ho; clear HB HO_4; revert n0_ n1_; intro HB HO635; clear ho hb hg hat; have hcv11 := own_string (P := Tryz.prog) Tryz.underlying95 Tryz.underlying5 Tryz.underlying9 (Kd.own_of_R HO635.out)))
     go_ret2; exact ⟨fe, bt HB⟩
def impl_varOf.f (k : Nat) (a0 : Int) : Option (ByteArray) := (impl_VarText.f k a0).bind fun bt636 => (some bt636.1)
theorem impl_varOf.calls (k : Nat) (a0 : Int) (r : ByteArray) (w : World) (H : impl_varOf.f k a0 = some r) :
 Calls Tryz.prog 95 #[.int .i64 a0] w fun e w' => e = .returned (.string r) ∧ Below w.heap.size w w' := by
 have HB := ak (Below.refl w.heap.size w); unfold impl_varOf.f at H; obtain ⟨⟨t636, t637⟩, A2, H⟩ := bo H
 try dsimp only at H
 obtain rfl := oj H; go_enter Tryz.func95, Tryz.ntmps95
 go_wp2_with (first | ((with_reducible refine gd 7 rfl ?_); refine gc 7 Tryz.func112 (impl_VarText.calls k a0 t636 t637 _ A2.out) fun w3 hb => ?_; replace HB := bs1 HB hb))
 go_ret; exact ⟨fe, bt HB⟩
def impl_framed.f (k : Nat) (a0 : ByteArray) : Option (ByteArray) := (impl_varOf.f k (a0.size : Int)).bind fun t638 => ((impl_SumOf.f k a0).bind fun t639 => ((impl_fourBytes.f t639).bind fun t640 => (if t638.size + t640.size ≤ 9223372036854775807 then (if (t638 ++ t640).size + a0.size ≤ 9223372036854775807 then (some ((t638 ++ t640) ++ a0)) else (none)) else (none))))
theorem impl_framed.calls (k : Nat) (a0 : ByteArray) (r : ByteArray) (w : World) (H : impl_framed.f k a0 = some r) :
 Calls Tryz.prog 94 #[.string a0] w fun e w' => e = .returned (.string r) ∧ Below w.heap.size w w' := by
 have HB := ak (Below.refl w.heap.size w); unfold impl_framed.f at H; obtain ⟨t638, A2, H⟩ := bo H; obtain ⟨t639, A3, H⟩ := bo H; obtain ⟨t640, A4, H⟩ := bo H; obtain ⟨c5, H⟩ := ifs H; have c5b0 := eq_true c5; have c5b1 := dt c5
 try have c5b2 : (9223372036854775807 < t638.size + t640.size) = False := eq_false (Nat.not_lt.2 c5)
 obtain ⟨c6, H⟩ := ifs H; have c6b0 := eq_true c6; have c6b1 := dt c6
 try have c6b1y : decide (t638.size + t640.size + a0.size ≤ 9223372036854775807) = true := by have h_ := c6b1; simp only [ByteArray.size_append, Int.natCast_add] at h_; exact h_
 try have c6b2 : (9223372036854775807 < (t638 ++ t640).size + a0.size) = False := eq_false (Nat.not_lt.2 c6)
 try have c6b2z : (9223372036854775807 < t638.size + t640.size + a0.size) = False := eq_false (by have h_ : ¬ (9223372036854775807 < (t638 ++ t640).size + a0.size) := of_eq_false c6b2; simp only [ByteArray.size_append] at h_; exact h_)
 obtain rfl := oj H; go_enter Tryz.func94, Tryz.ntmps94
 go_wp2_with (first | ((with_reducible refine gd 5 rfl ?_); refine gc 5 Tryz.func95 (impl_varOf.calls k (a0.size : Int) t638 _ A2.out) fun w7 hb => ?_; replace HB := bs1 HB hb) | ((with_reducible refine gd 7 rfl ?_); refine gc 7 Tryz.func86 (impl_SumOf.calls k a0 t639 _ A3.out) fun w' h_ => ?_; obtain ⟨nd, rfl⟩ := h_) | ((with_reducible refine gd 8 rfl ?_); refine gc 8 Tryz.func85 (impl_fourBytes.calls t639 t640 _ A4.out) fun w8 hb => ?_; replace HB := bs1 HB hb))
 go_ret; exact ⟨fe, bt HB⟩
def impl_hardFrame.f (k : Nat) (a0 : Int) (a1 : Int) : Option (ByteArray) := (impl_varOf.f k a0).bind fun t641 => (if 1 + t641.size ≤ 9223372036854775807 then ((impl_varOf.f k a1).bind fun t642 => (if ((⟨#[72]⟩ : ByteArray) ++ t641).size + t642.size ≤ 9223372036854775807 then ((impl_framed.f k (((⟨#[72]⟩ : ByteArray) ++ t641) ++ t642)).bind fun t643 => (some t643)) else (none))) else (none))
theorem impl_hardFrame.calls (k : Nat) (a0 : Int) (a1 : Int) (r : ByteArray) (w : World) (H : impl_hardFrame.f k a0 a1 = some r) :
 Calls Tryz.prog 96 #[.int .i64 a0, .int .i64 a1] w fun e w' => e = .returned (.string r) ∧ Below w.heap.size w w' := by
 have HB := ak (Below.refl w.heap.size w); unfold impl_hardFrame.f at H; obtain ⟨t641, A3, H⟩ := bo H; obtain ⟨c4, H⟩ := ifs H; have c4b0 := eq_true c4; have c4b1 := dt c4
 try have c4b2 : (9223372036854775807 < 1 + t641.size) = False := eq_false (Nat.not_lt.2 c4)
 obtain ⟨t642, A5, H⟩ := bo H; obtain ⟨c6, H⟩ := ifs H; have c6b0 := eq_true c6; have c6b1 := dt c6
 try have c6b1y : decide (1 + t641.size + t642.size ≤ 9223372036854775807) = true := by have h_ := c6b1; simp only [ByteArray.size_append, Int.natCast_add] at h_; exact h_
 try have c6b2 : (9223372036854775807 < ((⟨#[72]⟩ : ByteArray) ++ t641).size + t642.size) = False := eq_false (Nat.not_lt.2 c6)
 try have c6b2z : (9223372036854775807 < 1 + t641.size + t642.size) = False := eq_false (by have h_ : ¬ (9223372036854775807 < ((⟨#[72]⟩ : ByteArray) ++ t641).size + t642.size) := of_eq_false c6b2; simp only [ByteArray.size_append] at h_; exact h_)
 obtain ⟨t643, A7, H⟩ := bo H; obtain rfl := oj H; go_enter Tryz.func96, Tryz.ntmps96
 go_wp2_with (first | ((with_reducible refine gd 6 rfl ?_); refine gc 6 Tryz.func95 (impl_varOf.calls k a0 t641 _ A3.out) fun w8 hb => ?_; replace HB := bs1 HB hb) | ((with_reducible refine gd 9 rfl ?_); refine gc 9 Tryz.func95 (impl_varOf.calls k a1 t642 _ A5.out) fun w9 hb => ?_; replace HB := bs1 HB hb) | ((with_reducible refine gd 11 rfl ?_); refine gc 11 Tryz.func94 (impl_framed.calls k (((⟨#[72]⟩ : ByteArray) ++ t641) ++ t642) t643 _ A7.out) fun w10 hb => ?_; replace HB := bs1 HB hb))
 go_ret; exact ⟨fe, bt HB⟩
def impl_oneByte.l0 : Nat → List Int → List Int → Int → Int → Option (ByteArray)
 | 0, _, _, _, _ => none
 | k + 1, x3, x7, x8, x9 => if x9 < x8 then (if 0 ≤ x9 then (if x9 < (x7.length : Int) then (if x3.length < 140737488355328 then (impl_oneByte.l0 k (x3 ++ [(rd x7 x9) % 256]) x7 x8 (wrap64 (x9 + 1))) else (none)) else (none)) else (none)) else (some (strOfNums x3))
def impl_oneByte.f (k : Nat) (l0 : List Int) : Option (ByteArray) := impl_oneByte.l0 k (([] : List Int)) l0 (l0.length : Int) 0
theorem impl_oneByte.calls (k : Nat) (A0 : Option Addr) (c0 : Nat) (l0 : List Int) (r : ByteArray) (w : World) (hr0 : Kd.C (Kd.int .i64) w A0 l0.length l0) (hc0 : l0.length ≤ c0) (H : impl_oneByte.f k l0 = some r) :
 Calls Tryz.prog 121 #[.slice A0 l0.length c0] w fun e w' => e = .returned (.string r) ∧ Below w.heap.size w w' := by
 have HR0 := ak hr0; have HC0 := ak hc0; clear hr0 hc0; have HB := ak (Below.refl w.heap.size w); unfold impl_oneByte.f at H; obtain ⟨y644, hy644⟩ : ∃ y_ : List Int, y_ = (([] : List Int)) := ⟨_, rfl⟩
 first | replace H := bs hy644 H | rw [← hy644] at H
 have Ny644 := ak hy644; clear hy644; have H' := ak H; clear H; go_enter Tryz.func121, Tryz.ntmps121
 go_wp2_with (first | ((with_reducible refine gate_dst (N := 6) rfl ?_); refine Kd.R_lit (Kd.int .u8) _ 5 ?hg (N := 6) ?hd (xs := ([] : List Int)) (inner := []) (ok := fun _ => True) (okp := fun _ => True) ?hr ?hp (fun _ hk => hk) trivial (Below.refl _ _) (Nat.le_refl _) (by simp) ?_; (case hd => rfl); (case hg => rfl); (case hr => first | (go_simp; done) | (go_simp; rfl)); (case hp => exact (Reps.none _ _)); intro v645 w2 ho3 hb hg_ hnew_; clear hg_ hnew_; (first | rw [← Ny644.out] at ho3 | (simp only [Int.reduceToNat] at ho3; rw [← Ny644.out] at ho3)); have HO646 := ak (Kd.R_lower ho3 (below_size (bt HB))); replace HB := bs1 HB hb; clear hb ho3))
 go_loopg [3, 9] k (fun kq v3 v9 w' => ∃ (x3_1 : List Int) (x9_1 : Int), v9 = .int .i64 x9_1 ∧ Aside0 (impl_oneByte.l0 kq x3_1 l0 (l0.length : Int) x9_1 = some r) ∧ Aside0 (kq ≤ k) ∧ Aside0 (Kd.R (Kd.int .u8) 5 w' w.heap.size (fun _ => True) v3 x3_1) ∧ Aside0 (Below w.heap.size w w'))
 case atStart => exact ⟨(y644), (0), fr, H', ⟨Nat.le_refl _⟩, ⟨rk HO646⟩, ⟨bt HB⟩⟩
 case round =>
  clear H'; obtain ⟨x3_1, x9_1, rfl, HA, HK1, HO_3, HB⟩ := hrel
  cases gk with
  | zero => exact absurd HA.out (by simp [impl_oneByte.l0])
  | succ k1 =>
   have H := HA.out; clear HA; simp only [impl_oneByte.l0] at H; revert H
   refine si (fun c4 H => ?_) fun c4 H => ?_
   ·have c4b0 := dt c4; clear c4; obtain ⟨c5, H⟩ := ifs H; have c5b0 := dt c5; clear c5; obtain ⟨c6, H⟩ := ifs H; have c6b0 := dt c6; clear c6; obtain ⟨c7, H⟩ := ifs H; have LMc7 := ak c7; clear c7; obtain ⟨y648, hy648⟩ : ∃ y_ : List Int, y_ = (x3_1 ++ [(rd l0 x9_1) % 256]) := ⟨_, rfl⟩
    first | replace H := bs hy648 H | rw [← hy648] at H
    have Ny648 := ak hy648; clear hy648; have H' := ak H; clear H; have p647 : 0 ≤ (x9_1 : Int) := da; have q647 : x9_1 < (l0.length : Int) := da; obtain ⟨ad647, e647, hx647_0⟩ := Kd.at_int HR0.out x9_1 p647 q647; cases e647; replace hx647_0 := xb HB hx647_0; replace p647 := eq_true p647; replace q647 := eq_true q647
    go_wp2_with (first | ((with_reducible refine gate_builtin (b := .append) (xs := #[.tmp 13, .tmp 16]) rfl ?_); at_builtin; refine Kd.R_append (Kd.int .u8) (w0 := w) w.heap.size rfl (.tmp 13) (.tmp 16) 95 5 (.int .u8 0) 1 rfl Tryz.underlying95 info5 rfl (by decide) (by omega) u3 x3_1 ((rd l0 x9_1) % 256) [.int .u8 ((rd l0 x9_1) % 256)] (fun _ => True) (fun _ => False) rfl rfl ?aP (fun _ hk => hk.elim) ?aF ?aO ?aB ?aS ?aL ?_; (case aP => exact rfl); (case aB => exact (bt HB)); (case aF => exact (fun _ _ => trivial)); (case aO => exact (rk HO_3)); (case aS => exact (below_size (bt HB))); (case aL => have := LMc7.out; omega); intro v649 w8 ho hb hg hat; rw [← Ny648.out] at ho; have n0_ := ak hb; have n1_ := ak ho; clear HB HO_3; revert n0_ n1_; intro HB HO650; clear ho hb hg hat))
    go_roundg k1
    case measure => have := HK1.out; omega
    case rel => exact ⟨(y648), (wrap64 (x9_1 + 1)), fr, H', ⟨by have := HK1.out; omega⟩, ⟨rk HO650⟩, ⟨bt HB⟩⟩
   ·have c4b0 := df c4; clear c4; obtain rfl := oj H; have hcv9 := own_string (P := Tryz.prog) Tryz.underlying95 Tryz.underlying5 Tryz.underlying9 (Kd.own_of_R HO_3.out); go_wp2; go_ret; exact ⟨fe, bt HB⟩
end Go.Proofs.YtdepaileabejgaaGreatDoor.PFnExactOpenJournal
