/- What the functions that FnExactLogBehind reaches compute, and that the machine's calls compute it. Begun as a text of the kit's print. No condition. -/
import Derived.Test.YtpmdcplmnipdeaaShort
import Derived.Test.YtpmdcplmnipdeaaQFnExactLogBehindx0
import Derived.Test.YtpmdcplmnipdeaaQFnExactLogBehindx6
import Derived.Test.YtpmdcplmnipdeaaQFnExactLogBehindx7
namespace Go.Proofs.Ytpmdcplmnipdeaa.PFnExactLogBehind
open Go.RowKit Go.Proofs.YtpmdcplmnipdeaaW.PrintWords Go.Proofs.YtpmdcplmnipdeaaW.PrintLast Go.Proofs.YtpmdcplmnipdeaaW.PrintMore Go.Proofs.YtpmdcplmnipdeaaW.Short
attribute [local go_sem] max2_int min2_int max_two min_two max_three min_three max_four min_four   -- for this text's walks alone
set_option linter.unusedVariables false
set_option linter.unusedSimpArgs false

/-! ### impl_LogBehind: function 52 -/
def impl_LogBehind.f (k : Nat) (a0_0 : Int) (a0_1 : Int) (l0_2 : List (S53)) (a1 : Int) (a2 : Int) : Option (Int × Int × (List (S53))) := (impl_LogOk.f k a0_0 a0_1 l0_2).bind fun t238 => (if t238 = true then ((impl_lastOf.f a0_0 a0_1 l0_2).bind fun t239 => ((impl_in.f a1 a0_0 t239).bind fun t240 => (if t240 = true then ((impl_LogTerm.f a0_0 a0_1 l0_2 a1).bind fun t241 => (if t241 = a2 then (if 0 ≤ (wrap64 (a1 - a0_0)) then (if (wrap64 (a1 - a0_0)) ≤ (l0_2.length : Int) then ((impl_Entry.f (l0_2.drop ((wrap64 (a1 - a0_0)) : Int).toNat)).bind fun t246 => (some (a1, a2, t246))) else (none)) else (none)) else (some (a1, a2, ([] : List (S53)))))) else (some (a1, a2, ([] : List (S53))))))) else (some (a1, a2, ([] : List (S53)))))
theorem impl_LogBehind.mono : ∀ a0 a1 a2 a3 a4 k, LeO (impl_LogBehind.f k a0 a1 a2 a3 a4) (impl_LogBehind.f (k + 1) a0 a1 a2 a3 a4) := by
  intro a0 a1 a2 a3 a4 k
  unfold impl_LogBehind.f
  repeat' first
      | (with_reducible exact impl_LogOk.mono _ _ _ _)
      | (with_reducible exact LeO.refl _)
      | (with_reducible exact LeO.none _)
      | (with_reducible refine LeO.ite ?_ ?_)
      | (with_reducible refine LeO.bind ?_ (fun _ => ?_))
      | exact impl_LogOk.mono _ _ _ _
      | exact LeO.none _
      | refine LeO.ite ?_ ?_
      | refine LeO.bind ?_ (fun _ => ?_)
def impl_LogBehind.T2 : Bool × List (List Nat × List Nat) := (true, [([], []), ([0], [0]), ([1, 1], [1]), ([2], [2]), ([2], [2]), ([4, 2], [2, 4]), ([2], [2]), ([6, 2, 2], [2, 6]), ([3, 5, 7, 7, 2], [2, 3, 5, 7]), ([2, 8], [2, 8]), ([9, 8], [9]), ([10], [10]), ([10], [10]), ([11, 12, 10, 10], [10, 11, 12]), ([10], [10]), ([13, 14, 10], [10, 13, 14]), ([10, 15], [10, 15])])
def impl_LogBehind.B2 : List Nat := [0, 1, 3, 7, 7, 23, 7, 71, 255, 511, 1023, 2047, 2047, 8191, 2047, 32767, 65535]
theorem impl_LogBehind.tab2 : rtab .any (opsOf Try.f52 2) = impl_LogBehind.T2 := by kernel_rfl
theorem impl_LogBehind.bits2 : waitsOk impl_LogBehind.T2.2 impl_LogBehind.B2 = true := by kernel_rfl
set_option maxHeartbeats 8000000 in
set_option maxRecDepth 100000 in
theorem impl_LogBehind.calls (k : Nat) (a0_0 : Int) (a0_1 : Int) (A0_2 : Option Addr) (c0_2 : Nat) (l0_2 : List (S53)) (a1 : Int) (a2 : Int) (r1 : Int) (r2 : Int) (r3 : List (S53)) (w : World) (hr0_2 : Kd.C k53 w A0_2 l0_2.length l0_2) (hc0_2 : l0_2.length ≤ c0_2) (h : impl_LogBehind.f k a0_0 a0_1 l0_2 a1 a2 = some (r1, r2, r3)) :
  Calls Try.prog 52 #[.agg #[.int .i64 a0_0, .int .i64 a0_1, .slice A0_2 l0_2.length c0_2], .int .i64 a1, .int .i64 a2] w fun e w' => ∃ v2_ : Value, e = .returned (.agg #[.int .i64 r1, .int .i64 r2, v2_]) ∧ Kd.R k53 53 w' w.heap.size (fun _ => True) v2_ r3 ∧ Below w.heap.size w w' := by
 have hu40 := Try.underlying40
 have HR0_2 := Aside0.mk hr0_2
 have HC0_2 := Aside0.mk hc0_2
 clear hr0_2 hc0_2
 have HB := Aside0.mk (Below.refl w.heap.size w)
 have H : ((impl_LogOk.f k a0_0 a0_1 l0_2).bind fun t238 => (if t238 = true then ((impl_lastOf.f a0_0 a0_1 l0_2).bind fun t239 => ((impl_in.f a1 a0_0 t239).bind fun t240 => (if t240 = true then ((impl_LogTerm.f a0_0 a0_1 l0_2 a1).bind fun t241 => (if t241 = a2 then (if 0 ≤ (wrap64 (a1 - a0_0)) then (if (wrap64 (a1 - a0_0)) ≤ (l0_2.length : Int) then ((impl_Entry.f (l0_2.drop ((wrap64 (a1 - a0_0)) : Int).toNat)).bind fun t246 => (some (a1, a2, t246))) else (none)) else (none)) else (some (a1, a2, ([] : List (S53)))))) else (some (a1, a2, ([] : List (S53))))))) else (some (a1, a2, ([] : List (S53)))))) = some (r1, r2, r3) := h
 clear h
 replace H := Option.bind_eq_some_iff.mp H
 obtain ⟨t238, A40, H⟩ := H
 replace H : (if t238 = true then ((impl_lastOf.f a0_0 a0_1 l0_2).bind fun t239 => ((impl_in.f a1 a0_0 t239).bind fun t240 => (if t240 = true then ((impl_LogTerm.f a0_0 a0_1 l0_2 a1).bind fun t241 => (if t241 = a2 then (if 0 ≤ (wrap64 (a1 - a0_0)) then (if (wrap64 (a1 - a0_0)) ≤ (l0_2.length : Int) then ((impl_Entry.f (l0_2.drop ((wrap64 (a1 - a0_0)) : Int).toNat)).bind fun t246 => (some (a1, a2, t246))) else (none)) else (none)) else (some (a1, a2, ([] : List (S53)))))) else (some (a1, a2, ([] : List (S53))))))) else (some (a1, a2, ([] : List (S53))))) = some (r1, r2, r3) := H
 have A4 := Aside0.mk A40
 clear A40
 by_cases c5 : t238 = true
 ·subst c5
  have H1 : ((impl_lastOf.f a0_0 a0_1 l0_2).bind fun t239 => ((impl_in.f a1 a0_0 t239).bind fun t240 => (if t240 = true then ((impl_LogTerm.f a0_0 a0_1 l0_2 a1).bind fun t241 => (if t241 = a2 then (if 0 ≤ (wrap64 (a1 - a0_0)) then (if (wrap64 (a1 - a0_0)) ≤ (l0_2.length : Int) then ((impl_Entry.f (l0_2.drop ((wrap64 (a1 - a0_0)) : Int).toNat)).bind fun t246 => (some (a1, a2, t246))) else (none)) else (none)) else (some (a1, a2, ([] : List (S53)))))) else (some (a1, a2, ([] : List (S53))))))) = some (r1, r2, r3) := by rw [if_pos rfl] at H; exact H
  clear H
  have H := H1
  clear H1
  replace H := Option.bind_eq_some_iff.mp H
  obtain ⟨t239, A60, H⟩ := H
  replace H : ((impl_in.f a1 a0_0 t239).bind fun t240 => (if t240 = true then ((impl_LogTerm.f a0_0 a0_1 l0_2 a1).bind fun t241 => (if t241 = a2 then (if 0 ≤ (wrap64 (a1 - a0_0)) then (if (wrap64 (a1 - a0_0)) ≤ (l0_2.length : Int) then ((impl_Entry.f (l0_2.drop ((wrap64 (a1 - a0_0)) : Int).toNat)).bind fun t246 => (some (a1, a2, t246))) else (none)) else (none)) else (some (a1, a2, ([] : List (S53)))))) else (some (a1, a2, ([] : List (S53)))))) = some (r1, r2, r3) := H
  have A6 := Aside0.mk A60
  clear A60
  replace H := Option.bind_eq_some_iff.mp H
  obtain ⟨t240, A70, H⟩ := H
  replace H : (if t240 = true then ((impl_LogTerm.f a0_0 a0_1 l0_2 a1).bind fun t241 => (if t241 = a2 then (if 0 ≤ (wrap64 (a1 - a0_0)) then (if (wrap64 (a1 - a0_0)) ≤ (l0_2.length : Int) then ((impl_Entry.f (l0_2.drop ((wrap64 (a1 - a0_0)) : Int).toNat)).bind fun t246 => (some (a1, a2, t246))) else (none)) else (none)) else (some (a1, a2, ([] : List (S53)))))) else (some (a1, a2, ([] : List (S53))))) = some (r1, r2, r3) := H
  have A7 := Aside0.mk A70
  clear A70
  by_cases c8 : t240 = true
  ·subst c8
   have H1 : ((impl_LogTerm.f a0_0 a0_1 l0_2 a1).bind fun t241 => (if t241 = a2 then (if 0 ≤ (wrap64 (a1 - a0_0)) then (if (wrap64 (a1 - a0_0)) ≤ (l0_2.length : Int) then ((impl_Entry.f (l0_2.drop ((wrap64 (a1 - a0_0)) : Int).toNat)).bind fun t246 => (some (a1, a2, t246))) else (none)) else (none)) else (some (a1, a2, ([] : List (S53)))))) = some (r1, r2, r3) := by rw [if_pos rfl] at H; exact H
   clear H
   have H := H1
   clear H1
   replace H := Option.bind_eq_some_iff.mp H
   obtain ⟨t241, A90, H⟩ := H
   replace H : (if t241 = a2 then (if 0 ≤ (wrap64 (a1 - a0_0)) then (if (wrap64 (a1 - a0_0)) ≤ (l0_2.length : Int) then ((impl_Entry.f (l0_2.drop ((wrap64 (a1 - a0_0)) : Int).toNat)).bind fun t246 => (some (a1, a2, t246))) else (none)) else (none)) else (some (a1, a2, ([] : List (S53))))) = some (r1, r2, r3) := H
   have A9 := Aside0.mk A90
   clear A90
   by_cases c10 : t241 = a2
   ·rw [if_pos c10] at H
    have c10b0 : (t241 == a2) = true := beq_iff_eq.mpr c10
    have c10b1 : (t241 != a2) = false := bne_eq_false_iff_eq.mpr c10
    clear c10
    obtain ⟨ji11, hji11⟩ : ∃ j_ : Int, (wrap64 (a1 - a0_0)) = j_ := ⟨_, rfl⟩
    replace H : (if 0 ≤ (ji11) then (if (ji11) ≤ (l0_2.length : Int) then ((impl_Entry.f (l0_2.drop ((ji11) : Int).toNat)).bind fun t246 => (some (a1, a2, t246))) else (none)) else (none)) = some (r1, r2, r3) := by first | (rw [hji11] at H; exact H) | (simp only [hji11] at H ⊢; exact H)
    (try rw [hji11] at A4)
    (try rw [hji11] at A6)
    (try rw [hji11] at A7)
    (try rw [hji11] at A9)
    have hji11w : (IntKind.i64.wrap (a1 - a0_0)) = ji11 := (i64_w _).trans hji11
    by_cases c12 : 0 ≤ (ji11)
    ·rw [if_pos c12] at H
     have c12b0 := eq_true c12
     have c12b1 : decide (0 ≤ (ji11)) = true := decide_eq_true c12
     clear c12
     by_cases c13 : (ji11) ≤ (l0_2.length : Int)
     ·rw [if_pos c13] at H
      have c13b0 := eq_true c13
      have c13b1 : decide ((ji11) ≤ (l0_2.length : Int)) = true := decide_eq_true c13
      clear c13
      obtain ⟨y242, hy242⟩ : ∃ y_ : List (S53), y_ = (l0_2.drop ((ji11) : Int).toNat) := ⟨_, rfl⟩
      replace H : ((impl_Entry.f y242).bind fun t246 => (some (a1, a2, t246))) = some (r1, r2, r3) := by first | (rw [hy242]; with_reducible exact H) | (have H2_ := (Option.bind_some _ _).symm.trans H; rw [hy242]; with_reducible exact H2_) | (have H2_ := (Option.bind_some _ _).symm.trans H; with_reducible exact H2_) | with_reducible exact H | (rw [hy242]; exact H) | exact H
      have Ny242 := Aside0.mk hy242
      clear hy242
      replace H := Option.bind_eq_some_iff.mp H
      obtain ⟨t246, A140, H⟩ := H
      replace H : (some (a1, a2, t246)) = some (r1, r2, r3) := H
      have A14 := Aside0.mk A140
      clear A140
      simp only [Option.some.injEq, Prod.mk.injEq] at H
      obtain ⟨rfl, rfl, rfl⟩ := H
      go_enter Try.func52, Try.ntmps52
      try go_wp2_with (first | ((with_reducible refine gate_dst (N := 3) rfl ?_); refine box_event ?hg (N := 3) ?hd (cs := #[.int .i64 a0_0, .int .i64 a0_1, .slice A0_2 l0_2.length c0_2]) (t := 40) ?hr ?_; (case hd => rfl); (case hg => rfl); (case hr => first | (go_simp; done) | (go_simp; rfl)); intro gb235 hg w15 hbox hb; have n0_ := Aside0.mk (below_step (bt HB) hb); have n1_ := Aside0.mk (hbox); have n2_ := Aside0.mk ((by rw [hg]; exact (below_size (bt HB)) : w.heap.size ≤ gb235)); have n3_ := Aside0.mk ((by rw [hg]; exact (below_size (bt HB)) : w.heap.size ≤ gb235)); clear HB; revert n0_ n1_ n2_ n3_; intro HB BK235 GW235 GE235; clear hb hbox hg) | ((with_reducible refine gate_dst (N := 6) rfl ?_); refine box_event ?hg (N := 6) ?hd (cs := #[.int .i64 0, .int .i64 0, .slice none 0 0]) (t := 40) ?hr ?_; (case hd => rfl); (case hg => rfl); (case hr => first | (go_simp; done) | (go_simp; rfl)); intro gb236 hg w16 hbox hb; have n0_ := bb BK235 hb; have n1_ := Aside0.mk (below_step (bt HB) hb); have n2_ := Aside0.mk (hbox); have n3_ := Aside0.mk ((by rw [hg]; exact (below_size (bt HB)) : w.heap.size ≤ gb236)); have n4_ := Aside0.mk ((by rw [hg]; exact (below_size (bt HB)) : w.heap.size ≤ gb236)); have n5_ := Aside0.mk ((by rw [hg]; exact Nat.ne_of_lt (blk_lt (bk BK235)) : gb235 ≠ gb236)); have n6_ := Aside0.mk ((by rw [hg]; exact Nat.ne_of_gt (blk_lt (bk BK235)) : gb236 ≠ gb235)); clear BK235 HB; revert n0_ n1_ n2_ n3_ n4_ n5_ n6_; intro BK235 HB BK236 GW236 GE236 NB235_236 NB236_235; clear hb hbox hg) | ((with_reducible refine gate_dst (N := 7) rfl ?_); refine box_event ?hg (N := 7) ?hd (cs := #[.int .i64 0, .int .i64 0, .slice none 0 0]) (t := 40) ?hr ?_; (case hd => rfl); (case hg => rfl); (case hr => first | (go_simp; done) | (go_simp; rfl)); intro gb237 hg w17 hbox hb; have n0_ := bb BK235 hb; have n1_ := bb BK236 hb; have n2_ := Aside0.mk (below_step (bt HB) hb); have n3_ := Aside0.mk (hbox); have n4_ := Aside0.mk ((by rw [hg]; exact (below_size (bt HB)) : w.heap.size ≤ gb237)); have n5_ := Aside0.mk ((by rw [hg]; exact (below_size (bt HB)) : w.heap.size ≤ gb237)); have n6_ := Aside0.mk ((by rw [hg]; exact Nat.ne_of_lt (blk_lt (bk BK235)) : gb235 ≠ gb237)); have n7_ := Aside0.mk ((by rw [hg]; exact Nat.ne_of_gt (blk_lt (bk BK235)) : gb237 ≠ gb235)); have n8_ := Aside0.mk ((by rw [hg]; exact Nat.ne_of_lt (blk_lt (bk BK236)) : gb236 ≠ gb237)); have n9_ := Aside0.mk ((by rw [hg]; exact Nat.ne_of_gt (blk_lt (bk BK236)) : gb237 ≠ gb236)); clear BK235 BK236 HB; revert n0_ n1_ n2_ n3_ n4_ n5_ n6_ n7_ n8_ n9_; intro BK235 BK236 HB BK237 GW237 GE237 NB235_237 NB237_235 NB236_237 NB237_236; clear hb hbox hg; have hnb18 := NB237_235.out; have hnc18 := NB235_237.out; have hnb19 := NB237_236.out; have hnc19 := NB236_237.out; have hcz20_0 : w17.cell? ⟨gb237, 0, none⟩ = some (.int .i64 0) := bc BK237 0; have hcz20_1 : w17.cell? ⟨gb237, 1, none⟩ = some (.int .i64 0) := bc BK237 1; have hcz20_2 : w17.cell? ⟨gb237, 2, none⟩ = some (.slice none 0 0) := bc BK237 2; have hfz20_0 := blk_frozen BK237.out 0; have hfz20_1 := blk_frozen BK237.out 1; have hfz20_2 := blk_frozen BK237.out 2))
      have n0_ : Aside0 ((((w17.setCell ⟨gb237, 0, none⟩ (.int .i64 a1)).setCell ⟨gb237, 1, none⟩ (.int .i64 a2)).setCell ⟨gb237, 2, none⟩ (.slice none 0 0)).heap[gb235]? = some (.cells #[.int .i64 a0_0, .int .i64 a0_1, .slice A0_2 l0_2.length c0_2] 40 (0, 0))) := ⟨by refine bk_ ?_; refine blk_far ?_ NB235_237.out _; refine bk_ ?_; refine blk_far ?_ NB235_237.out _; refine bk_ ?_; refine blk_far ?_ NB235_237.out _; refine bk_ ?_; exact BK235.out⟩
      have n1_ : Aside0 ((((w17.setCell ⟨gb237, 0, none⟩ (.int .i64 a1)).setCell ⟨gb237, 1, none⟩ (.int .i64 a2)).setCell ⟨gb237, 2, none⟩ (.slice none 0 0)).heap[gb236]? = some (.cells #[.int .i64 0, .int .i64 0, .slice none 0 0] 40 (0, 0))) := ⟨by refine bk_ ?_; refine blk_far ?_ NB236_237.out _; refine bk_ ?_; refine blk_far ?_ NB236_237.out _; refine bk_ ?_; refine blk_far ?_ NB236_237.out _; refine bk_ ?_; exact BK236.out⟩
      have n2_ : Aside0 ((((w17.setCell ⟨gb237, 0, none⟩ (.int .i64 a1)).setCell ⟨gb237, 1, none⟩ (.int .i64 a2)).setCell ⟨gb237, 2, none⟩ (.slice none 0 0)).heap[gb237]? = some (.cells #[.int .i64 a1, .int .i64 a2, .slice none 0 0] 40 (0, 0))) := ⟨by refine bk_ ?_; refine blk_put (cs := #[.int .i64 a1, .int .i64 a2, .slice none 0 0]) ?_ 2 _ rfl; refine bk_ ?_; refine blk_put (cs := #[.int .i64 a1, .int .i64 0, .slice none 0 0]) ?_ 1 _ rfl; refine bk_ ?_; refine blk_put (cs := #[.int .i64 0, .int .i64 0, .slice none 0 0]) ?_ 0 _ rfl; refine bk_ ?_; exact BK237.out⟩
      have n3_ : Aside0 (Below w.heap.size w (((w17.setCell ⟨gb237, 0, none⟩ (.int .i64 a1)).setCell ⟨gb237, 1, none⟩ (.int .i64 a2)).setCell ⟨gb237, 2, none⟩ (.slice none 0 0))) := ⟨bt HB⟩
      (try clear BK235)
      (try clear BK236)
      (try clear BK237)
      (try clear HB)
      generalize (((w17.setCell ⟨gb237, 0, none⟩ (.int .i64 a1)).setCell ⟨gb237, 1, none⟩ (.int .i64 a2)).setCell ⟨gb237, 2, none⟩ (.slice none 0 0)) = w21 at n0_ n1_ n2_ n3_ ⊢
      have BK235 := n0_
      have BK236 := n1_
      have BK237 := n2_
      have HB := n3_
      clear n0_ n1_ n2_ n3_
      have n0_ := Aside0.mk (blk_drew BK235.out)
      have n1_ := Aside0.mk (blk_drew BK236.out)
      have n2_ := Aside0.mk (blk_drew BK237.out)
      have n3_ := Aside0.mk (below_drew1 HB.out)
      clear BK235 BK236 BK237 HB
      revert n0_ n1_ n2_ n3_
      intro BK235 BK236 BK237 HB
      refine start_ (n := 17) (S := fun w' => w'.cell? ⟨gb235, 0, none⟩ = some (.int .i64 a0_0) ∧ w'.cell? ⟨gb235, 1, none⟩ = some (.int .i64 a0_1) ∧ w'.cell? ⟨gb235, 2, none⟩ = some (.slice A0_2 l0_2.length c0_2)) (ds := []) #[false, false, false, false, false, false, false, false, false, false, false, false, false, false, false, false, false] (by kernel_rfl) rfl rfl ⟨bc BK235 0, bc BK235 1, bc BK235 2⟩ (fun hHeld => ?_); refine with_tabW impl_LogBehind.tab2 impl_LogBehind.bits2 (fun HT_ HW_ => ?_)
      generalize w21.drew = w22 at BK235 BK236 BK237 HB hHeld ⊢
      refine take_ (i := 0) (N := some 11) (v := ?_) (a' := ?_) #[true, false, false, false, false, false, false, false, false, false, false, false, false, false, false, false, false] rfl rfl (take_ofW HT_.out HW_.out (by kernel_rfl)) (fun _ _ _ h => h) (Or.inl ⟨by rfl, ?_⟩) hHeld ?_ ?_
      rotate_left
      ·rintro w' ⟨s0, s1, s2⟩
       go_simp
       with_reducible rfl
      rotate_left
      ·simp only [Act.put, zA, zB, zC, i64_w, i32_w]
       rfl
      refine one_ (i := 1) (N := some 12) #[true, true, false, false, false, false, false, false, false, false, false, false, false, false, false, false, false] rfl rfl (one_of HT_.out (by kernel_rfl)) (by decide) (fun K hK => ?_)
      refine goes_ Try.func20 (by kernel_rfl) rfl #[.agg #[.int .i64 a0_0, .int .i64 a0_1, .slice A0_2 l0_2.length c0_2]] (by rfl) rfl rfl (by (try simp only [List.map_toArray, List.map_cons, List.map_nil]); first | done | rfl | (simp only [List.length_drop, List.length_take]; rfl)) ?_
      with_reducible refine (impl_LogOk.calls k a0_0 a0_1 _ _ l0_2 true _ ?side1 ?side2 A4.out).mono ?_
      (case side1 => repeat (first | exact (Kd.C_below HR0_2.out HB.out) | (with_reducible refine Kd.C_alloc ?_ _) | (with_reducible refine Kd.C_drewN ?_ _) | (with_reducible refine Kd.C_drew ?_)))
      (case side2 => exact HC0_2.out)
      rintro e w23 ⟨rfl, hb⟩
      refine ⟨_, rfl, ?_⟩
      have n0_ := bb BK235 hb
      have n1_ := bb BK236 hb
      have n2_ := bb BK237 hb
      have n3_ := Aside0.mk (below_step (bt HB) hb)
      clear BK235 BK236 BK237 HB
      revert n0_ n1_ n2_ n3_
      intro BK235 BK236 BK237 HB
      (try clear hb)
      (try clear hb2)
      (try clear hk)
      (try clear hi)
      refine hK.out _ _ ⟨bc BK235 0, bc BK235 1, bc BK235 2⟩ (fun hHeld => ?_)
      clear hK K
      refine norm_ (a' := ?_) ?_ ?_
      rotate_left
      ·show Act.put _ (some 12) _ = _
       simp only [Act.put, zA, zB, zC, i64_w, i32_w]
       rfl
      refine pure_ (i := 2) (N := some 13) (v := ?_) (a' := ?_) #[true, true, true, false, false, false, false, false, false, false, false, false, false, false, false, false, false] rfl rfl (any_of HT_.out (by kernel_rfl)) (fun _ _ _ h => h) (Or.inl ⟨by rfl, ?_⟩) ?_ ?_
      rotate_left
      ·intro w'
       go_simp
       with_reducible rfl
      rotate_left
      ·simp only [Act.put, zA, zB, zC, i64_w, i32_w]
       rfl
      refine pure_ (i := 3) (N := some 14) (v := ?_) (a' := ?_) #[true, true, true, true, false, false, false, false, false, false, false, false, false, false, false, false, false] rfl rfl (any_of HT_.out (by kernel_rfl)) (fun _ _ _ h => h) (Or.inl ⟨by rfl, ?_⟩) ?_ ?_
      rotate_left
      ·intro w'
       go_simp
       with_reducible rfl
      rotate_left
      ·simp only [Act.put, zA, zB, zC, i64_w, i32_w]
       rfl
      refine pure_ (i := 4) (N := some 15) (v := ?_) (a' := ?_) #[true, true, true, true, true, false, false, false, false, false, false, false, false, false, false, false, false] rfl rfl (any_of HT_.out (by kernel_rfl)) (fun _ _ _ h => h) (Or.inl ⟨by rfl, ?_⟩) ?_ ?_
      rotate_left
      ·intro w'
       go_simp
       with_reducible rfl
      rotate_left
      ·simp only [Act.put, zA, zB, zC, i64_w, i32_w]
       rfl
      refine take_ (i := 5) (N := some 16) (v := ?_) (a' := ?_) #[true, true, true, true, true, true, false, false, false, false, false, false, false, false, false, false, false] rfl rfl (take_ofW HT_.out HW_.out (by kernel_rfl)) (fun _ _ _ h => h) (Or.inl ⟨by rfl, ?_⟩) hHeld ?_ ?_
      rotate_left
      ·rintro w' ⟨s0, s1, s2⟩
       go_simp
       with_reducible rfl
      rotate_left
      ·simp only [Act.put, zA, zB, zC, i64_w, i32_w]
       rfl
      refine take_ (i := 6) (N := some 17) (v := ?_) (a' := ?_) #[true, true, true, true, true, true, true, false, false, false, false, false, false, false, false, false, false] rfl rfl (take_ofW HT_.out HW_.out (by kernel_rfl)) (fun _ _ _ h => h) (Or.inl ⟨by rfl, ?_⟩) hHeld ?_ ?_
      rotate_left
      ·rintro w' ⟨s0, s1, s2⟩
       go_simp
       with_reducible rfl
      rotate_left
      ·simp only [Act.put, zA, zB, zC, i64_w, i32_w]
       rfl
      refine one_ (i := 7) (N := some 18) #[true, true, true, true, true, true, true, true, false, false, false, false, false, false, false, false, false] rfl rfl (one_of HT_.out (by kernel_rfl)) (by decide) (fun K hK => ?_)
      refine goes_ Try.func93 (by kernel_rfl) rfl #[.agg #[.int .i64 a0_0, .int .i64 a0_1, .slice A0_2 l0_2.length c0_2]] (by rfl) rfl rfl (by (try simp only [List.map_toArray, List.map_cons, List.map_nil]); first | done | rfl | (simp only [List.length_drop, List.length_take]; rfl)) ?_
      with_reducible refine (impl_lastOf.calls a0_0 a0_1 _ _ l0_2 t239 _ ?side1 ?side2 A6.out).mono ?_
      (case side1 => repeat (first | exact (Kd.C_below HR0_2.out HB.out) | (with_reducible refine Kd.C_alloc ?_ _) | (with_reducible refine Kd.C_drewN ?_ _) | (with_reducible refine Kd.C_drew ?_)))
      (case side2 => exact HC0_2.out)
      rintro e w24 ⟨rfl, hb⟩
      refine ⟨_, rfl, ?_⟩
      have n0_ := bb BK235 hb
      have n1_ := bb BK236 hb
      have n2_ := bb BK237 hb
      have n3_ := Aside0.mk (below_step (bt HB) hb)
      clear BK235 BK236 BK237 HB
      revert n0_ n1_ n2_ n3_
      intro BK235 BK236 BK237 HB
      (try clear hb)
      (try clear hb2)
      (try clear hk)
      (try clear hi)
      refine hK.out _ _ ⟨bc BK235 0, bc BK235 1, bc BK235 2⟩ (fun hHeld => ?_)
      clear hK K
      refine norm_ (a' := ?_) ?_ ?_
      rotate_left
      ·show Act.put _ (some 18) _ = _
       simp only [Act.put, zA, zB, zC, i64_w, i32_w]
       rfl
      refine one_ (i := 8) (N := some 19) #[true, true, true, true, true, true, true, true, true, false, false, false, false, false, false, false, false] rfl rfl (one_of HT_.out (by kernel_rfl)) (by decide) (fun K hK => ?_)
      refine goes_ Try.func59 (by kernel_rfl) rfl #[.int .i64 a1, .int .i64 a0_0, .int .i64 t239] (by rfl) rfl rfl (by (try simp only [List.map_toArray, List.map_cons, List.map_nil]); first | done | rfl | (simp only [List.length_drop, List.length_take]; rfl)) ?_
      with_reducible refine (impl_in.calls a1 a0_0 t239 true _ A7.out).mono ?_
      rintro e w' ⟨rfl, ⟨nd, rfl⟩⟩
      refine ⟨_, rfl, ?_⟩
      refine hK.out _ _ ⟨bc BK235 0, bc BK235 1, bc BK235 2⟩ (fun hHeld => ?_)
      clear hK K
      refine norm_ (a' := ?_) ?_ ?_
      rotate_left
      ·show Act.put _ (some 19) _ = _
       simp only [Act.put, zA, zB, zC, i64_w, i32_w]
       rfl
      refine pure_ (i := 9) (N := some 20) (v := ?_) (a' := ?_) #[true, true, true, true, true, true, true, true, true, true, false, false, false, false, false, false, false] rfl rfl (any_of HT_.out (by kernel_rfl)) (fun _ _ _ h => h) (Or.inl ⟨by rfl, ?_⟩) ?_ ?_
      rotate_left
      ·intro w'
       go_simp
       with_reducible rfl
      rotate_left
      ·simp only [Act.put, zA, zB, zC, i64_w, i32_w]
       rfl
      refine pure_ (i := 10) (N := some 21) (v := ?_) (a' := ?_) #[true, true, true, true, true, true, true, true, true, true, true, false, false, false, false, false, false] rfl rfl (any_of HT_.out (by kernel_rfl)) (fun _ _ _ h => h) (Or.inl ⟨by rfl, ?_⟩) ?_ ?_
      rotate_left
      ·intro w'
       go_simp
       with_reducible rfl
      rotate_left
      ·simp only [Act.put, zA, zB, zC, i64_w, i32_w]
       rfl
      refine pure_ (i := 12) (N := some 23) (v := ?_) (a' := ?_) #[true, true, true, true, true, true, true, true, true, true, true, false, true, false, false, false, false] rfl rfl (any_of HT_.out (by kernel_rfl)) (fun _ _ _ h => h) (Or.inl ⟨by rfl, ?_⟩) ?_ ?_
      rotate_left
      ·intro w'
       go_simp
       with_reducible rfl
      rotate_left
      ·simp only [Act.put, zA, zB, zC, i64_w, i32_w]
       rfl
      refine pure_ (i := 14) (N := some 25) (v := ?_) (a' := ?_) #[true, true, true, true, true, true, true, true, true, true, true, false, true, false, true, false, false] rfl rfl (any_of HT_.out (by kernel_rfl)) (fun _ _ _ h => h) (Or.inl ⟨by rfl, ?_⟩) ?_ ?_
      rotate_left
      ·intro w'
       go_simp
       with_reducible rfl
      rotate_left
      ·simp only [Act.put, zA, zB, zC, i64_w, i32_w]
       rfl
      refine take_ (i := 11) (N := some 22) (v := ?_) (a' := ?_) #[true, true, true, true, true, true, true, true, true, true, true, true, true, false, true, false, false] rfl rfl (take_ofW HT_.out HW_.out (by kernel_rfl)) (fun _ _ _ h => h) (Or.inl ⟨by rfl, ?_⟩) hHeld ?_ ?_
      rotate_left
      ·rintro w' ⟨s0, s1, s2⟩
       go_simp
       with_reducible rfl
      rotate_left
      ·simp only [Act.put, zA, zB, zC, i64_w, i32_w]
       rfl
      refine one_ (i := 13) (N := some 24) #[true, true, true, true, true, true, true, true, true, true, true, true, true, true, true, false, false] rfl rfl (one_of HT_.out (by kernel_rfl)) (by decide) (fun K hK => ?_)
      refine goes_ Try.func98 (by kernel_rfl) rfl #[.agg #[.int .i64 a0_0, .int .i64 a0_1, .slice A0_2 l0_2.length c0_2], .int .i64 a1] (by rfl) rfl rfl (by (try simp only [List.map_toArray, List.map_cons, List.map_nil]); first | done | rfl | (simp only [List.length_drop, List.length_take]; rfl)) ?_
      with_reducible refine (impl_LogTerm.calls a0_0 a0_1 _ _ l0_2 a1 t241 _ ?side1 ?side2 A9.out).mono ?_
      (case side1 => repeat (first | exact (Kd.C_below HR0_2.out (bt HB)) | (with_reducible refine Kd.C_alloc ?_ _) | (with_reducible refine Kd.C_drewN ?_ _) | (with_reducible refine Kd.C_drew ?_)))
      (case side2 => exact HC0_2.out)
      rintro e w25 ⟨rfl, hb⟩
      refine ⟨_, rfl, ?_⟩
      have n0_ := bb BK235 hb
      have n1_ := bb BK236 hb
      have n2_ := bb BK237 hb
      have n3_ := Aside0.mk (below_step (bt HB) hb)
      clear BK235 BK236 BK237 HB
      revert n0_ n1_ n2_ n3_
      intro BK235 BK236 BK237 HB
      (try clear hb)
      (try clear hb2)
      (try clear hk)
      (try clear hi)
      refine hK.out _ _ ⟨bc BK235 0, bc BK235 1, bc BK235 2⟩ (fun hHeld => ?_)
      clear hK K
      refine norm_ (a' := ?_) ?_ ?_
      rotate_left
      ·show Act.put _ (some 24) _ = _
       simp only [Act.put, zA, zB, zC, i64_w, i32_w]
       rfl
      refine pure_ (i := 15) (N := some 26) (v := ?_) (a' := ?_) #[true, true, true, true, true, true, true, true, true, true, true, true, true, true, true, true, false] rfl rfl (any_of HT_.out (by kernel_rfl)) (fun _ _ _ h => h) (Or.inl ⟨by rfl, ?_⟩) ?_ ?_
      rotate_left
      ·intro w'
       go_simp
       with_reducible rfl
      rotate_left
      ·simp only [Act.put, zA, zB, zC, i64_w, i32_w]
       rfl
      refine pure_ (i := 16) (N := some 27) (v := ?_) (a' := ?_) #[true, true, true, true, true, true, true, true, true, true, true, true, true, true, true, true, true] rfl rfl (any_of HT_.out (by kernel_rfl)) (fun _ _ _ h => h) (Or.inl ⟨by rfl, ?_⟩) ?_ ?_
      rotate_left
      ·intro w'
       go_simp
       with_reducible rfl
      rotate_left
      ·simp only [Act.put, zA, zB, zC, i64_w, i32_w]
       rfl
      refine done_ (done_of HT_.out (by kernel_rfl)) ?_
      have hnb26 := NB235_236.out
      have hnc26 := NB236_235.out
      have hcz27_0 : w25.cell? ⟨gb235, 0, none⟩ = some (.int .i64 a0_0) := bc BK235 0
      have hcz27_1 : w25.cell? ⟨gb235, 1, none⟩ = some (.int .i64 a0_1) := bc BK235 1
      have hcz27_2 : w25.cell? ⟨gb235, 2, none⟩ = some (.slice A0_2 l0_2.length c0_2) := bc BK235 2
      have hfz27_0 := blk_frozen BK235.out 0
      have hfz27_1 := blk_frozen BK235.out 1
      have hfz27_2 := blk_frozen BK235.out 2
      have q28 : ((ji11) : Int) ≤ ((l0_2.length : Int) : Int) := of_decide_eq_true (by first | (with_reducible assumption) | assumption)
      obtain ⟨i028, hi028, _, hsz28, _⟩ := info_parts info53
      have hroom28 : l0_2.length ≤ c0_2 := HC0_2.out
      have hC28 : Kd.C k53 _ A0_2 l0_2.length l0_2 := HR0_2.out
      have q028 : (0 : Int) ≤ ((ji11) : Int) := of_decide_eq_true (by first | (with_reducible assumption) | assumption)
      have hcut28 := cut_from (P := Try.prog) 38 53 .i64 Try.underlying38 hi028 3 hsz28 A0_2 l0_2.length c0_2 (ji11) q028 q28
      have hr28 := Kd.C_drop (m := ((ji11) : Int).toNat) (c := c0_2) hC28 (by omega) hroom28
      obtain ⟨A28, hA28⟩ : ∃ A1, A1 = (if c0_2 = ((ji11) : Int).toNat then A0_2 else (A0_2 : Option Addr).map (·.add (((ji11) : Int).toNat * 3))) := ⟨_, rfl⟩
      obtain ⟨c28, hc28⟩ : ∃ c1, c1 = c0_2 - ((ji11) : Int).toNat := ⟨_, rfl⟩
      have hy28 : y242.length = l0_2.length - ((ji11) : Int).toNat := (by rw [Ny242.out, List.length_drop] <;> omega)
      rw [show (l0_2).drop ((ji11) : Int).toNat = y242 from Ny242.out.symm] at hr28
      replace hr28 : Kd.C k53 _ A28 y242.length y242 := (by rw [hA28]; exact hr28)
      rw [← hy28, ← hA28, ← hc28] at hcut28
      have HR245 := Aside0.mk hr28
      have HC245 := Aside0.mk (show y242.length ≤ c28 from by rw [hy28, hc28]; exact Nat.sub_le_sub_right hroom28 _)
      clear hr28 hC28 hroom28 hi028 hsz28 hc28
      have KY28 := Aside0.mk hy28
      have KA28 := Aside0.mk hA28
      clear hy28 hA28
      replace q28 := eq_true q28
      try go_wp2_with (first | ((with_reducible refine gate_callee (f := 99) rfl ?_); refine goesL_ (some 35) rfl rfl Try.func99 (by kernel_rfl) rfl #[.slice A28 y242.length c28] rfl (by (try simp only [List.map_toArray, List.map_cons, List.map_nil]); first | done | rfl | (simp only [List.length_drop, List.length_take]; rfl)) ?_; (with_reducible refine (impl_Entry.calls _ _ y242 t246 _ ?side1 ?side2 A14.out).mono ?_); (case side1 => repeat (first | exact (Kd.C_below HR245.out HB.out) | (with_reducible refine Kd.C_alloc ?_ _) | (with_reducible refine Kd.C_drewN ?_ _) | (with_reducible refine Kd.C_drew ?_))); (case side2 => exact HC245.out); rintro e w29 ⟨v247, rfl, ho0, hb⟩; refine ⟨_, rfl, ?_⟩; have n0_ := Aside0.mk (Kd.R_lower ho0 (below_size (bt HB))); have n1_ := bb BK235 hb; have n2_ := bb BK236 hb; have n3_ := bb BK237 hb; have n4_ := Aside0.mk (below_step (bt HB) hb); clear BK235 BK236 BK237 HB; revert n0_ n1_ n2_ n3_ n4_; intro HO248 BK235 BK236 BK237 HB; (try clear hb); (try clear hb2); (try clear hk); (try clear hi); (try clear ho0); obtain ⟨Ao30, co30, eo30⟩ := Kd.R_slice HO248.out; subst eo30; have hcz31_0 : w29.cell? ⟨gb237, 0, none⟩ = some (.int .i64 a1) := bc BK237 0; have hcz31_1 : w29.cell? ⟨gb237, 1, none⟩ = some (.int .i64 a2) := bc BK237 1; have hcz31_2 : w29.cell? ⟨gb237, 2, none⟩ = some (.slice none 0 0) := bc BK237 2; have hfz31_0 := blk_frozen BK237.out 0; have hfz31_1 := blk_frozen BK237.out 1; have hfz31_2 := blk_frozen BK237.out 2; have hcz32_0 : w29.cell? ⟨gb236, 0, none⟩ = some (.int .i64 0) := bc BK236 0; have hcz32_1 : w29.cell? ⟨gb236, 1, none⟩ = some (.int .i64 0) := bc BK236 1; have hcz32_2 : w29.cell? ⟨gb236, 2, none⟩ = some (.slice none 0 0) := bc BK236 2; have hfz32_0 := blk_frozen BK236.out 0; have hfz32_1 := blk_frozen BK236.out 1; have hfz32_2 := blk_frozen BK236.out 2))
      refine bodyPost_ret (results_cell_row rfl _ _ gb236 40 #[.int .i64 a1, .int .i64 a2, .slice Ao30 t246.length co30] (0, 0) _ rfl (by refine bk_ ?_; refine blk_put (cs := #[.int .i64 a1, .int .i64 a2, .slice none 0 0]) ?_ 2 _ rfl; refine bk_ ?_; refine blk_put (cs := #[.int .i64 a1, .int .i64 0, .slice none 0 0]) ?_ 1 _ rfl; refine bk_ ?_; refine blk_put (cs := #[.int .i64 0, .int .i64 0, .slice none 0 0]) ?_ 0 _ rfl; refine bk_ ?_; refine blk_far ?_ NB236_237.out _; refine bk_ ?_; exact BK236.out) Try.underlying40 rfl (by kernel_rfl)) rfl ?_
      exact ⟨_, by first | rfl | (simp [errW_none, errW_some] <;> rfl) | (simp only [← hji11]; first | rfl | (simp [errW_none, errW_some] <;> rfl)) | (simp [*, errW_none, errW_some] <;> rfl), by (with_reducible repeat (first | apply Kd.R_alloc | apply Kd.R_drewN | apply Kd.R_drew)); exact Kd.R_mono (Kd.R_far (p := ⟨gb236, 2, none⟩) (Kd.R_far (p := ⟨gb236, 1, none⟩) (Kd.R_far (p := ⟨gb236, 0, none⟩) (Kd.R_far (p := ⟨gb237, 2, none⟩) (Kd.R_types (Kd.R_types HO248.out BK237.out (by decide)) BK236.out (by decide)) (fun _ hk => hk.1.2) (.slice Ao30 t246.length co30)) (fun _ hk => hk.2) (.int .i64 a1)) (fun _ hk => hk.2) (.int .i64 a2)) (fun _ hk => hk.2) (.slice Ao30 t246.length co30)) (fun _ hk => trivial), bt HB⟩
     ·rw [if_neg c13] at H
      exact absurd H (by simp)
    ·rw [if_neg c12] at H
     exact absurd H (by simp)
   ·rw [if_neg c10] at H
    have c10b0 : (t241 == a2) = false := beq_eq_false_iff_ne.mpr c10
    have c10b1 : (t241 != a2) = true := bne_iff_ne.mpr c10
    simp only [Option.some.injEq, Prod.mk.injEq] at H
    obtain ⟨rfl, rfl, rfl⟩ := H
    go_enter Try.func52, Try.ntmps52
    try go_wp2_with (first | ((with_reducible refine gate_dst (N := 3) rfl ?_); refine box_event ?hg (N := 3) ?hd (cs := #[.int .i64 a0_0, .int .i64 a0_1, .slice A0_2 l0_2.length c0_2]) (t := 40) ?hr ?_; (case hd => rfl); (case hg => rfl); (case hr => first | (go_simp; done) | (go_simp; rfl)); intro gb235 hg w33 hbox hb; have n0_ := Aside0.mk (below_step (bt HB) hb); have n1_ := Aside0.mk (hbox); have n2_ := Aside0.mk ((by rw [hg]; exact (below_size (bt HB)) : w.heap.size ≤ gb235)); have n3_ := Aside0.mk ((by rw [hg]; exact (below_size (bt HB)) : w.heap.size ≤ gb235)); clear HB; revert n0_ n1_ n2_ n3_; intro HB BK235 GW235 GE235; clear hb hbox hg) | ((with_reducible refine gate_dst (N := 6) rfl ?_); refine box_event ?hg (N := 6) ?hd (cs := #[.int .i64 0, .int .i64 0, .slice none 0 0]) (t := 40) ?hr ?_; (case hd => rfl); (case hg => rfl); (case hr => first | (go_simp; done) | (go_simp; rfl)); intro gb236 hg w34 hbox hb; have n0_ := bb BK235 hb; have n1_ := Aside0.mk (below_step (bt HB) hb); have n2_ := Aside0.mk (hbox); have n3_ := Aside0.mk ((by rw [hg]; exact (below_size (bt HB)) : w.heap.size ≤ gb236)); have n4_ := Aside0.mk ((by rw [hg]; exact (below_size (bt HB)) : w.heap.size ≤ gb236)); have n5_ := Aside0.mk ((by rw [hg]; exact Nat.ne_of_lt (blk_lt (bk BK235)) : gb235 ≠ gb236)); have n6_ := Aside0.mk ((by rw [hg]; exact Nat.ne_of_gt (blk_lt (bk BK235)) : gb236 ≠ gb235)); clear BK235 HB; revert n0_ n1_ n2_ n3_ n4_ n5_ n6_; intro BK235 HB BK236 GW236 GE236 NB235_236 NB236_235; clear hb hbox hg) | ((with_reducible refine gate_dst (N := 7) rfl ?_); refine box_event ?hg (N := 7) ?hd (cs := #[.int .i64 0, .int .i64 0, .slice none 0 0]) (t := 40) ?hr ?_; (case hd => rfl); (case hg => rfl); (case hr => first | (go_simp; done) | (go_simp; rfl)); intro gb237 hg w35 hbox hb; have n0_ := bb BK235 hb; have n1_ := bb BK236 hb; have n2_ := Aside0.mk (below_step (bt HB) hb); have n3_ := Aside0.mk (hbox); have n4_ := Aside0.mk ((by rw [hg]; exact (below_size (bt HB)) : w.heap.size ≤ gb237)); have n5_ := Aside0.mk ((by rw [hg]; exact (below_size (bt HB)) : w.heap.size ≤ gb237)); have n6_ := Aside0.mk ((by rw [hg]; exact Nat.ne_of_lt (blk_lt (bk BK235)) : gb235 ≠ gb237)); have n7_ := Aside0.mk ((by rw [hg]; exact Nat.ne_of_gt (blk_lt (bk BK235)) : gb237 ≠ gb235)); have n8_ := Aside0.mk ((by rw [hg]; exact Nat.ne_of_lt (blk_lt (bk BK236)) : gb236 ≠ gb237)); have n9_ := Aside0.mk ((by rw [hg]; exact Nat.ne_of_gt (blk_lt (bk BK236)) : gb237 ≠ gb236)); clear BK235 BK236 HB; revert n0_ n1_ n2_ n3_ n4_ n5_ n6_ n7_ n8_ n9_; intro BK235 BK236 HB BK237 GW237 GE237 NB235_237 NB237_235 NB236_237 NB237_236; clear hb hbox hg; have hnb36 := NB237_235.out; have hnc36 := NB235_237.out; have hnb37 := NB237_236.out; have hnc37 := NB236_237.out; have hcz38_0 : w35.cell? ⟨gb237, 0, none⟩ = some (.int .i64 0) := bc BK237 0; have hcz38_1 : w35.cell? ⟨gb237, 1, none⟩ = some (.int .i64 0) := bc BK237 1; have hcz38_2 : w35.cell? ⟨gb237, 2, none⟩ = some (.slice none 0 0) := bc BK237 2; have hfz38_0 := blk_frozen BK237.out 0; have hfz38_1 := blk_frozen BK237.out 1; have hfz38_2 := blk_frozen BK237.out 2))
    have n0_ : Aside0 ((((w35.setCell ⟨gb237, 0, none⟩ (.int .i64 a1)).setCell ⟨gb237, 1, none⟩ (.int .i64 a2)).setCell ⟨gb237, 2, none⟩ (.slice none 0 0)).heap[gb235]? = some (.cells #[.int .i64 a0_0, .int .i64 a0_1, .slice A0_2 l0_2.length c0_2] 40 (0, 0))) := ⟨by refine bk_ ?_; refine blk_far ?_ NB235_237.out _; refine bk_ ?_; refine blk_far ?_ NB235_237.out _; refine bk_ ?_; refine blk_far ?_ NB235_237.out _; refine bk_ ?_; exact BK235.out⟩
    have n1_ : Aside0 ((((w35.setCell ⟨gb237, 0, none⟩ (.int .i64 a1)).setCell ⟨gb237, 1, none⟩ (.int .i64 a2)).setCell ⟨gb237, 2, none⟩ (.slice none 0 0)).heap[gb236]? = some (.cells #[.int .i64 0, .int .i64 0, .slice none 0 0] 40 (0, 0))) := ⟨by refine bk_ ?_; refine blk_far ?_ NB236_237.out _; refine bk_ ?_; refine blk_far ?_ NB236_237.out _; refine bk_ ?_; refine blk_far ?_ NB236_237.out _; refine bk_ ?_; exact BK236.out⟩
    have n2_ : Aside0 ((((w35.setCell ⟨gb237, 0, none⟩ (.int .i64 a1)).setCell ⟨gb237, 1, none⟩ (.int .i64 a2)).setCell ⟨gb237, 2, none⟩ (.slice none 0 0)).heap[gb237]? = some (.cells #[.int .i64 a1, .int .i64 a2, .slice none 0 0] 40 (0, 0))) := ⟨by refine bk_ ?_; refine blk_put (cs := #[.int .i64 a1, .int .i64 a2, .slice none 0 0]) ?_ 2 _ rfl; refine bk_ ?_; refine blk_put (cs := #[.int .i64 a1, .int .i64 0, .slice none 0 0]) ?_ 1 _ rfl; refine bk_ ?_; refine blk_put (cs := #[.int .i64 0, .int .i64 0, .slice none 0 0]) ?_ 0 _ rfl; refine bk_ ?_; exact BK237.out⟩
    have n3_ : Aside0 (Below w.heap.size w (((w35.setCell ⟨gb237, 0, none⟩ (.int .i64 a1)).setCell ⟨gb237, 1, none⟩ (.int .i64 a2)).setCell ⟨gb237, 2, none⟩ (.slice none 0 0))) := ⟨bt HB⟩
    (try clear BK235)
    (try clear BK236)
    (try clear BK237)
    (try clear HB)
    generalize (((w35.setCell ⟨gb237, 0, none⟩ (.int .i64 a1)).setCell ⟨gb237, 1, none⟩ (.int .i64 a2)).setCell ⟨gb237, 2, none⟩ (.slice none 0 0)) = w39 at n0_ n1_ n2_ n3_ ⊢
    have BK235 := n0_
    have BK236 := n1_
    have BK237 := n2_
    have HB := n3_
    clear n0_ n1_ n2_ n3_
    have n0_ := Aside0.mk (blk_drew BK235.out)
    have n1_ := Aside0.mk (blk_drew BK236.out)
    have n2_ := Aside0.mk (blk_drew BK237.out)
    have n3_ := Aside0.mk (below_drew1 HB.out)
    clear BK235 BK236 BK237 HB
    revert n0_ n1_ n2_ n3_
    intro BK235 BK236 BK237 HB
    refine start_ (n := 17) (S := fun w' => w'.cell? ⟨gb235, 0, none⟩ = some (.int .i64 a0_0) ∧ w'.cell? ⟨gb235, 1, none⟩ = some (.int .i64 a0_1) ∧ w'.cell? ⟨gb235, 2, none⟩ = some (.slice A0_2 l0_2.length c0_2)) (ds := []) #[false, false, false, false, false, false, false, false, false, false, false, false, false, false, false, false, false] (by kernel_rfl) rfl rfl ⟨bc BK235 0, bc BK235 1, bc BK235 2⟩ (fun hHeld => ?_); refine with_tabW impl_LogBehind.tab2 impl_LogBehind.bits2 (fun HT_ HW_ => ?_)
    generalize w39.drew = w40 at BK235 BK236 BK237 HB hHeld ⊢
    refine take_ (i := 0) (N := some 11) (v := ?_) (a' := ?_) #[true, false, false, false, false, false, false, false, false, false, false, false, false, false, false, false, false] rfl rfl (take_ofW HT_.out HW_.out (by kernel_rfl)) (fun _ _ _ h => h) (Or.inl ⟨by rfl, ?_⟩) hHeld ?_ ?_
    rotate_left
    ·rintro w' ⟨s0, s1, s2⟩
     go_simp
     with_reducible rfl
    rotate_left
    ·simp only [Act.put, zA, zB, zC, i64_w, i32_w]
     rfl
    refine one_ (i := 1) (N := some 12) #[true, true, false, false, false, false, false, false, false, false, false, false, false, false, false, false, false] rfl rfl (one_of HT_.out (by kernel_rfl)) (by decide) (fun K hK => ?_)
    refine goes_ Try.func20 (by kernel_rfl) rfl #[.agg #[.int .i64 a0_0, .int .i64 a0_1, .slice A0_2 l0_2.length c0_2]] (by rfl) rfl rfl (by (try simp only [List.map_toArray, List.map_cons, List.map_nil]); first | done | rfl | (simp only [List.length_drop, List.length_take]; rfl)) ?_
    with_reducible refine (impl_LogOk.calls k a0_0 a0_1 _ _ l0_2 true _ ?side1 ?side2 A4.out).mono ?_
    (case side1 => repeat (first | exact (Kd.C_below HR0_2.out HB.out) | (with_reducible refine Kd.C_alloc ?_ _) | (with_reducible refine Kd.C_drewN ?_ _) | (with_reducible refine Kd.C_drew ?_)))
    (case side2 => exact HC0_2.out)
    rintro e w41 ⟨rfl, hb⟩
    refine ⟨_, rfl, ?_⟩
    have n0_ := bb BK235 hb
    have n1_ := bb BK236 hb
    have n2_ := bb BK237 hb
    have n3_ := Aside0.mk (below_step (bt HB) hb)
    clear BK235 BK236 BK237 HB
    revert n0_ n1_ n2_ n3_
    intro BK235 BK236 BK237 HB
    (try clear hb)
    (try clear hb2)
    (try clear hk)
    (try clear hi)
    refine hK.out _ _ ⟨bc BK235 0, bc BK235 1, bc BK235 2⟩ (fun hHeld => ?_)
    clear hK K
    refine norm_ (a' := ?_) ?_ ?_
    rotate_left
    ·show Act.put _ (some 12) _ = _
     simp only [Act.put, zA, zB, zC, i64_w, i32_w]
     rfl
    refine pure_ (i := 2) (N := some 13) (v := ?_) (a' := ?_) #[true, true, true, false, false, false, false, false, false, false, false, false, false, false, false, false, false] rfl rfl (any_of HT_.out (by kernel_rfl)) (fun _ _ _ h => h) (Or.inl ⟨by rfl, ?_⟩) ?_ ?_
    rotate_left
    ·intro w'
     go_simp
     with_reducible rfl
    rotate_left
    ·simp only [Act.put, zA, zB, zC, i64_w, i32_w]
     rfl
    refine pure_ (i := 3) (N := some 14) (v := ?_) (a' := ?_) #[true, true, true, true, false, false, false, false, false, false, false, false, false, false, false, false, false] rfl rfl (any_of HT_.out (by kernel_rfl)) (fun _ _ _ h => h) (Or.inl ⟨by rfl, ?_⟩) ?_ ?_
    rotate_left
    ·intro w'
     go_simp
     with_reducible rfl
    rotate_left
    ·simp only [Act.put, zA, zB, zC, i64_w, i32_w]
     rfl
    refine pure_ (i := 4) (N := some 15) (v := ?_) (a' := ?_) #[true, true, true, true, true, false, false, false, false, false, false, false, false, false, false, false, false] rfl rfl (any_of HT_.out (by kernel_rfl)) (fun _ _ _ h => h) (Or.inl ⟨by rfl, ?_⟩) ?_ ?_
    rotate_left
    ·intro w'
     go_simp
     with_reducible rfl
    rotate_left
    ·simp only [Act.put, zA, zB, zC, i64_w, i32_w]
     rfl
    refine take_ (i := 5) (N := some 16) (v := ?_) (a' := ?_) #[true, true, true, true, true, true, false, false, false, false, false, false, false, false, false, false, false] rfl rfl (take_ofW HT_.out HW_.out (by kernel_rfl)) (fun _ _ _ h => h) (Or.inl ⟨by rfl, ?_⟩) hHeld ?_ ?_
    rotate_left
    ·rintro w' ⟨s0, s1, s2⟩
     go_simp
     with_reducible rfl
    rotate_left
    ·simp only [Act.put, zA, zB, zC, i64_w, i32_w]
     rfl
    refine take_ (i := 6) (N := some 17) (v := ?_) (a' := ?_) #[true, true, true, true, true, true, true, false, false, false, false, false, false, false, false, false, false] rfl rfl (take_ofW HT_.out HW_.out (by kernel_rfl)) (fun _ _ _ h => h) (Or.inl ⟨by rfl, ?_⟩) hHeld ?_ ?_
    rotate_left
    ·rintro w' ⟨s0, s1, s2⟩
     go_simp
     with_reducible rfl
    rotate_left
    ·simp only [Act.put, zA, zB, zC, i64_w, i32_w]
     rfl
    refine one_ (i := 7) (N := some 18) #[true, true, true, true, true, true, true, true, false, false, false, false, false, false, false, false, false] rfl rfl (one_of HT_.out (by kernel_rfl)) (by decide) (fun K hK => ?_)
    refine goes_ Try.func93 (by kernel_rfl) rfl #[.agg #[.int .i64 a0_0, .int .i64 a0_1, .slice A0_2 l0_2.length c0_2]] (by rfl) rfl rfl (by (try simp only [List.map_toArray, List.map_cons, List.map_nil]); first | done | rfl | (simp only [List.length_drop, List.length_take]; rfl)) ?_
    with_reducible refine (impl_lastOf.calls a0_0 a0_1 _ _ l0_2 t239 _ ?side1 ?side2 A6.out).mono ?_
    (case side1 => repeat (first | exact (Kd.C_below HR0_2.out HB.out) | (with_reducible refine Kd.C_alloc ?_ _) | (with_reducible refine Kd.C_drewN ?_ _) | (with_reducible refine Kd.C_drew ?_)))
    (case side2 => exact HC0_2.out)
    rintro e w42 ⟨rfl, hb⟩
    refine ⟨_, rfl, ?_⟩
    have n0_ := bb BK235 hb
    have n1_ := bb BK236 hb
    have n2_ := bb BK237 hb
    have n3_ := Aside0.mk (below_step (bt HB) hb)
    clear BK235 BK236 BK237 HB
    revert n0_ n1_ n2_ n3_
    intro BK235 BK236 BK237 HB
    (try clear hb)
    (try clear hb2)
    (try clear hk)
    (try clear hi)
    refine hK.out _ _ ⟨bc BK235 0, bc BK235 1, bc BK235 2⟩ (fun hHeld => ?_)
    clear hK K
    refine norm_ (a' := ?_) ?_ ?_
    rotate_left
    ·show Act.put _ (some 18) _ = _
     simp only [Act.put, zA, zB, zC, i64_w, i32_w]
     rfl
    refine one_ (i := 8) (N := some 19) #[true, true, true, true, true, true, true, true, true, false, false, false, false, false, false, false, false] rfl rfl (one_of HT_.out (by kernel_rfl)) (by decide) (fun K hK => ?_)
    refine goes_ Try.func59 (by kernel_rfl) rfl #[.int .i64 a1, .int .i64 a0_0, .int .i64 t239] (by rfl) rfl rfl (by (try simp only [List.map_toArray, List.map_cons, List.map_nil]); first | done | rfl | (simp only [List.length_drop, List.length_take]; rfl)) ?_
    with_reducible refine (impl_in.calls a1 a0_0 t239 true _ A7.out).mono ?_
    rintro e w' ⟨rfl, ⟨nd, rfl⟩⟩
    refine ⟨_, rfl, ?_⟩
    refine hK.out _ _ ⟨bc BK235 0, bc BK235 1, bc BK235 2⟩ (fun hHeld => ?_)
    clear hK K
    refine norm_ (a' := ?_) ?_ ?_
    rotate_left
    ·show Act.put _ (some 19) _ = _
     simp only [Act.put, zA, zB, zC, i64_w, i32_w]
     rfl
    refine pure_ (i := 9) (N := some 20) (v := ?_) (a' := ?_) #[true, true, true, true, true, true, true, true, true, true, false, false, false, false, false, false, false] rfl rfl (any_of HT_.out (by kernel_rfl)) (fun _ _ _ h => h) (Or.inl ⟨by rfl, ?_⟩) ?_ ?_
    rotate_left
    ·intro w'
     go_simp
     with_reducible rfl
    rotate_left
    ·simp only [Act.put, zA, zB, zC, i64_w, i32_w]
     rfl
    refine pure_ (i := 10) (N := some 21) (v := ?_) (a' := ?_) #[true, true, true, true, true, true, true, true, true, true, true, false, false, false, false, false, false] rfl rfl (any_of HT_.out (by kernel_rfl)) (fun _ _ _ h => h) (Or.inl ⟨by rfl, ?_⟩) ?_ ?_
    rotate_left
    ·intro w'
     go_simp
     with_reducible rfl
    rotate_left
    ·simp only [Act.put, zA, zB, zC, i64_w, i32_w]
     rfl
    refine pure_ (i := 12) (N := some 23) (v := ?_) (a' := ?_) #[true, true, true, true, true, true, true, true, true, true, true, false, true, false, false, false, false] rfl rfl (any_of HT_.out (by kernel_rfl)) (fun _ _ _ h => h) (Or.inl ⟨by rfl, ?_⟩) ?_ ?_
    rotate_left
    ·intro w'
     go_simp
     with_reducible rfl
    rotate_left
    ·simp only [Act.put, zA, zB, zC, i64_w, i32_w]
     rfl
    refine pure_ (i := 14) (N := some 25) (v := ?_) (a' := ?_) #[true, true, true, true, true, true, true, true, true, true, true, false, true, false, true, false, false] rfl rfl (any_of HT_.out (by kernel_rfl)) (fun _ _ _ h => h) (Or.inl ⟨by rfl, ?_⟩) ?_ ?_
    rotate_left
    ·intro w'
     go_simp
     with_reducible rfl
    rotate_left
    ·simp only [Act.put, zA, zB, zC, i64_w, i32_w]
     rfl
    refine take_ (i := 11) (N := some 22) (v := ?_) (a' := ?_) #[true, true, true, true, true, true, true, true, true, true, true, true, true, false, true, false, false] rfl rfl (take_ofW HT_.out HW_.out (by kernel_rfl)) (fun _ _ _ h => h) (Or.inl ⟨by rfl, ?_⟩) hHeld ?_ ?_
    rotate_left
    ·rintro w' ⟨s0, s1, s2⟩
     go_simp
     with_reducible rfl
    rotate_left
    ·simp only [Act.put, zA, zB, zC, i64_w, i32_w]
     rfl
    refine one_ (i := 13) (N := some 24) #[true, true, true, true, true, true, true, true, true, true, true, true, true, true, true, false, false] rfl rfl (one_of HT_.out (by kernel_rfl)) (by decide) (fun K hK => ?_)
    refine goes_ Try.func98 (by kernel_rfl) rfl #[.agg #[.int .i64 a0_0, .int .i64 a0_1, .slice A0_2 l0_2.length c0_2], .int .i64 a1] (by rfl) rfl rfl (by (try simp only [List.map_toArray, List.map_cons, List.map_nil]); first | done | rfl | (simp only [List.length_drop, List.length_take]; rfl)) ?_
    with_reducible refine (impl_LogTerm.calls a0_0 a0_1 _ _ l0_2 a1 t241 _ ?side1 ?side2 A9.out).mono ?_
    (case side1 => repeat (first | exact (Kd.C_below HR0_2.out (bt HB)) | (with_reducible refine Kd.C_alloc ?_ _) | (with_reducible refine Kd.C_drewN ?_ _) | (with_reducible refine Kd.C_drew ?_)))
    (case side2 => exact HC0_2.out)
    rintro e w43 ⟨rfl, hb⟩
    refine ⟨_, rfl, ?_⟩
    have n0_ := bb BK235 hb
    have n1_ := bb BK236 hb
    have n2_ := bb BK237 hb
    have n3_ := Aside0.mk (below_step (bt HB) hb)
    clear BK235 BK236 BK237 HB
    revert n0_ n1_ n2_ n3_
    intro BK235 BK236 BK237 HB
    (try clear hb)
    (try clear hb2)
    (try clear hk)
    (try clear hi)
    refine hK.out _ _ ⟨bc BK235 0, bc BK235 1, bc BK235 2⟩ (fun hHeld => ?_)
    clear hK K
    refine norm_ (a' := ?_) ?_ ?_
    rotate_left
    ·show Act.put _ (some 24) _ = _
     simp only [Act.put, zA, zB, zC, i64_w, i32_w]
     rfl
    refine pure_ (i := 15) (N := some 26) (v := ?_) (a' := ?_) #[true, true, true, true, true, true, true, true, true, true, true, true, true, true, true, true, false] rfl rfl (any_of HT_.out (by kernel_rfl)) (fun _ _ _ h => h) (Or.inl ⟨by rfl, ?_⟩) ?_ ?_
    rotate_left
    ·intro w'
     go_simp
     with_reducible rfl
    rotate_left
    ·simp only [Act.put, zA, zB, zC, i64_w, i32_w]
     rfl
    refine pure_ (i := 16) (N := some 27) (v := ?_) (a' := ?_) #[true, true, true, true, true, true, true, true, true, true, true, true, true, true, true, true, true] rfl rfl (any_of HT_.out (by kernel_rfl)) (fun _ _ _ h => h) (Or.inl ⟨by rfl, ?_⟩) ?_ ?_
    rotate_left
    ·intro w'
     go_simp
     with_reducible rfl
    rotate_left
    ·simp only [Act.put, zA, zB, zC, i64_w, i32_w]
     rfl
    refine done_ (done_of HT_.out (by kernel_rfl)) ?_
    have hcz44_0 : w43.cell? ⟨gb237, 0, none⟩ = some (.int .i64 a1) := bc BK237 0
    have hcz44_1 : w43.cell? ⟨gb237, 1, none⟩ = some (.int .i64 a2) := bc BK237 1
    have hcz44_2 : w43.cell? ⟨gb237, 2, none⟩ = some (.slice none 0 0) := bc BK237 2
    have hfz44_0 := blk_frozen BK237.out 0
    have hfz44_1 := blk_frozen BK237.out 1
    have hfz44_2 := blk_frozen BK237.out 2
    have hnb45 := NB236_235.out
    have hnc45 := NB235_236.out
    have hcz46_0 : w43.cell? ⟨gb236, 0, none⟩ = some (.int .i64 0) := bc BK236 0
    have hcz46_1 : w43.cell? ⟨gb236, 1, none⟩ = some (.int .i64 0) := bc BK236 1
    have hcz46_2 : w43.cell? ⟨gb236, 2, none⟩ = some (.slice none 0 0) := bc BK236 2
    have hfz46_0 := blk_frozen BK236.out 0
    have hfz46_1 := blk_frozen BK236.out 1
    have hfz46_2 := blk_frozen BK236.out 2
    try go_wp2
    refine bodyPost_ret (results_cell_row rfl _ _ gb236 40 #[.int .i64 a1, .int .i64 a2, .slice none 0 0] (0, 0) _ rfl (by refine bk_ ?_; refine blk_put (cs := #[.int .i64 a1, .int .i64 a2, .slice none 0 0]) ?_ 2 _ rfl; refine bk_ ?_; refine blk_put (cs := #[.int .i64 a1, .int .i64 0, .slice none 0 0]) ?_ 1 _ rfl; refine bk_ ?_; refine blk_put (cs := #[.int .i64 0, .int .i64 0, .slice none 0 0]) ?_ 0 _ rfl; refine bk_ ?_; exact BK236.out) Try.underlying40 rfl (by kernel_rfl)) rfl ?_
    exact ⟨_, by first | rfl | (simp [errW_none, errW_some] <;> rfl) | (simp [*, errW_none, errW_some] <;> rfl), by first | exact Kd.R_nil _ _ _ _ _ | exact Kd.N_nil _ _ _ _ _ | exact Kd.V_nil _ _ _ _ _ | exact Kd.Q_nil _ _ _ _ _ | exact Kd.S_nil _ _ _ _ _, bt HB⟩
  ·replace c8 := Bool.eq_false_iff.mpr c8
   subst c8
   have H1 : (some (a1, a2, ([] : List (S53)))) = some (r1, r2, r3) := by rw [if_neg (show ¬ (false = true) by decide)] at H; exact H
   clear H
   have H := H1
   clear H1
   simp only [Option.some.injEq, Prod.mk.injEq] at H
   obtain ⟨rfl, rfl, rfl⟩ := H
   go_enter Try.func52, Try.ntmps52
   try go_wp2_with (first | ((with_reducible refine gate_dst (N := 3) rfl ?_); refine box_event ?hg (N := 3) ?hd (cs := #[.int .i64 a0_0, .int .i64 a0_1, .slice A0_2 l0_2.length c0_2]) (t := 40) ?hr ?_; (case hd => rfl); (case hg => rfl); (case hr => first | (go_simp; done) | (go_simp; rfl)); intro gb235 hg w47 hbox hb; have n0_ := Aside0.mk (below_step (bt HB) hb); have n1_ := Aside0.mk (hbox); have n2_ := Aside0.mk ((by rw [hg]; exact (below_size (bt HB)) : w.heap.size ≤ gb235)); have n3_ := Aside0.mk ((by rw [hg]; exact (below_size (bt HB)) : w.heap.size ≤ gb235)); clear HB; revert n0_ n1_ n2_ n3_; intro HB BK235 GW235 GE235; clear hb hbox hg) | ((with_reducible refine gate_dst (N := 6) rfl ?_); refine box_event ?hg (N := 6) ?hd (cs := #[.int .i64 0, .int .i64 0, .slice none 0 0]) (t := 40) ?hr ?_; (case hd => rfl); (case hg => rfl); (case hr => first | (go_simp; done) | (go_simp; rfl)); intro gb236 hg w48 hbox hb; have n0_ := bb BK235 hb; have n1_ := Aside0.mk (below_step (bt HB) hb); have n2_ := Aside0.mk (hbox); have n3_ := Aside0.mk ((by rw [hg]; exact (below_size (bt HB)) : w.heap.size ≤ gb236)); have n4_ := Aside0.mk ((by rw [hg]; exact (below_size (bt HB)) : w.heap.size ≤ gb236)); have n5_ := Aside0.mk ((by rw [hg]; exact Nat.ne_of_lt (blk_lt (bk BK235)) : gb235 ≠ gb236)); have n6_ := Aside0.mk ((by rw [hg]; exact Nat.ne_of_gt (blk_lt (bk BK235)) : gb236 ≠ gb235)); clear BK235 HB; revert n0_ n1_ n2_ n3_ n4_ n5_ n6_; intro BK235 HB BK236 GW236 GE236 NB235_236 NB236_235; clear hb hbox hg) | ((with_reducible refine gate_dst (N := 7) rfl ?_); refine box_event ?hg (N := 7) ?hd (cs := #[.int .i64 0, .int .i64 0, .slice none 0 0]) (t := 40) ?hr ?_; (case hd => rfl); (case hg => rfl); (case hr => first | (go_simp; done) | (go_simp; rfl)); intro gb237 hg w49 hbox hb; have n0_ := bb BK235 hb; have n1_ := bb BK236 hb; have n2_ := Aside0.mk (below_step (bt HB) hb); have n3_ := Aside0.mk (hbox); have n4_ := Aside0.mk ((by rw [hg]; exact (below_size (bt HB)) : w.heap.size ≤ gb237)); have n5_ := Aside0.mk ((by rw [hg]; exact (below_size (bt HB)) : w.heap.size ≤ gb237)); have n6_ := Aside0.mk ((by rw [hg]; exact Nat.ne_of_lt (blk_lt (bk BK235)) : gb235 ≠ gb237)); have n7_ := Aside0.mk ((by rw [hg]; exact Nat.ne_of_gt (blk_lt (bk BK235)) : gb237 ≠ gb235)); have n8_ := Aside0.mk ((by rw [hg]; exact Nat.ne_of_lt (blk_lt (bk BK236)) : gb236 ≠ gb237)); have n9_ := Aside0.mk ((by rw [hg]; exact Nat.ne_of_gt (blk_lt (bk BK236)) : gb237 ≠ gb236)); clear BK235 BK236 HB; revert n0_ n1_ n2_ n3_ n4_ n5_ n6_ n7_ n8_ n9_; intro BK235 BK236 HB BK237 GW237 GE237 NB235_237 NB237_235 NB236_237 NB237_236; clear hb hbox hg; have hnb50 := NB237_235.out; have hnc50 := NB235_237.out; have hnb51 := NB237_236.out; have hnc51 := NB236_237.out; have hcz52_0 : w49.cell? ⟨gb237, 0, none⟩ = some (.int .i64 0) := bc BK237 0; have hcz52_1 : w49.cell? ⟨gb237, 1, none⟩ = some (.int .i64 0) := bc BK237 1; have hcz52_2 : w49.cell? ⟨gb237, 2, none⟩ = some (.slice none 0 0) := bc BK237 2; have hfz52_0 := blk_frozen BK237.out 0; have hfz52_1 := blk_frozen BK237.out 1; have hfz52_2 := blk_frozen BK237.out 2))
   have n0_ : Aside0 ((((w49.setCell ⟨gb237, 0, none⟩ (.int .i64 a1)).setCell ⟨gb237, 1, none⟩ (.int .i64 a2)).setCell ⟨gb237, 2, none⟩ (.slice none 0 0)).heap[gb235]? = some (.cells #[.int .i64 a0_0, .int .i64 a0_1, .slice A0_2 l0_2.length c0_2] 40 (0, 0))) := ⟨by refine bk_ ?_; refine blk_far ?_ NB235_237.out _; refine bk_ ?_; refine blk_far ?_ NB235_237.out _; refine bk_ ?_; refine blk_far ?_ NB235_237.out _; refine bk_ ?_; exact BK235.out⟩
   have n1_ : Aside0 ((((w49.setCell ⟨gb237, 0, none⟩ (.int .i64 a1)).setCell ⟨gb237, 1, none⟩ (.int .i64 a2)).setCell ⟨gb237, 2, none⟩ (.slice none 0 0)).heap[gb236]? = some (.cells #[.int .i64 0, .int .i64 0, .slice none 0 0] 40 (0, 0))) := ⟨by refine bk_ ?_; refine blk_far ?_ NB236_237.out _; refine bk_ ?_; refine blk_far ?_ NB236_237.out _; refine bk_ ?_; refine blk_far ?_ NB236_237.out _; refine bk_ ?_; exact BK236.out⟩
   have n2_ : Aside0 ((((w49.setCell ⟨gb237, 0, none⟩ (.int .i64 a1)).setCell ⟨gb237, 1, none⟩ (.int .i64 a2)).setCell ⟨gb237, 2, none⟩ (.slice none 0 0)).heap[gb237]? = some (.cells #[.int .i64 a1, .int .i64 a2, .slice none 0 0] 40 (0, 0))) := ⟨by refine bk_ ?_; refine blk_put (cs := #[.int .i64 a1, .int .i64 a2, .slice none 0 0]) ?_ 2 _ rfl; refine bk_ ?_; refine blk_put (cs := #[.int .i64 a1, .int .i64 0, .slice none 0 0]) ?_ 1 _ rfl; refine bk_ ?_; refine blk_put (cs := #[.int .i64 0, .int .i64 0, .slice none 0 0]) ?_ 0 _ rfl; refine bk_ ?_; exact BK237.out⟩
   have n3_ : Aside0 (Below w.heap.size w (((w49.setCell ⟨gb237, 0, none⟩ (.int .i64 a1)).setCell ⟨gb237, 1, none⟩ (.int .i64 a2)).setCell ⟨gb237, 2, none⟩ (.slice none 0 0))) := ⟨bt HB⟩
   (try clear BK235)
   (try clear BK236)
   (try clear BK237)
   (try clear HB)
   generalize (((w49.setCell ⟨gb237, 0, none⟩ (.int .i64 a1)).setCell ⟨gb237, 1, none⟩ (.int .i64 a2)).setCell ⟨gb237, 2, none⟩ (.slice none 0 0)) = w53 at n0_ n1_ n2_ n3_ ⊢
   have BK235 := n0_
   have BK236 := n1_
   have BK237 := n2_
   have HB := n3_
   clear n0_ n1_ n2_ n3_
   have n0_ := Aside0.mk (blk_drew BK235.out)
   have n1_ := Aside0.mk (blk_drew BK236.out)
   have n2_ := Aside0.mk (blk_drew BK237.out)
   have n3_ := Aside0.mk (below_drew1 HB.out)
   clear BK235 BK236 BK237 HB
   revert n0_ n1_ n2_ n3_
   intro BK235 BK236 BK237 HB
   refine start_ (n := 17) (S := fun w' => w'.cell? ⟨gb235, 0, none⟩ = some (.int .i64 a0_0) ∧ w'.cell? ⟨gb235, 1, none⟩ = some (.int .i64 a0_1) ∧ w'.cell? ⟨gb235, 2, none⟩ = some (.slice A0_2 l0_2.length c0_2)) (ds := []) #[false, false, false, false, false, false, false, false, false, false, false, false, false, false, false, false, false] (by kernel_rfl) rfl rfl ⟨bc BK235 0, bc BK235 1, bc BK235 2⟩ (fun hHeld => ?_); refine with_tabW impl_LogBehind.tab2 impl_LogBehind.bits2 (fun HT_ HW_ => ?_)
   generalize w53.drew = w54 at BK235 BK236 BK237 HB hHeld ⊢
   refine take_ (i := 0) (N := some 11) (v := ?_) (a' := ?_) #[true, false, false, false, false, false, false, false, false, false, false, false, false, false, false, false, false] rfl rfl (take_ofW HT_.out HW_.out (by kernel_rfl)) (fun _ _ _ h => h) (Or.inl ⟨by rfl, ?_⟩) hHeld ?_ ?_
   rotate_left
   ·rintro w' ⟨s0, s1, s2⟩
    go_simp
    with_reducible rfl
   rotate_left
   ·simp only [Act.put, zA, zB, zC, i64_w, i32_w]
    rfl
   refine one_ (i := 1) (N := some 12) #[true, true, false, false, false, false, false, false, false, false, false, false, false, false, false, false, false] rfl rfl (one_of HT_.out (by kernel_rfl)) (by decide) (fun K hK => ?_)
   refine goes_ Try.func20 (by kernel_rfl) rfl #[.agg #[.int .i64 a0_0, .int .i64 a0_1, .slice A0_2 l0_2.length c0_2]] (by rfl) rfl rfl (by (try simp only [List.map_toArray, List.map_cons, List.map_nil]); first | done | rfl | (simp only [List.length_drop, List.length_take]; rfl)) ?_
   with_reducible refine (impl_LogOk.calls k a0_0 a0_1 _ _ l0_2 true _ ?side1 ?side2 A4.out).mono ?_
   (case side1 => repeat (first | exact (Kd.C_below HR0_2.out HB.out) | (with_reducible refine Kd.C_alloc ?_ _) | (with_reducible refine Kd.C_drewN ?_ _) | (with_reducible refine Kd.C_drew ?_)))
   (case side2 => exact HC0_2.out)
   rintro e w55 ⟨rfl, hb⟩
   refine ⟨_, rfl, ?_⟩
   have n0_ := bb BK235 hb
   have n1_ := bb BK236 hb
   have n2_ := bb BK237 hb
   have n3_ := Aside0.mk (below_step (bt HB) hb)
   clear BK235 BK236 BK237 HB
   revert n0_ n1_ n2_ n3_
   intro BK235 BK236 BK237 HB
   (try clear hb)
   (try clear hb2)
   (try clear hk)
   (try clear hi)
   refine hK.out _ _ ⟨bc BK235 0, bc BK235 1, bc BK235 2⟩ (fun hHeld => ?_)
   clear hK K
   refine norm_ (a' := ?_) ?_ ?_
   rotate_left
   ·show Act.put _ (some 12) _ = _
    simp only [Act.put, zA, zB, zC, i64_w, i32_w]
    rfl
   refine pure_ (i := 2) (N := some 13) (v := ?_) (a' := ?_) #[true, true, true, false, false, false, false, false, false, false, false, false, false, false, false, false, false] rfl rfl (any_of HT_.out (by kernel_rfl)) (fun _ _ _ h => h) (Or.inl ⟨by rfl, ?_⟩) ?_ ?_
   rotate_left
   ·intro w'
    go_simp
    with_reducible rfl
   rotate_left
   ·simp only [Act.put, zA, zB, zC, i64_w, i32_w]
    rfl
   refine pure_ (i := 3) (N := some 14) (v := ?_) (a' := ?_) #[true, true, true, true, false, false, false, false, false, false, false, false, false, false, false, false, false] rfl rfl (any_of HT_.out (by kernel_rfl)) (fun _ _ _ h => h) (Or.inl ⟨by rfl, ?_⟩) ?_ ?_
   rotate_left
   ·intro w'
    go_simp
    with_reducible rfl
   rotate_left
   ·simp only [Act.put, zA, zB, zC, i64_w, i32_w]
    rfl
   refine pure_ (i := 4) (N := some 15) (v := ?_) (a' := ?_) #[true, true, true, true, true, false, false, false, false, false, false, false, false, false, false, false, false] rfl rfl (any_of HT_.out (by kernel_rfl)) (fun _ _ _ h => h) (Or.inl ⟨by rfl, ?_⟩) ?_ ?_
   rotate_left
   ·intro w'
    go_simp
    with_reducible rfl
   rotate_left
   ·simp only [Act.put, zA, zB, zC, i64_w, i32_w]
    rfl
   refine take_ (i := 5) (N := some 16) (v := ?_) (a' := ?_) #[true, true, true, true, true, true, false, false, false, false, false, false, false, false, false, false, false] rfl rfl (take_ofW HT_.out HW_.out (by kernel_rfl)) (fun _ _ _ h => h) (Or.inl ⟨by rfl, ?_⟩) hHeld ?_ ?_
   rotate_left
   ·rintro w' ⟨s0, s1, s2⟩
    go_simp
    with_reducible rfl
   rotate_left
   ·simp only [Act.put, zA, zB, zC, i64_w, i32_w]
    rfl
   refine take_ (i := 6) (N := some 17) (v := ?_) (a' := ?_) #[true, true, true, true, true, true, true, false, false, false, false, false, false, false, false, false, false] rfl rfl (take_ofW HT_.out HW_.out (by kernel_rfl)) (fun _ _ _ h => h) (Or.inl ⟨by rfl, ?_⟩) hHeld ?_ ?_
   rotate_left
   ·rintro w' ⟨s0, s1, s2⟩
    go_simp
    with_reducible rfl
   rotate_left
   ·simp only [Act.put, zA, zB, zC, i64_w, i32_w]
    rfl
   refine one_ (i := 7) (N := some 18) #[true, true, true, true, true, true, true, true, false, false, false, false, false, false, false, false, false] rfl rfl (one_of HT_.out (by kernel_rfl)) (by decide) (fun K hK => ?_)
   refine goes_ Try.func93 (by kernel_rfl) rfl #[.agg #[.int .i64 a0_0, .int .i64 a0_1, .slice A0_2 l0_2.length c0_2]] (by rfl) rfl rfl (by (try simp only [List.map_toArray, List.map_cons, List.map_nil]); first | done | rfl | (simp only [List.length_drop, List.length_take]; rfl)) ?_
   with_reducible refine (impl_lastOf.calls a0_0 a0_1 _ _ l0_2 t239 _ ?side1 ?side2 A6.out).mono ?_
   (case side1 => repeat (first | exact (Kd.C_below HR0_2.out HB.out) | (with_reducible refine Kd.C_alloc ?_ _) | (with_reducible refine Kd.C_drewN ?_ _) | (with_reducible refine Kd.C_drew ?_)))
   (case side2 => exact HC0_2.out)
   rintro e w56 ⟨rfl, hb⟩
   refine ⟨_, rfl, ?_⟩
   have n0_ := bb BK235 hb
   have n1_ := bb BK236 hb
   have n2_ := bb BK237 hb
   have n3_ := Aside0.mk (below_step (bt HB) hb)
   clear BK235 BK236 BK237 HB
   revert n0_ n1_ n2_ n3_
   intro BK235 BK236 BK237 HB
   (try clear hb)
   (try clear hb2)
   (try clear hk)
   (try clear hi)
   refine hK.out _ _ ⟨bc BK235 0, bc BK235 1, bc BK235 2⟩ (fun hHeld => ?_)
   clear hK K
   refine norm_ (a' := ?_) ?_ ?_
   rotate_left
   ·show Act.put _ (some 18) _ = _
    simp only [Act.put, zA, zB, zC, i64_w, i32_w]
    rfl
   refine one_ (i := 8) (N := some 19) #[true, true, true, true, true, true, true, true, true, false, false, false, false, false, false, false, false] rfl rfl (one_of HT_.out (by kernel_rfl)) (by decide) (fun K hK => ?_)
   refine goes_ Try.func59 (by kernel_rfl) rfl #[.int .i64 a1, .int .i64 a0_0, .int .i64 t239] (by rfl) rfl rfl (by (try simp only [List.map_toArray, List.map_cons, List.map_nil]); first | done | rfl | (simp only [List.length_drop, List.length_take]; rfl)) ?_
   with_reducible refine (impl_in.calls a1 a0_0 t239 false _ A7.out).mono ?_
   rintro e w' ⟨rfl, ⟨nd, rfl⟩⟩
   refine ⟨_, rfl, ?_⟩
   refine hK.out _ _ ⟨bc BK235 0, bc BK235 1, bc BK235 2⟩ (fun hHeld => ?_)
   clear hK K
   refine norm_ (a' := ?_) ?_ ?_
   rotate_left
   ·show Act.put _ (some 19) _ = _
    simp only [Act.put, zA, zB, zC, i64_w, i32_w]
    rfl
   refine pure_ (i := 9) (N := some 20) (v := ?_) (a' := ?_) #[true, true, true, true, true, true, true, true, true, true, false, false, false, false, false, false, false] rfl rfl (any_of HT_.out (by kernel_rfl)) (fun _ _ _ h => h) (Or.inl ⟨by rfl, ?_⟩) ?_ ?_
   rotate_left
   ·intro w'
    go_simp
    with_reducible rfl
   rotate_left
   ·simp only [Act.put, zA, zB, zC, i64_w, i32_w]
    rfl
   refine pure_ (i := 10) (N := some 21) (v := ?_) (a' := ?_) #[true, true, true, true, true, true, true, true, true, true, true, false, false, false, false, false, false] rfl rfl (any_of HT_.out (by kernel_rfl)) (fun _ _ _ h => h) (Or.inl ⟨by rfl, ?_⟩) ?_ ?_
   rotate_left
   ·intro w'
    go_simp
    with_reducible rfl
   rotate_left
   ·simp only [Act.put, zA, zB, zC, i64_w, i32_w]
    rfl
   refine pure_ (i := 11) (N := some 22) (v := undef) (a' := ?_) #[true, true, true, true, true, true, true, true, true, true, true, true, false, false, false, false, false] rfl rfl (any_of HT_.out (by kernel_rfl)) (fun _ _ _ h => h) (Or.inr ⟨by rfl, rfl⟩) ?_ ?_
   rotate_left
   ·simp only [Act.put, zA, zB, zC, i64_w, i32_w]
    rfl
   refine pure_ (i := 12) (N := some 23) (v := undef) (a' := ?_) #[true, true, true, true, true, true, true, true, true, true, true, true, true, false, false, false, false] rfl rfl (any_of HT_.out (by kernel_rfl)) (fun _ _ _ h => h) (Or.inr ⟨by rfl, rfl⟩) ?_ ?_
   rotate_left
   ·simp only [Act.put, zA, zB, zC, i64_w, i32_w]
    rfl
   refine pure_ (i := 13) (N := some 24) (v := undef) (a' := ?_) #[true, true, true, true, true, true, true, true, true, true, true, true, true, true, false, false, false] rfl rfl (any_of HT_.out (by kernel_rfl)) (fun _ _ _ h => h) (Or.inr ⟨by rfl, rfl⟩) ?_ ?_
   rotate_left
   ·simp only [Act.put, zA, zB, zC, i64_w, i32_w]
    rfl
   refine pure_ (i := 14) (N := some 25) (v := undef) (a' := ?_) #[true, true, true, true, true, true, true, true, true, true, true, true, true, true, true, false, false] rfl rfl (any_of HT_.out (by kernel_rfl)) (fun _ _ _ h => h) (Or.inr ⟨by rfl, rfl⟩) ?_ ?_
   rotate_left
   ·simp only [Act.put, zA, zB, zC, i64_w, i32_w]
    rfl
   refine pure_ (i := 15) (N := some 26) (v := undef) (a' := ?_) #[true, true, true, true, true, true, true, true, true, true, true, true, true, true, true, true, false] rfl rfl (any_of HT_.out (by kernel_rfl)) (fun _ _ _ h => h) (Or.inr ⟨by rfl, rfl⟩) ?_ ?_
   rotate_left
   ·simp only [Act.put, zA, zB, zC, i64_w, i32_w]
    rfl
   refine pure_ (i := 16) (N := some 27) (v := ?_) (a' := ?_) #[true, true, true, true, true, true, true, true, true, true, true, true, true, true, true, true, true] rfl rfl (any_of HT_.out (by kernel_rfl)) (fun _ _ _ h => h) (Or.inl ⟨by rfl, ?_⟩) ?_ ?_
   rotate_left
   ·intro w'
    go_simp
    with_reducible rfl
   rotate_left
   ·simp only [Act.put, zA, zB, zC, i64_w, i32_w]
    rfl
   refine done_ (done_of HT_.out (by kernel_rfl)) ?_
   have hcz57_0 : w56.cell? ⟨gb237, 0, none⟩ = some (.int .i64 a1) := bc BK237 0
   have hcz57_1 : w56.cell? ⟨gb237, 1, none⟩ = some (.int .i64 a2) := bc BK237 1
   have hcz57_2 : w56.cell? ⟨gb237, 2, none⟩ = some (.slice none 0 0) := bc BK237 2
   have hfz57_0 := blk_frozen BK237.out 0
   have hfz57_1 := blk_frozen BK237.out 1
   have hfz57_2 := blk_frozen BK237.out 2
   have hnb58 := NB236_235.out
   have hnc58 := NB235_236.out
   have hcz59_0 : w56.cell? ⟨gb236, 0, none⟩ = some (.int .i64 0) := bc BK236 0
   have hcz59_1 : w56.cell? ⟨gb236, 1, none⟩ = some (.int .i64 0) := bc BK236 1
   have hcz59_2 : w56.cell? ⟨gb236, 2, none⟩ = some (.slice none 0 0) := bc BK236 2
   have hfz59_0 := blk_frozen BK236.out 0
   have hfz59_1 := blk_frozen BK236.out 1
   have hfz59_2 := blk_frozen BK236.out 2
   try go_wp2
   refine bodyPost_ret (results_cell_row rfl _ _ gb236 40 #[.int .i64 a1, .int .i64 a2, .slice none 0 0] (0, 0) _ rfl (by refine bk_ ?_; refine blk_put (cs := #[.int .i64 a1, .int .i64 a2, .slice none 0 0]) ?_ 2 _ rfl; refine bk_ ?_; refine blk_put (cs := #[.int .i64 a1, .int .i64 0, .slice none 0 0]) ?_ 1 _ rfl; refine bk_ ?_; refine blk_put (cs := #[.int .i64 0, .int .i64 0, .slice none 0 0]) ?_ 0 _ rfl; refine bk_ ?_; exact BK236.out) Try.underlying40 rfl (by kernel_rfl)) rfl ?_
   exact ⟨_, by first | rfl | (simp [errW_none, errW_some] <;> rfl) | (simp [*, errW_none, errW_some] <;> rfl), by first | exact Kd.R_nil _ _ _ _ _ | exact Kd.N_nil _ _ _ _ _ | exact Kd.V_nil _ _ _ _ _ | exact Kd.Q_nil _ _ _ _ _ | exact Kd.S_nil _ _ _ _ _, bt HB⟩
 ·replace c5 := Bool.eq_false_iff.mpr c5
  subst c5
  have H1 : (some (a1, a2, ([] : List (S53)))) = some (r1, r2, r3) := by rw [if_neg (show ¬ (false = true) by decide)] at H; exact H
  clear H
  have H := H1
  clear H1
  simp only [Option.some.injEq, Prod.mk.injEq] at H
  obtain ⟨rfl, rfl, rfl⟩ := H
  go_enter Try.func52, Try.ntmps52
  try go_wp2_with (first | ((with_reducible refine gate_dst (N := 3) rfl ?_); refine box_event ?hg (N := 3) ?hd (cs := #[.int .i64 a0_0, .int .i64 a0_1, .slice A0_2 l0_2.length c0_2]) (t := 40) ?hr ?_; (case hd => rfl); (case hg => rfl); (case hr => first | (go_simp; done) | (go_simp; rfl)); intro gb235 hg w60 hbox hb; have n0_ := Aside0.mk (below_step (bt HB) hb); have n1_ := Aside0.mk (hbox); have n2_ := Aside0.mk ((by rw [hg]; exact (below_size (bt HB)) : w.heap.size ≤ gb235)); have n3_ := Aside0.mk ((by rw [hg]; exact (below_size (bt HB)) : w.heap.size ≤ gb235)); clear HB; revert n0_ n1_ n2_ n3_; intro HB BK235 GW235 GE235; clear hb hbox hg) | ((with_reducible refine gate_dst (N := 6) rfl ?_); refine box_event ?hg (N := 6) ?hd (cs := #[.int .i64 0, .int .i64 0, .slice none 0 0]) (t := 40) ?hr ?_; (case hd => rfl); (case hg => rfl); (case hr => first | (go_simp; done) | (go_simp; rfl)); intro gb236 hg w61 hbox hb; have n0_ := bb BK235 hb; have n1_ := Aside0.mk (below_step (bt HB) hb); have n2_ := Aside0.mk (hbox); have n3_ := Aside0.mk ((by rw [hg]; exact (below_size (bt HB)) : w.heap.size ≤ gb236)); have n4_ := Aside0.mk ((by rw [hg]; exact (below_size (bt HB)) : w.heap.size ≤ gb236)); have n5_ := Aside0.mk ((by rw [hg]; exact Nat.ne_of_lt (blk_lt (bk BK235)) : gb235 ≠ gb236)); have n6_ := Aside0.mk ((by rw [hg]; exact Nat.ne_of_gt (blk_lt (bk BK235)) : gb236 ≠ gb235)); clear BK235 HB; revert n0_ n1_ n2_ n3_ n4_ n5_ n6_; intro BK235 HB BK236 GW236 GE236 NB235_236 NB236_235; clear hb hbox hg) | ((with_reducible refine gate_dst (N := 7) rfl ?_); refine box_event ?hg (N := 7) ?hd (cs := #[.int .i64 0, .int .i64 0, .slice none 0 0]) (t := 40) ?hr ?_; (case hd => rfl); (case hg => rfl); (case hr => first | (go_simp; done) | (go_simp; rfl)); intro gb237 hg w62 hbox hb; have n0_ := bb BK235 hb; have n1_ := bb BK236 hb; have n2_ := Aside0.mk (below_step (bt HB) hb); have n3_ := Aside0.mk (hbox); have n4_ := Aside0.mk ((by rw [hg]; exact (below_size (bt HB)) : w.heap.size ≤ gb237)); have n5_ := Aside0.mk ((by rw [hg]; exact (below_size (bt HB)) : w.heap.size ≤ gb237)); have n6_ := Aside0.mk ((by rw [hg]; exact Nat.ne_of_lt (blk_lt (bk BK235)) : gb235 ≠ gb237)); have n7_ := Aside0.mk ((by rw [hg]; exact Nat.ne_of_gt (blk_lt (bk BK235)) : gb237 ≠ gb235)); have n8_ := Aside0.mk ((by rw [hg]; exact Nat.ne_of_lt (blk_lt (bk BK236)) : gb236 ≠ gb237)); have n9_ := Aside0.mk ((by rw [hg]; exact Nat.ne_of_gt (blk_lt (bk BK236)) : gb237 ≠ gb236)); clear BK235 BK236 HB; revert n0_ n1_ n2_ n3_ n4_ n5_ n6_ n7_ n8_ n9_; intro BK235 BK236 HB BK237 GW237 GE237 NB235_237 NB237_235 NB236_237 NB237_236; clear hb hbox hg; have hnb63 := NB237_235.out; have hnc63 := NB235_237.out; have hnb64 := NB237_236.out; have hnc64 := NB236_237.out; have hcz65_0 : w62.cell? ⟨gb237, 0, none⟩ = some (.int .i64 0) := bc BK237 0; have hcz65_1 : w62.cell? ⟨gb237, 1, none⟩ = some (.int .i64 0) := bc BK237 1; have hcz65_2 : w62.cell? ⟨gb237, 2, none⟩ = some (.slice none 0 0) := bc BK237 2; have hfz65_0 := blk_frozen BK237.out 0; have hfz65_1 := blk_frozen BK237.out 1; have hfz65_2 := blk_frozen BK237.out 2))
  have n0_ : Aside0 ((((w62.setCell ⟨gb237, 0, none⟩ (.int .i64 a1)).setCell ⟨gb237, 1, none⟩ (.int .i64 a2)).setCell ⟨gb237, 2, none⟩ (.slice none 0 0)).heap[gb235]? = some (.cells #[.int .i64 a0_0, .int .i64 a0_1, .slice A0_2 l0_2.length c0_2] 40 (0, 0))) := ⟨by refine bk_ ?_; refine blk_far ?_ NB235_237.out _; refine bk_ ?_; refine blk_far ?_ NB235_237.out _; refine bk_ ?_; refine blk_far ?_ NB235_237.out _; refine bk_ ?_; exact BK235.out⟩
  have n1_ : Aside0 ((((w62.setCell ⟨gb237, 0, none⟩ (.int .i64 a1)).setCell ⟨gb237, 1, none⟩ (.int .i64 a2)).setCell ⟨gb237, 2, none⟩ (.slice none 0 0)).heap[gb236]? = some (.cells #[.int .i64 0, .int .i64 0, .slice none 0 0] 40 (0, 0))) := ⟨by refine bk_ ?_; refine blk_far ?_ NB236_237.out _; refine bk_ ?_; refine blk_far ?_ NB236_237.out _; refine bk_ ?_; refine blk_far ?_ NB236_237.out _; refine bk_ ?_; exact BK236.out⟩
  have n2_ : Aside0 ((((w62.setCell ⟨gb237, 0, none⟩ (.int .i64 a1)).setCell ⟨gb237, 1, none⟩ (.int .i64 a2)).setCell ⟨gb237, 2, none⟩ (.slice none 0 0)).heap[gb237]? = some (.cells #[.int .i64 a1, .int .i64 a2, .slice none 0 0] 40 (0, 0))) := ⟨by refine bk_ ?_; refine blk_put (cs := #[.int .i64 a1, .int .i64 a2, .slice none 0 0]) ?_ 2 _ rfl; refine bk_ ?_; refine blk_put (cs := #[.int .i64 a1, .int .i64 0, .slice none 0 0]) ?_ 1 _ rfl; refine bk_ ?_; refine blk_put (cs := #[.int .i64 0, .int .i64 0, .slice none 0 0]) ?_ 0 _ rfl; refine bk_ ?_; exact BK237.out⟩
  have n3_ : Aside0 (Below w.heap.size w (((w62.setCell ⟨gb237, 0, none⟩ (.int .i64 a1)).setCell ⟨gb237, 1, none⟩ (.int .i64 a2)).setCell ⟨gb237, 2, none⟩ (.slice none 0 0))) := ⟨bt HB⟩
  (try clear BK235)
  (try clear BK236)
  (try clear BK237)
  (try clear HB)
  generalize (((w62.setCell ⟨gb237, 0, none⟩ (.int .i64 a1)).setCell ⟨gb237, 1, none⟩ (.int .i64 a2)).setCell ⟨gb237, 2, none⟩ (.slice none 0 0)) = w66 at n0_ n1_ n2_ n3_ ⊢
  have BK235 := n0_
  have BK236 := n1_
  have BK237 := n2_
  have HB := n3_
  clear n0_ n1_ n2_ n3_
  have n0_ := Aside0.mk (blk_drew BK235.out)
  have n1_ := Aside0.mk (blk_drew BK236.out)
  have n2_ := Aside0.mk (blk_drew BK237.out)
  have n3_ := Aside0.mk (below_drew1 HB.out)
  clear BK235 BK236 BK237 HB
  revert n0_ n1_ n2_ n3_
  intro BK235 BK236 BK237 HB
  refine start_ (n := 17) (S := fun w' => w'.cell? ⟨gb235, 0, none⟩ = some (.int .i64 a0_0) ∧ w'.cell? ⟨gb235, 1, none⟩ = some (.int .i64 a0_1) ∧ w'.cell? ⟨gb235, 2, none⟩ = some (.slice A0_2 l0_2.length c0_2)) (ds := []) #[false, false, false, false, false, false, false, false, false, false, false, false, false, false, false, false, false] (by kernel_rfl) rfl rfl ⟨bc BK235 0, bc BK235 1, bc BK235 2⟩ (fun hHeld => ?_); refine with_tabW impl_LogBehind.tab2 impl_LogBehind.bits2 (fun HT_ HW_ => ?_)
  generalize w66.drew = w67 at BK235 BK236 BK237 HB hHeld ⊢
  refine take_ (i := 0) (N := some 11) (v := ?_) (a' := ?_) #[true, false, false, false, false, false, false, false, false, false, false, false, false, false, false, false, false] rfl rfl (take_ofW HT_.out HW_.out (by kernel_rfl)) (fun _ _ _ h => h) (Or.inl ⟨by rfl, ?_⟩) hHeld ?_ ?_
  rotate_left
  ·rintro w' ⟨s0, s1, s2⟩
   go_simp
   with_reducible rfl
  rotate_left
  ·simp only [Act.put, zA, zB, zC, i64_w, i32_w]
   rfl
  refine one_ (i := 1) (N := some 12) #[true, true, false, false, false, false, false, false, false, false, false, false, false, false, false, false, false] rfl rfl (one_of HT_.out (by kernel_rfl)) (by decide) (fun K hK => ?_)
  refine goes_ Try.func20 (by kernel_rfl) rfl #[.agg #[.int .i64 a0_0, .int .i64 a0_1, .slice A0_2 l0_2.length c0_2]] (by rfl) rfl rfl (by (try simp only [List.map_toArray, List.map_cons, List.map_nil]); first | done | rfl | (simp only [List.length_drop, List.length_take]; rfl)) ?_
  with_reducible refine (impl_LogOk.calls k a0_0 a0_1 _ _ l0_2 false _ ?side1 ?side2 A4.out).mono ?_
  (case side1 => repeat (first | exact (Kd.C_below HR0_2.out HB.out) | (with_reducible refine Kd.C_alloc ?_ _) | (with_reducible refine Kd.C_drewN ?_ _) | (with_reducible refine Kd.C_drew ?_)))
  (case side2 => exact HC0_2.out)
  rintro e w68 ⟨rfl, hb⟩
  refine ⟨_, rfl, ?_⟩
  have n0_ := bb BK235 hb
  have n1_ := bb BK236 hb
  have n2_ := bb BK237 hb
  have n3_ := Aside0.mk (below_step (bt HB) hb)
  clear BK235 BK236 BK237 HB
  revert n0_ n1_ n2_ n3_
  intro BK235 BK236 BK237 HB
  (try clear hb)
  (try clear hb2)
  (try clear hk)
  (try clear hi)
  refine hK.out _ _ ⟨bc BK235 0, bc BK235 1, bc BK235 2⟩ (fun hHeld => ?_)
  clear hK K
  refine norm_ (a' := ?_) ?_ ?_
  rotate_left
  ·show Act.put _ (some 12) _ = _
   simp only [Act.put, zA, zB, zC, i64_w, i32_w]
   rfl
  refine pure_ (i := 2) (N := some 13) (v := ?_) (a' := ?_) #[true, true, true, false, false, false, false, false, false, false, false, false, false, false, false, false, false] rfl rfl (any_of HT_.out (by kernel_rfl)) (fun _ _ _ h => h) (Or.inl ⟨by rfl, ?_⟩) ?_ ?_
  rotate_left
  ·intro w'
   go_simp
   with_reducible rfl
  rotate_left
  ·simp only [Act.put, zA, zB, zC, i64_w, i32_w]
   rfl
  refine pure_ (i := 3) (N := some 14) (v := undef) (a' := ?_) #[true, true, true, true, false, false, false, false, false, false, false, false, false, false, false, false, false] rfl rfl (any_of HT_.out (by kernel_rfl)) (fun _ _ _ h => h) (Or.inr ⟨by rfl, rfl⟩) ?_ ?_
  rotate_left
  ·simp only [Act.put, zA, zB, zC, i64_w, i32_w]
   rfl
  refine pure_ (i := 4) (N := some 15) (v := undef) (a' := ?_) #[true, true, true, true, true, false, false, false, false, false, false, false, false, false, false, false, false] rfl rfl (any_of HT_.out (by kernel_rfl)) (fun _ _ _ h => h) (Or.inr ⟨by rfl, rfl⟩) ?_ ?_
  rotate_left
  ·simp only [Act.put, zA, zB, zC, i64_w, i32_w]
   rfl
  refine pure_ (i := 5) (N := some 16) (v := undef) (a' := ?_) #[true, true, true, true, true, true, false, false, false, false, false, false, false, false, false, false, false] rfl rfl (any_of HT_.out (by kernel_rfl)) (fun _ _ _ h => h) (Or.inr ⟨by rfl, rfl⟩) ?_ ?_
  rotate_left
  ·simp only [Act.put, zA, zB, zC, i64_w, i32_w]
   rfl
  refine pure_ (i := 6) (N := some 17) (v := undef) (a' := ?_) #[true, true, true, true, true, true, true, false, false, false, false, false, false, false, false, false, false] rfl rfl (any_of HT_.out (by kernel_rfl)) (fun _ _ _ h => h) (Or.inr ⟨by rfl, rfl⟩) ?_ ?_
  rotate_left
  ·simp only [Act.put, zA, zB, zC, i64_w, i32_w]
   rfl
  refine pure_ (i := 7) (N := some 18) (v := undef) (a' := ?_) #[true, true, true, true, true, true, true, true, false, false, false, false, false, false, false, false, false] rfl rfl (any_of HT_.out (by kernel_rfl)) (fun _ _ _ h => h) (Or.inr ⟨by rfl, rfl⟩) ?_ ?_
  rotate_left
  ·simp only [Act.put, zA, zB, zC, i64_w, i32_w]
   rfl
  refine pure_ (i := 8) (N := some 19) (v := undef) (a' := ?_) #[true, true, true, true, true, true, true, true, true, false, false, false, false, false, false, false, false] rfl rfl (any_of HT_.out (by kernel_rfl)) (fun _ _ _ h => h) (Or.inr ⟨by rfl, rfl⟩) ?_ ?_
  rotate_left
  ·simp only [Act.put, zA, zB, zC, i64_w, i32_w]
   rfl
  refine pure_ (i := 9) (N := some 20) (v := ?_) (a' := ?_) #[true, true, true, true, true, true, true, true, true, true, false, false, false, false, false, false, false] rfl rfl (any_of HT_.out (by kernel_rfl)) (fun _ _ _ h => h) (Or.inl ⟨by rfl, ?_⟩) ?_ ?_
  rotate_left
  ·intro w'
   go_simp
   with_reducible rfl
  rotate_left
  ·simp only [Act.put, zA, zB, zC, i64_w, i32_w]
   rfl
  refine pure_ (i := 10) (N := some 21) (v := ?_) (a' := ?_) #[true, true, true, true, true, true, true, true, true, true, true, false, false, false, false, false, false] rfl rfl (any_of HT_.out (by kernel_rfl)) (fun _ _ _ h => h) (Or.inl ⟨by rfl, ?_⟩) ?_ ?_
  rotate_left
  ·intro w'
   go_simp
   with_reducible rfl
  rotate_left
  ·simp only [Act.put, zA, zB, zC, i64_w, i32_w]
   rfl
  refine pure_ (i := 11) (N := some 22) (v := undef) (a' := ?_) #[true, true, true, true, true, true, true, true, true, true, true, true, false, false, false, false, false] rfl rfl (any_of HT_.out (by kernel_rfl)) (fun _ _ _ h => h) (Or.inr ⟨by rfl, rfl⟩) ?_ ?_
  rotate_left
  ·simp only [Act.put, zA, zB, zC, i64_w, i32_w]
   rfl
  refine pure_ (i := 12) (N := some 23) (v := undef) (a' := ?_) #[true, true, true, true, true, true, true, true, true, true, true, true, true, false, false, false, false] rfl rfl (any_of HT_.out (by kernel_rfl)) (fun _ _ _ h => h) (Or.inr ⟨by rfl, rfl⟩) ?_ ?_
  rotate_left
  ·simp only [Act.put, zA, zB, zC, i64_w, i32_w]
   rfl
  refine pure_ (i := 13) (N := some 24) (v := undef) (a' := ?_) #[true, true, true, true, true, true, true, true, true, true, true, true, true, true, false, false, false] rfl rfl (any_of HT_.out (by kernel_rfl)) (fun _ _ _ h => h) (Or.inr ⟨by rfl, rfl⟩) ?_ ?_
  rotate_left
  ·simp only [Act.put, zA, zB, zC, i64_w, i32_w]
   rfl
  refine pure_ (i := 14) (N := some 25) (v := undef) (a' := ?_) #[true, true, true, true, true, true, true, true, true, true, true, true, true, true, true, false, false] rfl rfl (any_of HT_.out (by kernel_rfl)) (fun _ _ _ h => h) (Or.inr ⟨by rfl, rfl⟩) ?_ ?_
  rotate_left
  ·simp only [Act.put, zA, zB, zC, i64_w, i32_w]
   rfl
  refine pure_ (i := 15) (N := some 26) (v := undef) (a' := ?_) #[true, true, true, true, true, true, true, true, true, true, true, true, true, true, true, true, false] rfl rfl (any_of HT_.out (by kernel_rfl)) (fun _ _ _ h => h) (Or.inr ⟨by rfl, rfl⟩) ?_ ?_
  rotate_left
  ·simp only [Act.put, zA, zB, zC, i64_w, i32_w]
   rfl
  refine pure_ (i := 16) (N := some 27) (v := ?_) (a' := ?_) #[true, true, true, true, true, true, true, true, true, true, true, true, true, true, true, true, true] rfl rfl (any_of HT_.out (by kernel_rfl)) (fun _ _ _ h => h) (Or.inl ⟨by rfl, ?_⟩) ?_ ?_
  rotate_left
  ·intro w'
   go_simp
   with_reducible rfl
  rotate_left
  ·simp only [Act.put, zA, zB, zC, i64_w, i32_w]
   rfl
  refine done_ (done_of HT_.out (by kernel_rfl)) ?_
  have hcz69_0 : w68.cell? ⟨gb237, 0, none⟩ = some (.int .i64 a1) := bc BK237 0
  have hcz69_1 : w68.cell? ⟨gb237, 1, none⟩ = some (.int .i64 a2) := bc BK237 1
  have hcz69_2 : w68.cell? ⟨gb237, 2, none⟩ = some (.slice none 0 0) := bc BK237 2
  have hfz69_0 := blk_frozen BK237.out 0
  have hfz69_1 := blk_frozen BK237.out 1
  have hfz69_2 := blk_frozen BK237.out 2
  have hnb70 := NB236_235.out
  have hnc70 := NB235_236.out
  have hcz71_0 : w68.cell? ⟨gb236, 0, none⟩ = some (.int .i64 0) := bc BK236 0
  have hcz71_1 : w68.cell? ⟨gb236, 1, none⟩ = some (.int .i64 0) := bc BK236 1
  have hcz71_2 : w68.cell? ⟨gb236, 2, none⟩ = some (.slice none 0 0) := bc BK236 2
  have hfz71_0 := blk_frozen BK236.out 0
  have hfz71_1 := blk_frozen BK236.out 1
  have hfz71_2 := blk_frozen BK236.out 2
  try go_wp2
  refine bodyPost_ret (results_cell_row rfl _ _ gb236 40 #[.int .i64 a1, .int .i64 a2, .slice none 0 0] (0, 0) _ rfl (by refine bk_ ?_; refine blk_put (cs := #[.int .i64 a1, .int .i64 a2, .slice none 0 0]) ?_ 2 _ rfl; refine bk_ ?_; refine blk_put (cs := #[.int .i64 a1, .int .i64 0, .slice none 0 0]) ?_ 1 _ rfl; refine bk_ ?_; refine blk_put (cs := #[.int .i64 0, .int .i64 0, .slice none 0 0]) ?_ 0 _ rfl; refine bk_ ?_; exact BK236.out) Try.underlying40 rfl (by kernel_rfl)) rfl ?_
  exact ⟨_, by first | rfl | (simp [errW_none, errW_some] <;> rfl) | (simp [*, errW_none, errW_some] <;> rfl), by first | exact Kd.R_nil _ _ _ _ _ | exact Kd.N_nil _ _ _ _ _ | exact Kd.V_nil _ _ _ _ _ | exact Kd.Q_nil _ _ _ _ _ | exact Kd.S_nil _ _ _ _ _, bt HB⟩

end Go.Proofs.Ytpmdcplmnipdeaa.PFnExactLogBehind
