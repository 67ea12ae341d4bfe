/- What the functions that FnExactReadJournal reaches compute, and that the machine's calls compute it. Begun as a text of the kit's print. No condition. -/
import Derived.Test.YtghhepailkkneaaTiny
import Derived.Test.YtghhepailkkneaaQFnExactReadJournalx0
import Derived.Test.YtghhepailkkneaaQFnExactReadJournalx9
import Derived.Test.YtghhepailkkneaaQFnExactReadJournalx11
import Derived.Test.YtghhepailkkneaaQFnExactReadJournalx12
namespace Go.Proofs.Ytghhepailkkneaa.PFnExactReadJournal
open Go.RowKit Go.Proofs.YtghhepailkkneaaW.PrintWords Go.Proofs.YtghhepailkkneaaW.PrintLast Go.Proofs.YtghhepailkkneaaW.PrintMore Go.Proofs.YtghhepailkkneaaW.Short
attribute [local go_sem] max2_int min2_int max_two min_two max_three min_three max_four min_four
set_option linter.unusedVariables false
set_option linter.unusedSimpArgs false
def impl_LogPut.j0 : Nat → Int → Bool → Int → Int → List (S89) → Int → Int → ByteArray → Option (Int × Int × (List (S89)) × Bool)
  | 0, _, _, _, _, _, _, _, _ => none
  | k + 1, x1, x22, x361000, x361001, x361002, x362000, x362001, x362002 => if x22 = true then (some (0, 0, ([] : List (S89)), false)) else ((impl_cloneLog.f x361000 x361001 x361002).bind fun bt366 => (if 0 ≤ (wrap64 ((wrap64 (x1 - x361000)) - 1)) then (if (wrap64 ((wrap64 (x1 - x361000)) - 1)) ≤ (bt366.2.2.length : Int) then ((some (bt366.2.2.take ((wrap64 ((wrap64 (x1 - x361000)) - 1)) : Int).toNat : List (S89))).bind fun y372 => (if y372.length < 4398046511104 then ((some (y372 ++ [(⟨x362000, x362001, x362002⟩ : S89)] : List (S89))).bind fun y375 => ((impl_LogOk.f k bt366.1 bt366.2.1 y375).bind fun t378 => (if t378 = true then (some (bt366.1, bt366.2.1, y375, true)) else (some (0, 0, ([] : List (S89)), false))))) else (none))) else (none)) else (none)))
def impl_LogPut.f (k : Nat) (a0_0 : Int) (a0_1 : Int) (l0_2 : List (S89)) (a1 : Int) (a2_0 : Int) (a2_1 : Int) (a2_2 : ByteArray) : Option (Int × Int × (List (S89)) × Bool) := (impl_LogOk.f k a0_0 a0_1 l0_2).bind fun t363 => (if t363 = true then ((impl_lastOf.f a0_0 a0_1 l0_2).bind fun t364 => ((impl_in.f a1 (wrap64 (a0_0 + 1)) (wrap64 (t364 + 1))).bind fun t365 => (impl_LogPut.j0 k a1 (!t365) a0_0 a0_1 l0_2 a2_0 a2_1 a2_2))) else (impl_LogPut.j0 k a1 true a0_0 a0_1 l0_2 a2_0 a2_1 a2_2))
def impl_LogPut.T1 : Bool × List (List Nat × List Nat) := (true, [([], []), ([0], [0]), ([1], [1]), ([2, 1], [2]), ([3], [3]), ([3], [3]), ([5, 3], [3, 5]), ([6, 3], [3, 6]), ([3], [3]), ([8, 3, 3], [3, 8]), ([9, 3], [3, 9]), ([4, 7, 10, 9, 3], [3, 4, 7, 10]), ([11, 3], [3, 11]), ([3, 12], [3, 12])])
def impl_LogPut.B1 : List Nat := [0, 1, 3, 7, 15, 15, 47, 111, 15, 271, 783, 2047, 4095, 8191]
theorem impl_LogPut.tab1 : rtab .any (opsOf Try.f64 1) = impl_LogPut.T1 := by kernel_rfl
theorem impl_LogPut.bits1 : waitsOk impl_LogPut.T1.2 impl_LogPut.B1 = true := by kernel_rfl
def impl_LogPut.T4 : Bool × List (List Nat × List Nat) := (true, [([], []), ([0], [0]), ([], []), ([], []), ([3], [3]), ([2, 4], [2, 4]), ([5], [5]), ([1, 6], [1, 6]), ([], []), ([8], [8]), ([7, 9], [7, 9]), ([0, 1, 2, 3, 4, 5, 6, 7, 8, 9, 10], []), ([11, 10, 10, 0, 1, 2, 3, 4, 5, 6, 7, 8, 9, 10], [10, 11])])
def impl_LogPut.B4 : List Nat := [0, 1, 0, 0, 8, 28, 60, 127, 0, 256, 1023, 2047, 4095]
theorem impl_LogPut.tab4 : rtab .any (opsOf Try.f64 4) = impl_LogPut.T4 := by kernel_rfl
theorem impl_LogPut.bits4 : waitsOk impl_LogPut.T4.2 impl_LogPut.B4 = true := by kernel_rfl
set_option maxHeartbeats 8000000 in
set_option maxRecDepth 100000 in
theorem impl_LogPut.calls (k : Nat) (a0_0 : Int) (a0_1 : Int) (A0_2 : Option Addr) (c0_2 : Nat) (l0_2 : List (S89)) (a1 : Int) (a2_0 : Int) (a2_1 : Int) (a2_2 : ByteArray) (r1 : Int) (r2 : Int) (r3 : List (S89)) (r4 : Bool) (w : World) (hr0_2 : Kd.C k89 w A0_2 l0_2.length l0_2) (hc0_2 : l0_2.length ≤ c0_2) (h : impl_LogPut.f k a0_0 a0_1 l0_2 a1 a2_0 a2_1 a2_2 = some (r1, r2, r3, r4)) :
  Calls Try.prog 64 #[.agg #[.int .i64 a0_0, .int .i64 a0_1, .slice A0_2 l0_2.length c0_2], .int .i64 a1, .agg #[.int .i64 a2_0, .int .i64 a2_1, .string a2_2]] w fun e w' => ∃ v2_ : Value, e = .returned (.tuple #[.agg #[.int .i64 r1, .int .i64 r2, v2_], .bool r4]) ∧ Kd.R k89 89 w' w.heap.size (fun _ => True) v2_ r3 ∧ Below w.heap.size w w' := by
 have hu40 := Try.underlying40
 have hu89 := Try.underlying89
 have HR0_2 := Aside0.mk hr0_2
 have HC0_2 := Aside0.mk hc0_2
 clear hr0_2 hc0_2
 have HB := Aside0.mk (Below.refl w.heap.size w)
 have H := h
 clear h
 unfold impl_LogPut.f at H
 have HC4 := Aside0.mk H
 clear H
 go_enter Try.func64, Try.ntmps64
 go_upto_region 1 with (first | (refine bx 3 40 #[.int .i64 a0_0, .int .i64 a0_1, .slice A0_2 l0_2.length c0_2] ?_; intro gb360 hg w5 hbox hb; have n0_ := Aside0.mk (below_step (bt HB) hb); have n1_ := Aside0.mk (hbox); have n2_ := ge_ hg HB; have n3_ := ge_ hg HB; clear HB; revert n0_ n1_ n2_ n3_; intro HB BK360 GW360 GE360; clear hb hbox hg) | (refine bx 5 89 #[.int .i64 a2_0, .int .i64 a2_1, .string a2_2] ?_; intro gb361 hg w6 hbox hb; have n0_ := bb BK360 hb; have n1_ := Aside0.mk (below_step (bt HB) hb); have n2_ := Aside0.mk (hbox); have n3_ := ge_ hg HB; have n4_ := ge_ hg HB; have n5_ := nl_ hg BK360; have n6_ := nr_ hg BK360; clear BK360 HB; revert n0_ n1_ n2_ n3_ n4_ n5_ n6_; intro BK360 HB BK361 GW361 GE361 NB360_361 NB361_360; clear hb hbox hg) | (refine bx 6 40 #[.int .i64 0, .int .i64 0, .slice none 0 0] ?_; intro gb362 hg w7 hbox hb; have n0_ := bb BK360 hb; have n1_ := bb BK361 hb; have n2_ := Aside0.mk (below_step (bt HB) hb); have n3_ := Aside0.mk (hbox); have n4_ := ge_ hg HB; have n5_ := ge_ hg HB; have n6_ := nl_ hg BK360; have n7_ := nr_ hg BK360; have n8_ := nl_ hg BK361; have n9_ := nr_ hg BK361; clear BK360 BK361 HB; revert n0_ n1_ n2_ n3_ n4_ n5_ n6_ n7_ n8_ n9_; intro BK360 BK361 HB BK362 GW362 GE362 NB360_362 NB362_360 NB361_362 NB362_361; clear hb hbox hg))
 (try simp only [Act.put, zA, zB, zC])
 go_cut [22] (fun v22 wc => ∃ (kq : Nat) (x22_3 : Bool), v22 = .bool x22_3 ∧ Aside0 (impl_LogPut.j0 kq a1 x22_3 a0_0 a0_1 l0_2 a2_0 a2_1 a2_2 = some (r1, r2, r3, r4)) ∧ Aside0 (kq ≤ k) ∧ Aside0 (wc.heap[gb360]? = some (.cells #[.int .i64 a0_0, .int .i64 a0_1, (.slice A0_2 l0_2.length c0_2)] 40 (0, 0))) ∧ Aside0 (wc.heap[gb361]? = some (.cells #[.int .i64 a2_0, .int .i64 a2_1, .string a2_2] 89 (0, 0))) ∧ Aside0 (wc.heap[gb362]? = some (.cells #[.int .i64 0, .int .i64 0, (.slice none 0 0)] 40 (0, 0))) ∧ Aside0 (Below w.heap.size w wc))
 case first =>
  have H := HC4.out
  clear HC4
  replace H := Option.bind_eq_some_iff.mp H
  obtain ⟨t363, A80, H⟩ := H
  try dsimp only at H
  have A8 := Aside0.mk A80
  clear A80
  by_cases c9 : t363 = true
  ·subst c9
   rw [if_pos rfl] at H
   replace H := Option.bind_eq_some_iff.mp H
   obtain ⟨t364, A100, H⟩ := H
   try dsimp only at H
   have A10 := Aside0.mk A100
   clear A100
   replace H := Option.bind_eq_some_iff.mp H
   obtain ⟨t365, A110, H⟩ := H
   try dsimp only at H
   have A11 := Aside0.mk A110
   clear A110
   have H' := Aside0.mk H
   clear H
   try go_wp2
   have n0_ := Aside0.mk (blk_drew BK360.out)
   have n1_ := Aside0.mk (blk_drew BK361.out)
   have n2_ := Aside0.mk (blk_drew BK362.out)
   have n3_ := Aside0.mk (below_drew1 HB.out)
   clear BK360 BK361 BK362 HB
   revert n0_ n1_ n2_ n3_
   intro BK360 BK361 BK362 HB
   refine start_ (n := 14) (S := fun w' => w'.cell? ⟨gb360, 0, none⟩ = some (.int .i64 a0_0) ∧ w'.cell? ⟨gb360, 1, none⟩ = some (.int .i64 a0_1) ∧ w'.cell? ⟨gb360, 2, none⟩ = some (.slice A0_2 l0_2.length c0_2)) (ds := []) #[false, false, false, false, false, false, false, false, false, false, false, false, false, false] (by kernel_rfl) rfl rfl ⟨bc BK360 0, bc BK360 1, bc BK360 2⟩ (fun hHeld => ?_); refine with_tabW impl_LogPut.tab1 impl_LogPut.bits1 (fun HT_ HW_ => ?_)
   generalize w7.drew = w12 at BK360 BK361 BK362 HB hHeld ⊢
   refine take_ (i := 0) (N := some 9) (v := ?_) (a' := ?_) #[true, false, false, false, false, false, false, false, false, false, false, false, false, false] rfl rfl (take_ofW HT_.out HW_.out (by kernel_rfl)) (fun _ _ _ h => h) (Or.inl ⟨by rfl, ?_⟩) hHeld ?_ ?_
   rotate_left
   ·rintro w' ⟨s0, s1, s2⟩
    go_simp
    with_reducible rfl
   rotate_left
   ·simp only [Act.put, zA, zB, zC, i64_w, i32_w]
    rfl
   refine one_ (i := 1) (N := some 10) #[true, true, false, false, false, false, false, false, false, false, false, false, false, false] rfl rfl (one_of HT_.out (by kernel_rfl)) (by decide) (fun K hK => ?_)
   refine goes_ Try.func38 (by kernel_rfl) rfl #[.agg #[.int .i64 a0_0, .int .i64 a0_1, .slice A0_2 l0_2.length c0_2]] (by rfl) rfl rfl (by (try simp only [List.map_toArray, List.map_cons, List.map_nil]); first | done | rfl | (simp only [List.length_drop, List.length_take]; rfl)) ?_
   with_reducible refine (impl_LogOk.calls k a0_0 a0_1 _ _ l0_2 true _ ?side1 ?side2 A8.out).mono ?_
   (case side1 => repeat (first | exact (Kd.C_below HR0_2.out HB.out) | (with_reducible refine Kd.C_alloc ?_ _) | (with_reducible refine Kd.C_drewN ?_ _) | (with_reducible refine Kd.C_drew ?_)))
   (case side2 => exact HC0_2.out)
   rintro e w13 ⟨rfl, hb⟩
   refine ⟨_, rfl, ?_⟩
   have n0_ := bb BK360 hb
   have n1_ := bb BK361 hb
   have n2_ := bb BK362 hb
   have n3_ := Aside0.mk (below_step (bt HB) hb)
   clear BK360 BK361 BK362 HB
   revert n0_ n1_ n2_ n3_
   intro BK360 BK361 BK362 HB
   (try clear hb)
   (try clear hb2)
   (try clear hk)
   (try clear hi)
   refine hK.out _ _ ⟨bc BK360 0, bc BK360 1, bc BK360 2⟩ (fun hHeld => ?_)
   clear hK K
   refine norm_ (a' := ?_) ?_ ?_
   rotate_left
   ·show Act.put _ (some 10) _ = _
    simp only [Act.put, zA, zB, zC, i64_w, i32_w]
    rfl
   refine pu HT_ 2 (some 11) ?_
   refine pu HT_ 3 (some 12) ?_
   refine pu HT_ 4 (some 13) ?_
   refine pu HT_ 5 (some 14) ?_
   refine take_ (i := 6) (N := some 15) (v := ?_) (a' := ?_) #[true, true, true, true, true, true, true, false, false, false, false, false, false, false] rfl rfl (take_ofW HT_.out HW_.out (by kernel_rfl)) (fun _ _ _ h => h) (Or.inl ⟨by rfl, ?_⟩) hHeld ?_ ?_
   rotate_left
   ·rintro w' ⟨s0, s1, s2⟩
    go_simp
    with_reducible rfl
   rotate_left
   ·simp only [Act.put, zA, zB, zC, i64_w, i32_w]
    rfl
   refine pu HT_ 7 (some 16) ?_
   refine take_ (i := 8) (N := some 17) (v := ?_) (a' := ?_) #[true, true, true, true, true, true, true, true, true, false, false, false, false, false] rfl rfl (take_ofW HT_.out HW_.out (by kernel_rfl)) (fun _ _ _ h => h) (Or.inl ⟨by rfl, ?_⟩) hHeld ?_ ?_
   rotate_left
   ·rintro w' ⟨s0, s1, s2⟩
    go_simp
    with_reducible rfl
   rotate_left
   ·simp only [Act.put, zA, zB, zC, i64_w, i32_w]
    rfl
   refine one_ (i := 9) (N := some 18) #[true, true, true, true, true, true, true, true, true, true, false, false, false, false] rfl rfl (one_of HT_.out (by kernel_rfl)) (by decide) (fun K hK => ?_)
   refine goes_ Try.func77 (by kernel_rfl) rfl #[.agg #[.int .i64 a0_0, .int .i64 a0_1, .slice A0_2 l0_2.length c0_2]] (by rfl) rfl rfl (by (try simp only [List.map_toArray, List.map_cons, List.map_nil]); first | done | rfl | (simp only [List.length_drop, List.length_take]; rfl)) ?_
   with_reducible refine (impl_lastOf.calls a0_0 a0_1 _ _ l0_2 t364 _ ?side1 ?side2 A10.out).mono ?_
   (case side1 => repeat (first | exact (Kd.C_below HR0_2.out HB.out) | (with_reducible refine Kd.C_alloc ?_ _) | (with_reducible refine Kd.C_drewN ?_ _) | (with_reducible refine Kd.C_drew ?_)))
   (case side2 => exact HC0_2.out)
   rintro e w14 ⟨rfl, hb⟩
   refine ⟨_, rfl, ?_⟩
   have n0_ := bb BK360 hb
   have n1_ := bb BK361 hb
   have n2_ := bb BK362 hb
   have n3_ := Aside0.mk (below_step (bt HB) hb)
   clear BK360 BK361 BK362 HB
   revert n0_ n1_ n2_ n3_
   intro BK360 BK361 BK362 HB
   (try clear hb)
   (try clear hb2)
   (try clear hk)
   (try clear hi)
   refine hK.out _ _ ⟨bc BK360 0, bc BK360 1, bc BK360 2⟩ (fun hHeld => ?_)
   clear hK K
   refine norm_ (a' := ?_) ?_ ?_
   rotate_left
   ·show Act.put _ (some 18) _ = _
    simp only [Act.put, zA, zB, zC, i64_w, i32_w]
    rfl
   refine pu HT_ 10 (some 19) ?_
   refine one_ (i := 11) (N := some 20) #[true, true, true, true, true, true, true, true, true, true, true, true, false, false] rfl rfl (one_of HT_.out (by kernel_rfl)) (by decide) (fun K hK => ?_)
   refine goes_ Try.func35 (by kernel_rfl) rfl #[.int .i64 a1, .int .i64 (wrap64 (a0_0 + 1)), .int .i64 (wrap64 (t364 + 1))] (by rfl) rfl rfl (by (try simp only [List.map_toArray, List.map_cons, List.map_nil]); first | done | rfl | (simp only [List.length_drop, List.length_take]; rfl)) ?_
   with_reducible refine (impl_in.calls a1 (wrap64 (a0_0 + 1)) (wrap64 (t364 + 1)) t365 _ A11.out).mono ?_
   rintro e w' ⟨rfl, ⟨nd, rfl⟩⟩
   refine ⟨_, rfl, ?_⟩
   refine hK.out _ _ ⟨bc BK360 0, bc BK360 1, bc BK360 2⟩ (fun hHeld => ?_)
   clear hK K
   refine norm_ (a' := ?_) ?_ ?_
   rotate_left
   ·show Act.put _ (some 20) _ = _
    simp only [Act.put, zA, zB, zC, i64_w, i32_w]
    rfl
   refine pu HT_ 12 (some 21) ?_
   refine pu HT_ 13 (some 22) ?_
   refine done_ (done_of HT_.out (by kernel_rfl)) ?_
   try go_wp2
   go_meet
   case rel => exact ⟨_, (!t365), fr, H', ⟨by first | omega | exact Nat.le_refl _⟩, ⟨by refine bk_ ?_; exact BK360.out⟩, ⟨by refine bk_ ?_; exact BK361.out⟩, ⟨by refine bk_ ?_; exact BK362.out⟩, ⟨bt HB⟩⟩
  ·replace c9 := Bool.eq_false_iff.mpr c9
   subst c9
   rw [if_neg nf] at H
   have H' := Aside0.mk H
   clear H
   try go_wp2
   have n0_ := Aside0.mk (blk_drew BK360.out)
   have n1_ := Aside0.mk (blk_drew BK361.out)
   have n2_ := Aside0.mk (blk_drew BK362.out)
   have n3_ := Aside0.mk (below_drew1 HB.out)
   clear BK360 BK361 BK362 HB
   revert n0_ n1_ n2_ n3_
   intro BK360 BK361 BK362 HB
   refine start_ (n := 14) (S := fun w' => w'.cell? ⟨gb360, 0, none⟩ = some (.int .i64 a0_0) ∧ w'.cell? ⟨gb360, 1, none⟩ = some (.int .i64 a0_1) ∧ w'.cell? ⟨gb360, 2, none⟩ = some (.slice A0_2 l0_2.length c0_2)) (ds := []) #[false, false, false, false, false, false, false, false, false, false, false, false, false, false] (by kernel_rfl) rfl rfl ⟨bc BK360 0, bc BK360 1, bc BK360 2⟩ (fun hHeld => ?_); refine with_tabW impl_LogPut.tab1 impl_LogPut.bits1 (fun HT_ HW_ => ?_)
   generalize w7.drew = w15 at BK360 BK361 BK362 HB hHeld ⊢
   refine take_ (i := 0) (N := some 9) (v := ?_) (a' := ?_) #[true, false, false, false, false, false, false, false, false, false, false, false, false, false] rfl rfl (take_ofW HT_.out HW_.out (by kernel_rfl)) (fun _ _ _ h => h) (Or.inl ⟨by rfl, ?_⟩) hHeld ?_ ?_
   rotate_left
   ·rintro w' ⟨s0, s1, s2⟩
    go_simp
    with_reducible rfl
   rotate_left
   ·simp only [Act.put, zA, zB, zC, i64_w, i32_w]
    rfl
   refine one_ (i := 1) (N := some 10) #[true, true, false, false, false, false, false, false, false, false, false, false, false, false] rfl rfl (one_of HT_.out (by kernel_rfl)) (by decide) (fun K hK => ?_)
   refine goes_ Try.func38 (by kernel_rfl) rfl #[.agg #[.int .i64 a0_0, .int .i64 a0_1, .slice A0_2 l0_2.length c0_2]] (by rfl) rfl rfl (by (try simp only [List.map_toArray, List.map_cons, List.map_nil]); first | done | rfl | (simp only [List.length_drop, List.length_take]; rfl)) ?_
   with_reducible refine (impl_LogOk.calls k a0_0 a0_1 _ _ l0_2 false _ ?side1 ?side2 A8.out).mono ?_
   (case side1 => repeat (first | exact (Kd.C_below HR0_2.out HB.out) | (with_reducible refine Kd.C_alloc ?_ _) | (with_reducible refine Kd.C_drewN ?_ _) | (with_reducible refine Kd.C_drew ?_)))
   (case side2 => exact HC0_2.out)
   rintro e w16 ⟨rfl, hb⟩
   refine ⟨_, rfl, ?_⟩
   have n0_ := bb BK360 hb
   have n1_ := bb BK361 hb
   have n2_ := bb BK362 hb
   have n3_ := Aside0.mk (below_step (bt HB) hb)
   clear BK360 BK361 BK362 HB
   revert n0_ n1_ n2_ n3_
   intro BK360 BK361 BK362 HB
   (try clear hb)
   (try clear hb2)
   (try clear hk)
   (try clear hi)
   refine hK.out _ _ ⟨bc BK360 0, bc BK360 1, bc BK360 2⟩ (fun hHeld => ?_)
   clear hK K
   refine norm_ (a' := ?_) ?_ ?_
   rotate_left
   ·show Act.put _ (some 10) _ = _
    simp only [Act.put, zA, zB, zC, i64_w, i32_w]
    rfl
   refine pu HT_ 2 (some 11) ?_
   refine pu HT_ 3 (some 12) ?_
   refine pure_ (i := 4) (N := some 13) (v := undef) (a' := ?_) #[true, true, true, true, true, false, false, false, false, false, false, false, false, false] rfl rfl (any_of HT_.out (by kernel_rfl)) (fun _ _ _ h => h) (Or.inr ⟨by rfl, rfl⟩) ?_ ?_
   rotate_left
   ·simp only [Act.put, zA, zB, zC, i64_w, i32_w]
    rfl
   refine pure_ (i := 5) (N := some 14) (v := undef) (a' := ?_) #[true, true, true, true, true, true, false, false, false, false, false, false, false, false] rfl rfl (any_of HT_.out (by kernel_rfl)) (fun _ _ _ h => h) (Or.inr ⟨by rfl, rfl⟩) ?_ ?_
   rotate_left
   ·simp only [Act.put, zA, zB, zC, i64_w, i32_w]
    rfl
   refine pure_ (i := 6) (N := some 15) (v := undef) (a' := ?_) #[true, true, true, true, true, true, true, false, false, false, false, false, false, false] rfl rfl (any_of HT_.out (by kernel_rfl)) (fun _ _ _ h => h) (Or.inr ⟨by rfl, rfl⟩) ?_ ?_
   rotate_left
   ·simp only [Act.put, zA, zB, zC, i64_w, i32_w]
    rfl
   refine pure_ (i := 7) (N := some 16) (v := undef) (a' := ?_) #[true, true, true, true, true, true, true, true, false, false, false, false, false, false] rfl rfl (any_of HT_.out (by kernel_rfl)) (fun _ _ _ h => h) (Or.inr ⟨by rfl, rfl⟩) ?_ ?_
   rotate_left
   ·simp only [Act.put, zA, zB, zC, i64_w, i32_w]
    rfl
   refine pure_ (i := 8) (N := some 17) (v := undef) (a' := ?_) #[true, true, true, true, true, true, true, true, true, false, false, false, false, false] rfl rfl (any_of HT_.out (by kernel_rfl)) (fun _ _ _ h => h) (Or.inr ⟨by rfl, rfl⟩) ?_ ?_
   rotate_left
   ·simp only [Act.put, zA, zB, zC, i64_w, i32_w]
    rfl
   refine pure_ (i := 9) (N := some 18) (v := undef) (a' := ?_) #[true, true, true, true, true, true, true, true, true, true, false, false, false, false] rfl rfl (any_of HT_.out (by kernel_rfl)) (fun _ _ _ h => h) (Or.inr ⟨by rfl, rfl⟩) ?_ ?_
   rotate_left
   ·simp only [Act.put, zA, zB, zC, i64_w, i32_w]
    rfl
   refine pure_ (i := 10) (N := some 19) (v := undef) (a' := ?_) #[true, true, true, true, true, true, true, true, true, true, true, false, false, false] rfl rfl (any_of HT_.out (by kernel_rfl)) (fun _ _ _ h => h) (Or.inr ⟨by rfl, rfl⟩) ?_ ?_
   rotate_left
   ·simp only [Act.put, zA, zB, zC, i64_w, i32_w]
    rfl
   refine pure_ (i := 11) (N := some 20) (v := undef) (a' := ?_) #[true, true, true, true, true, true, true, true, true, true, true, true, false, false] rfl rfl (any_of HT_.out (by kernel_rfl)) (fun _ _ _ h => h) (Or.inr ⟨by rfl, rfl⟩) ?_ ?_
   rotate_left
   ·simp only [Act.put, zA, zB, zC, i64_w, i32_w]
    rfl
   refine pure_ (i := 12) (N := some 21) (v := undef) (a' := ?_) #[true, true, true, true, true, true, true, true, true, true, true, true, true, false] rfl rfl (any_of HT_.out (by kernel_rfl)) (fun _ _ _ h => h) (Or.inr ⟨by rfl, rfl⟩) ?_ ?_
   rotate_left
   ·simp only [Act.put, zA, zB, zC, i64_w, i32_w]
    rfl
   refine pu HT_ 13 (some 22) ?_
   refine done_ (done_of HT_.out (by kernel_rfl)) ?_
   try go_wp2
   go_meet
   case rel => exact ⟨_, (true), fr, H', ⟨by first | omega | exact Nat.le_refl _⟩, ⟨by refine bk_ ?_; exact BK360.out⟩, ⟨by refine bk_ ?_; exact BK361.out⟩, ⟨by refine bk_ ?_; exact BK362.out⟩, ⟨bt HB⟩⟩
 case rest =>
  clear HC4
  try clear p2
  try clear c3
  try clear c6
  try clear p6
  try clear c7
  try clear c9
  obtain ⟨kq, x22_3, rfl, HA, HJ3, BK360, BK361, BK362, HB⟩ := hcut
  cases kq with
  | zero => exact absurd HA.out (by simp [impl_LogPut.j0])
  | succ kj3 =>
   have H := HA.out
   clear HA
   simp only [impl_LogPut.j0] at H
   by_cases c17 : x22_3 = true
   ·subst c17
    rw [if_pos rfl] at H
    simp only [Option.some.injEq, Prod.mk.injEq] at H
    obtain ⟨rfl, rfl, rfl, rfl⟩ := H
    have hnb18 := NB362_360.out
    have hnc18 := NB360_362.out
    have hnb19 := NB362_361.out
    have hnc19 := NB361_362.out
    obtain ⟨hcz20_0, hcz20_1, hcz20_2, hfz20_0, hfz20_1, hfz20_2⟩ := bc3 BK362
    go_wp2
    refine bodyPost_ret (results_ct rfl _ _ gb362 40 #[.int .i64 0, .int .i64 0, .slice none 0 0] (0, 0) _ rfl (by (with_reducible repeat (first | refine blk_drewN ?_ _ | refine blk_drew ?_ | refine blk_alloc ?_ _)); refine blk_put (cs := #[.int .i64 0, .int .i64 0, .slice none 0 0]) ?_ 2 _ rfl; (with_reducible repeat (first | refine blk_drewN ?_ _ | refine blk_drew ?_ | refine blk_alloc ?_ _)); refine blk_put (cs := #[.int .i64 0, .int .i64 0, .slice none 0 0]) ?_ 1 _ rfl; (with_reducible repeat (first | refine blk_drewN ?_ _ | refine blk_drew ?_ | refine blk_alloc ?_ _)); refine blk_put (cs := #[.int .i64 0, .int .i64 0, .slice none 0 0]) ?_ 0 _ rfl; (with_reducible repeat (first | refine blk_drewN ?_ _ | refine blk_drew ?_ | refine blk_alloc ?_ _)); exact BK362.out) Try.underlying40 rfl (by kernel_rfl)) rfl ?_
    exact ⟨_, by first | rfl | (simp [errW_none, errW_some] <;> rfl) | (simp [*, errW_none, errW_some] <;> rfl), by first | exact Kd.R_nil _ _ _ _ _ | exact Kd.N_nil _ _ _ _ _ | exact Kd.V_nil _ _ _ _ _ | exact Kd.Q_nil _ _ _ _ _ | exact Kd.S_nil _ _ _ _ _, bt HB⟩
   ·replace c17 := Bool.eq_false_iff.mpr c17
    subst c17
    rw [if_neg nf] at H
    replace H := Option.bind_eq_some_iff.mp H
    obtain ⟨⟨t366, t367, t368⟩, A210, H⟩ := H
    try dsimp only at H
    have A21 := Aside0.mk A210
    clear A210
    obtain ⟨ji22, hji22⟩ : ∃ j_ : Int, (wrap64 ((wrap64 (a1 - a0_0)) - 1)) = j_ := ⟨_, rfl⟩
    first | rw [hji22] at H | simp only [hji22] at H
    (try rw [hji22] at A21)
    have hji22w : (IntKind.i64.wrap ((wrap64 (a1 - a0_0)) - 1)) = ji22 := (i64_w _).trans hji22
    by_cases c23 : 0 ≤ (ji22)
    ·rw [if_pos c23] at H
     have c23b0 := eq_true c23
     have c23b1 : decide (0 ≤ (ji22)) = true := decide_eq_true c23
     clear c23
     by_cases c24 : (ji22) ≤ (t368.length : Int)
     ·rw [if_pos c24] at H
      have c24b0 := eq_true c24
      have c24b1 : decide ((ji22) ≤ (t368.length : Int)) = true := decide_eq_true c24
      clear c24
      obtain ⟨y372, hy372⟩ : ∃ y_ : List (S89), y_ = (t368.take ((ji22) : Int).toNat) := ⟨_, rfl⟩
      first | replace H := bs hy372 H | rw [← hy372] at H
      have Ny372 := Aside0.mk hy372
      clear hy372
      by_cases c25 : y372.length < 4398046511104
      ·rw [if_pos c25] at H
       have LMc25 := Aside0.mk c25
       clear c25
       obtain ⟨y375, hy375⟩ : ∃ y_ : List (S89), y_ = (y372 ++ [(⟨a2_0, a2_1, a2_2⟩ : S89)]) := ⟨_, rfl⟩
       first | replace H := bs hy375 H | rw [← hy375] at H
       have Ny375 := Aside0.mk hy375
       clear hy375
       replace H := Option.bind_eq_some_iff.mp H
       obtain ⟨t378, A260, H⟩ := H
       try dsimp only at H
       have A26 := Aside0.mk A260
       clear A260
       by_cases c27 : t378 = true
       ·subst c27
        rw [if_pos rfl] at H
        simp only [Option.some.injEq, Prod.mk.injEq] at H
        obtain ⟨rfl, rfl, rfl, rfl⟩ := H
        have hnb28 := NB360_361.out
        have hnc28 := NB361_360.out
        have hnb29 := NB360_362.out
        have hnc29 := NB362_360.out
        obtain ⟨hcz30_0, hcz30_1, hcz30_2, hfz30_0, hfz30_1, hfz30_2⟩ := bc3 BK360
        try go_wp2_with (first | ((with_reducible refine gd 25 rfl ?_); refine gl 78 25 Try.func78 #[.agg #[.int .i64 a0_0, .int .i64 a0_1, .slice A0_2 l0_2.length c0_2]] ?_; (with_reducible refine (impl_cloneLog.calls a0_0 a0_1 _ _ l0_2 t366 t367 t368 _ ?side1 ?side2 A21.out).mono ?_); (case side1 => repeat (first | exact (Kd.C_below HR0_2.out HB.out) | (with_reducible refine Kd.C_alloc ?_ _) | (with_reducible refine Kd.C_drewN ?_ _) | (with_reducible refine Kd.C_drew ?_))); (case side2 => exact HC0_2.out); rintro e w31 ⟨v369, rfl, ho0, hb⟩; refine ⟨_, rfl, ?_⟩; have n0_ := Aside0.mk (Kd.R_lower (Kd.R_newB ho0 (g := gb361) (o := .cells #[.int .i64 a2_0, .int .i64 a2_1, .string a2_2] 89 (0, 0)) (bk BK361)) (below_size (bt HB))); have n1_ := bb BK360 hb; have n2_ := bb BK361 hb; have n3_ := bb BK362 hb; have n4_ := Aside0.mk (below_step (bt HB) hb); clear BK360 BK361 BK362 HB; revert n0_ n1_ n2_ n3_ n4_; intro HO370 BK360 BK361 BK362 HB; (try clear hb); (try clear hb2); (try clear hk); (try clear hi); (try clear ho0)) | (refine bx 8 40 #[.int .i64 0, .int .i64 0, .slice none 0 0] ?_; intro gb371 hg w32 hbox hb; have n0_ := rb HO370 hb; have n1_ := bb BK360 hb; have n2_ := bb BK361 hb; have n3_ := bb BK362 hb; have n4_ := Aside0.mk (below_step (bt HB) hb); have n5_ := Aside0.mk (hbox); have n6_ := ge_ hg HB; have n7_ := ge_ hg HB; have n8_ := nl_ hg BK360; have n9_ := nr_ hg BK360; have n10_ := nl_ hg BK361; have n11_ := nr_ hg BK361; have n12_ := nl_ hg BK362; have n13_ := nr_ hg BK362; clear HO370 BK360 BK361 BK362 HB; revert n0_ n1_ n2_ n3_ n4_ n5_ n6_ n7_ n8_ n9_ n10_ n11_ n12_ n13_; intro HO370 BK360 BK361 BK362 HB BK371 GW371 GE371 NB360_371 NB371_360 NB361_371 NB371_361 NB362_371 NB371_362; clear hb hbox hg; have hnb33 := NB371_360.out; have hnc33 := NB360_371.out; have hnb34 := NB371_361.out; have hnc34 := NB361_371.out; have hnb35 := NB371_362.out; have hnc35 := NB362_371.out; obtain ⟨hcz36_0, hcz36_1, hcz36_2, hfz36_0, hfz36_1, hfz36_2⟩ := bc3 BK371; obtain ⟨Ao37, co37, eo37⟩ := Kd.R_slice HO370.out; subst eo37))
        have n0_ : Aside0 (Kd.R k89 89 (((w32.setCell ⟨gb371, 0, none⟩ (.int .i64 t366)).setCell ⟨gb371, 1, none⟩ (.int .i64 t367)).setCell ⟨gb371, 2, none⟩ (.slice Ao37 t368.length co37)) w.heap.size (fun k_ => k_ ≠ gb361) (.slice Ao37 t368.length co37) t368) := ⟨by (with_reducible repeat (first | apply Kd.R_alloc | apply Kd.R_drewN | apply Kd.R_drew)); exact Kd.R_mono (Kd.R_far (p := ⟨gb371, 2, none⟩) (Kd.R_far (p := ⟨gb371, 1, none⟩) (Kd.R_far (p := ⟨gb371, 0, none⟩) (Kd.R_types HO370.out BK371.out (by decide)) (fun _ hk => hk.2) (.int .i64 t366)) (fun _ hk => hk.2) (.int .i64 t367)) (fun _ hk => hk.2) (.slice Ao37 t368.length co37)) (fun _ hk => hk.1.2)⟩
        have n1_ : Aside0 ((((w32.setCell ⟨gb371, 0, none⟩ (.int .i64 t366)).setCell ⟨gb371, 1, none⟩ (.int .i64 t367)).setCell ⟨gb371, 2, none⟩ (.slice Ao37 t368.length co37)).heap[gb360]? = some (.cells #[.int .i64 a0_0, .int .i64 a0_1, .slice A0_2 l0_2.length c0_2] 40 (0, 0))) := ⟨by refine bk_ ?_; refine blk_far ?_ NB360_371.out _; refine bk_ ?_; refine blk_far ?_ NB360_371.out _; refine bk_ ?_; refine blk_far ?_ NB360_371.out _; refine bk_ ?_; exact BK360.out⟩
        have n2_ : Aside0 ((((w32.setCell ⟨gb371, 0, none⟩ (.int .i64 t366)).setCell ⟨gb371, 1, none⟩ (.int .i64 t367)).setCell ⟨gb371, 2, none⟩ (.slice Ao37 t368.length co37)).heap[gb361]? = some (.cells #[.int .i64 a2_0, .int .i64 a2_1, .string a2_2] 89 (0, 0))) := ⟨by refine bk_ ?_; refine blk_far ?_ NB361_371.out _; refine bk_ ?_; refine blk_far ?_ NB361_371.out _; refine bk_ ?_; refine blk_far ?_ NB361_371.out _; refine bk_ ?_; exact BK361.out⟩
        have n3_ : Aside0 ((((w32.setCell ⟨gb371, 0, none⟩ (.int .i64 t366)).setCell ⟨gb371, 1, none⟩ (.int .i64 t367)).setCell ⟨gb371, 2, none⟩ (.slice Ao37 t368.length co37)).heap[gb362]? = some (.cells #[.int .i64 0, .int .i64 0, .slice none 0 0] 40 (0, 0))) := ⟨by refine bk_ ?_; refine blk_far ?_ NB362_371.out _; refine bk_ ?_; refine blk_far ?_ NB362_371.out _; refine bk_ ?_; refine blk_far ?_ NB362_371.out _; refine bk_ ?_; exact BK362.out⟩
        have n4_ : Aside0 ((((w32.setCell ⟨gb371, 0, none⟩ (.int .i64 t366)).setCell ⟨gb371, 1, none⟩ (.int .i64 t367)).setCell ⟨gb371, 2, none⟩ (.slice Ao37 t368.length co37)).heap[gb371]? = some (.cells #[.int .i64 t366, .int .i64 t367, .slice Ao37 t368.length co37] 40 (0, 0))) := ⟨by refine bk_ ?_; refine blk_put (cs := #[.int .i64 t366, .int .i64 t367, .slice none 0 0]) ?_ 2 _ rfl; refine bk_ ?_; refine blk_put (cs := #[.int .i64 t366, .int .i64 0, .slice none 0 0]) ?_ 1 _ rfl; refine bk_ ?_; refine blk_put (cs := #[.int .i64 0, .int .i64 0, .slice none 0 0]) ?_ 0 _ rfl; refine bk_ ?_; exact BK371.out⟩
        have n5_ : Aside0 (Below w.heap.size w (((w32.setCell ⟨gb371, 0, none⟩ (.int .i64 t366)).setCell ⟨gb371, 1, none⟩ (.int .i64 t367)).setCell ⟨gb371, 2, none⟩ (.slice Ao37 t368.length co37))) := ⟨bt HB⟩
        (try clear HO370)
        (try clear BK360)
        (try clear BK361)
        (try clear BK362)
        (try clear BK371)
        (try clear HB)
        generalize (((w32.setCell ⟨gb371, 0, none⟩ (.int .i64 t366)).setCell ⟨gb371, 1, none⟩ (.int .i64 t367)).setCell ⟨gb371, 2, none⟩ (.slice Ao37 t368.length co37)) = w38 at n0_ n1_ n2_ n3_ n4_ n5_ ⊢
        have HO370 := n0_
        have BK360 := n1_
        have BK361 := n2_
        have BK362 := n3_
        have BK371 := n4_
        have HB := n5_
        clear n0_ n1_ n2_ n3_ n4_ n5_
        have n0_ := Aside0.mk (Kd.R_drew HO370.out)
        have n1_ := Aside0.mk (blk_drew BK360.out)
        have n2_ := Aside0.mk (blk_drew BK361.out)
        have n3_ := Aside0.mk (blk_drew BK362.out)
        have n4_ := Aside0.mk (blk_drew BK371.out)
        have n5_ := Aside0.mk (below_drew1 HB.out)
        clear HO370 BK360 BK361 BK362 BK371 HB
        revert n0_ n1_ n2_ n3_ n4_ n5_
        intro HO370 BK360 BK361 BK362 BK371 HB
        have q40 : ((ji22) : Int) ≤ ((t368.length : Int) : Int) := da
        obtain ⟨i040, hi040, _, hsz40, _⟩ := info_parts info89
        have hcut40 := cut_to (P := Try.prog) 38 89 .i64 Try.underlying38 hi040 Ao37 t368.length co37 (ji22) (da) q40 (Kd.R_reads' HO370.out).2.1
        have hr40 := Kd.R_take (m := ((ji22) : Int).toNat) HO370.out (by omega)
        have hy40 : y372.length = ((ji22) : Int).toNat := (by rw [Ny372.out, List.length_take]; omega)
        rw [← Ny372.out] at hr40
        rw [← hy40] at hr40 hcut40
        clear hy40 hi040 hsz40 HO370
        have HO374 := Aside0.mk hr40
        clear hr40
        replace q40 := eq_true q40
        refine start_ (n := 13) (S := fun w' => w'.cell? ⟨gb371, 0, none⟩ = some (.int .i64 t366) ∧ w'.cell? ⟨gb371, 1, none⟩ = some (.int .i64 t367) ∧ w'.cell? ⟨gb371, 2, none⟩ = some (.slice Ao37 t368.length co37) ∧ w'.cell? ⟨gb360, 0, none⟩ = some (.int .i64 a0_0) ∧ w'.cell? ⟨gb360, 1, none⟩ = some (.int .i64 a0_1) ∧ w'.cell? ⟨gb360, 2, none⟩ = some (.slice A0_2 l0_2.length c0_2) ∧ w'.cell? ⟨gb361, 0, none⟩ = some (.int .i64 a2_0) ∧ w'.cell? ⟨gb361, 1, none⟩ = some (.int .i64 a2_1) ∧ w'.cell? ⟨gb361, 2, none⟩ = some (.string a2_2)) (ds := [12]) #[false, false, false, false, false, false, false, false, false, false, false, false, false] (by kernel_rfl) rfl rfl ⟨bc BK371 0, bc BK371 1, bc BK371 2, bc BK360 0, bc BK360 1, bc BK360 2, bc BK361 0, bc BK361 1, bc BK361 2⟩ (fun hHeld => ?_); refine with_tabW impl_LogPut.tab4 impl_LogPut.bits4 (fun HT_ HW_ => ?_)
        generalize w38.drew = w39 at BK360 BK361 BK362 BK371 HB HO374 hHeld ⊢
        refine pu HT_ 0 (some 26) ?_
        refine pu HT_ 2 (some 28) ?_
        refine pu HT_ 3 (some 29) ?_
        refine take_ (i := 1) (N := some 27) (v := ?_) (a' := ?_) #[true, true, true, true, false, false, false, false, false, false, false, false, false] rfl rfl (take_ofW HT_.out HW_.out (by kernel_rfl)) (fun _ _ _ h => h) (Or.inl ⟨by rfl, ?_⟩) hHeld ?_ ?_
        rotate_left
        ·rintro w' ⟨s0, s1, s2, s3, s4, s5, s6, s7, s8⟩
         go_simp
         with_reducible rfl
        rotate_left
        ·simp only [Act.put, zA, zB, zC, i64_w, i32_w]
         rfl
        refine take_ (i := 4) (N := some 30) (v := ?_) (a' := ?_) #[true, true, true, true, true, false, false, false, false, false, false, false, false] rfl rfl (take_ofW HT_.out HW_.out (by kernel_rfl)) (fun _ _ _ h => h) (Or.inl ⟨by rfl, ?_⟩) hHeld ?_ ?_
        rotate_left
        ·rintro w' ⟨s0, s1, s2, s3, s4, s5, s6, s7, s8⟩
         go_simp
         with_reducible rfl
        rotate_left
        ·simp only [Act.put, zA, zB, zC, i64_w, i32_w]
         rfl
        refine pu HT_ 5 (some 31) ?_
        refine pu HT_ 6 (some 32) ?_
        refine pu HT_ 7 (some 33) ?_
        refine take_ (i := 8) (N := some 34) (v := ?_) (a' := ?_) #[true, true, true, true, true, true, true, true, true, false, false, false, false] rfl rfl (take_ofW HT_.out HW_.out (by kernel_rfl)) (fun _ _ _ h => h) (Or.inl ⟨by rfl, ?_⟩) hHeld ?_ ?_
        rotate_left
        ·rintro w' ⟨s0, s1, s2, s3, s4, s5, s6, s7, s8⟩
         go_simp
         with_reducible rfl
        rotate_left
        ·simp only [Act.put, zA, zB, zC, i64_w, i32_w]
         rfl
        refine one_ (i := 9) (N := some 35) #[true, true, true, true, true, true, true, true, true, true, false, false, false] rfl rfl (one_of HT_.out (by kernel_rfl)) (by decide) (fun K hK => ?_)
        refine value_ (w1 := ?_) (v := ?_) (by rfl) rfl ?_ ?_
        rotate_left 2
        ·go_simp
         constructor
         ·rfl
         ·rfl
        refine hK.out _ _ ⟨(blk_cell (blk_alloc BK371.out _) 0).trans rfl, (blk_cell (blk_alloc BK371.out _) 1).trans rfl, (blk_cell (blk_alloc BK371.out _) 2).trans rfl, (blk_cell (blk_alloc BK360.out _) 0).trans rfl, (blk_cell (blk_alloc BK360.out _) 1).trans rfl, (blk_cell (blk_alloc BK360.out _) 2).trans rfl, (blk_cell (blk_alloc BK361.out _) 0).trans rfl, (blk_cell (blk_alloc BK361.out _) 1).trans rfl, (blk_cell (blk_alloc BK361.out _) 2).trans rfl⟩ (fun hHeld => ?_)
        clear hK K
        refine norm_ (a' := ?_) ?_ ?_
        rotate_left
        ·show Act.put _ (some 35) _ = _
         simp only [Act.put, zA, zB, zC, i64_w, i32_w]
         rfl
        refine one_ (i := 10) (N := some 36) #[true, true, true, true, true, true, true, true, true, true, true, false, false] rfl rfl (one_of HT_.out (by kernel_rfl)) (by decide) (fun K hK => ?_)
        refine Kd.R_append_step k89 (w0 := w) w.heap.size (by rfl) (.tmp 33) (.tmp 35) 38 89 (.agg #[(.int .i64 0), (.int .i64 0), (.string ⟨#[]⟩)]) 32 rfl Try.underlying38 info89 rfl (by decide) (by omega) (.slice Ao37 y372.length co37) y372 (⟨a2_0, a2_1, a2_2⟩ : S89) [.int .i64 a2_0, .int .i64 a2_1, .string a2_2] (fun k_ => k_ ≠ gb361) (fun _ => False) rfl rfl ?aP (fun _ hk => hk.elim) ?aF ?aO ?aB ?aS ?aL ?_
        (case aP => exact k89_mkM _ _ _ (⟨a2_0, a2_1, a2_2⟩ : S89))
        (case aB => exact (bt HB))
        (case aF => exact (fun k_ hk => Kd.freshB (g := gb361) (o := .cells #[.int .i64 a2_0, .int .i64 a2_1, .string a2_2] 89 (0, 0)) (bk BK361) k_ hk))
        (case aO => exact (rk HO374))
        (case aS => exact (below_size (bt HB)))
        (case aL => have := LMc25.out; omega)
        intro v376 w41 ho hb hg hat
        rw [← Ny375.out] at ho
        have n0_ := Aside0.mk (blk_grown (g := gb360) (o := .cells #[.int .i64 a0_0, .int .i64 a0_1, .slice A0_2 l0_2.length c0_2] 40 (0, 0)) (bk BK360) hg (Kd.R_ne HO374.out BK360.out (by decide)))
        have n1_ := Aside0.mk (blk_grown (g := gb361) (o := .cells #[.int .i64 a2_0, .int .i64 a2_1, .string a2_2] 89 (0, 0)) (bk BK361) hg (Kd.R_away HO374.out (fun _ hk => hk)))
        have n2_ := Aside0.mk (blk_grown (g := gb362) (o := .cells #[.int .i64 0, .int .i64 0, .slice none 0 0] 40 (0, 0)) (bk BK362) hg (Kd.R_ne HO374.out BK362.out (by decide)))
        have n3_ := Aside0.mk (blk_grown (g := gb371) (o := .cells #[.int .i64 t366, .int .i64 t367, .slice Ao37 t368.length co37] 40 (0, 0)) (bk BK371) hg (Kd.R_ne HO374.out BK371.out (by decide)))
        have n4_ := Aside0.mk (hb)
        have n5_ := Aside0.mk (ho)
        clear BK360 BK361 BK362 BK371 HB HO374
        revert n0_ n1_ n2_ n3_ n4_ n5_
        intro BK360 BK361 BK362 BK371 HB HO377
        clear ho hb hg hat
        obtain ⟨Ao42, co42, eo42⟩ := Kd.R_slice HO377.out
        (first | subst eo42 | (injection eo42 with f1_ f2_ f3_; have f4_ := f1_.symm; have f5_ := f3_.symm; clear f1_ f2_ f3_; subst f4_; subst f5_))
        refine hK.out _ _ ⟨bc BK371 0, bc BK371 1, bc BK371 2, bc BK360 0, bc BK360 1, bc BK360 2, bc BK361 0, bc BK361 1, bc BK361 2⟩ (fun hHeld => ?_)
        clear hK K
        refine norm_ (a' := ?_) ?_ ?_
        rotate_left
        ·show Act.put _ (some 36) _ = _
         simp only [Act.put, zA, zB, zC, i64_w, i32_w]
         rfl
        refine pu HT_ 11 (some 37) ?_
        refine last_ (i := 12) (N := none) #[true, true, true, true, true, true, true, true, true, true, true, true, true] rfl rfl (one_of HT_.out (by kernel_rfl)) (by decide) (fun K hK => ?_)
        have hs43 : w41.cell? ⟨gb371, 2, none⟩ = some (.slice Ao37 t368.length co37) := bc BK371 2
        have hfs43 := blk_frozen BK371.out 2
        have hns43_0 := NB360_371.out
        have hns43_1 := NB361_371.out
        have hns43_2 := NB362_371.out
        have hms43_0 := NB371_360.out
        have hms43_1 := NB371_361.out
        have hms43_2 := NB371_362.out
        refine skip_ (w1 := ?_) (by rfl) rfl ?_ ?_
        rotate_left
        ·go_simp
         rfl
        refine hK.out _ _ ?_
        clear hK K
        refine done_ (done_of HT_.out (by kernel_rfl)) ?_
        obtain ⟨hcz44_0, hcz44_1, hcz44_2, hfz44_0, hfz44_1, hfz44_2⟩ := bc3 BK371
        try go_wp2_with (first | ((with_reducible refine gd 39 rfl ?_); refine gl 38 39 Try.func38 #[.agg #[.int .i64 t366, .int .i64 t367, .slice Ao42 y375.length co42]] ?_; (with_reducible refine (impl_LogOk.calls kj3 t366 t367 _ _ y375 true _ ?side1 ?side2 A26.out).mono ?_); (case side1 => refine (Kd.R_reads' (e := 89) (base := w.heap.size) (ok := fun k_ => k_ ≠ gb361) (n := y375.length) (c := co42) ?_).2.2; exact (by (with_reducible repeat (first | apply Kd.R_alloc | apply Kd.R_drewN | apply Kd.R_drew)); exact (Kd.R_mono (Kd.R_far (p := ⟨gb371, 2, none⟩) (Kd.R_types HO377.out BK371.out (by decide)) (fun _ hk => hk.2) (.slice Ao42 y375.length co42)) (fun _ h_ => h_.1)))); (case side2 => exact (Kd.R_reads' HO377.out).2.1); rintro e w45 ⟨rfl, hb⟩; refine ⟨_, rfl, ?_⟩; have n0_ := Aside0.mk (Kd.R_below (by (with_reducible repeat (first | apply Kd.R_alloc | apply Kd.R_drewN | apply Kd.R_drew)); exact (Kd.R_mono (Kd.R_far (p := ⟨gb371, 2, none⟩) (Kd.R_types HO377.out BK371.out (by decide)) (fun _ hk => hk.2) (.slice Ao42 y375.length co42)) (fun _ h_ => h_.1))) hb); have n1_ := Aside0.mk (blk_below (g := gb360) (o := .cells #[.int .i64 a0_0, .int .i64 a0_1, .slice A0_2 l0_2.length c0_2] 40 (0, 0)) (by refine bk_ ?_; refine blk_far ?_ NB360_371.out _; refine bk_ ?_; exact BK360.out) hb); have n2_ := Aside0.mk (blk_below (g := gb361) (o := .cells #[.int .i64 a2_0, .int .i64 a2_1, .string a2_2] 89 (0, 0)) (by refine bk_ ?_; refine blk_far ?_ NB361_371.out _; refine bk_ ?_; exact BK361.out) hb); have n3_ := Aside0.mk (blk_below (g := gb362) (o := .cells #[.int .i64 0, .int .i64 0, .slice none 0 0] 40 (0, 0)) (by refine bk_ ?_; refine blk_far ?_ NB362_371.out _; refine bk_ ?_; exact BK362.out) hb); have n4_ := Aside0.mk (blk_below (g := gb371) (o := .cells #[.int .i64 t366, .int .i64 t367, .slice Ao42 y375.length co42] 40 (0, 0)) (by refine bk_ ?_; refine blk_put (cs := #[.int .i64 t366, .int .i64 t367, .slice Ao37 t368.length co37]) ?_ 2 _ rfl; refine bk_ ?_; exact BK371.out) hb); have n5_ := Aside0.mk (below_step (bt HB) hb); clear HO377 BK360 BK361 BK362 BK371 HB; revert n0_ n1_ n2_ n3_ n4_ n5_; intro HO377 BK360 BK361 BK362 BK371 HB; (try clear hb); (try clear hb2); (try clear hk); (try clear hi); obtain ⟨hcz46_0, hcz46_1, hcz46_2, hfz46_0, hfz46_1, hfz46_2⟩ := bc3 BK371; have hnb47 := NB362_361.out; have hnc47 := NB361_362.out; obtain ⟨hcz48_0, hcz48_1, hcz48_2, hfz48_0, hfz48_1, hfz48_2⟩ := bc3 BK362))
        refine bodyPost_ret (results_ct rfl _ _ gb362 40 #[.int .i64 t366, .int .i64 t367, .slice Ao42 y375.length co42] (0, 0) _ rfl (by (with_reducible repeat (first | refine blk_drewN ?_ _ | refine blk_drew ?_ | refine blk_alloc ?_ _)); refine blk_put (cs := #[.int .i64 t366, .int .i64 t367, .slice none 0 0]) ?_ 2 _ rfl; (with_reducible repeat (first | refine blk_drewN ?_ _ | refine blk_drew ?_ | refine blk_alloc ?_ _)); refine blk_put (cs := #[.int .i64 t366, .int .i64 0, .slice none 0 0]) ?_ 1 _ rfl; (with_reducible repeat (first | refine blk_drewN ?_ _ | refine blk_drew ?_ | refine blk_alloc ?_ _)); refine blk_put (cs := #[.int .i64 0, .int .i64 0, .slice none 0 0]) ?_ 0 _ rfl; (with_reducible repeat (first | refine blk_drewN ?_ _ | refine blk_drew ?_ | refine blk_alloc ?_ _)); exact BK362.out) Try.underlying40 rfl (by kernel_rfl)) rfl ?_
        exact ⟨_, by first | rfl | (simp [errW_none, errW_some] <;> rfl) | (simp only [← hji22]; first | rfl | (simp [errW_none, errW_some] <;> rfl)) | (simp [*, errW_none, errW_some] <;> rfl), by (with_reducible repeat (first | apply Kd.R_alloc | apply Kd.R_drewN | apply Kd.R_drew)); exact Kd.R_mono (Kd.R_far (p := ⟨gb362, 2, none⟩) (Kd.R_far (p := ⟨gb362, 1, none⟩) (Kd.R_far (p := ⟨gb362, 0, none⟩) (Kd.R_types HO377.out BK362.out (by decide)) (fun _ hk => hk.2) (.int .i64 t366)) (fun _ hk => hk.2) (.int .i64 t367)) (fun _ hk => hk.2) (.slice Ao42 y375.length co42)) (fun _ hk => trivial), bt HB⟩
       ·replace c27 := Bool.eq_false_iff.mpr c27
        subst c27
        rw [if_neg nf] at H
        simp only [Option.some.injEq, Prod.mk.injEq] at H
        obtain ⟨rfl, rfl, rfl, rfl⟩ := H
        have hnb49 := NB360_361.out
        have hnc49 := NB361_360.out
        have hnb50 := NB360_362.out
        have hnc50 := NB362_360.out
        obtain ⟨hcz51_0, hcz51_1, hcz51_2, hfz51_0, hfz51_1, hfz51_2⟩ := bc3 BK360
        try go_wp2_with (first | ((with_reducible refine gd 25 rfl ?_); refine gl 78 25 Try.func78 #[.agg #[.int .i64 a0_0, .int .i64 a0_1, .slice A0_2 l0_2.length c0_2]] ?_; (with_reducible refine (impl_cloneLog.calls a0_0 a0_1 _ _ l0_2 t366 t367 t368 _ ?side1 ?side2 A21.out).mono ?_); (case side1 => repeat (first | exact (Kd.C_below HR0_2.out HB.out) | (with_reducible refine Kd.C_alloc ?_ _) | (with_reducible refine Kd.C_drewN ?_ _) | (with_reducible refine Kd.C_drew ?_))); (case side2 => exact HC0_2.out); rintro e w52 ⟨v369, rfl, ho0, hb⟩; refine ⟨_, rfl, ?_⟩; have n0_ := Aside0.mk (Kd.R_lower (Kd.R_newB ho0 (g := gb361) (o := .cells #[.int .i64 a2_0, .int .i64 a2_1, .string a2_2] 89 (0, 0)) (bk BK361)) (below_size (bt HB))); have n1_ := bb BK360 hb; have n2_ := bb BK361 hb; have n3_ := bb BK362 hb; have n4_ := Aside0.mk (below_step (bt HB) hb); clear BK360 BK361 BK362 HB; revert n0_ n1_ n2_ n3_ n4_; intro HO370 BK360 BK361 BK362 HB; (try clear hb); (try clear hb2); (try clear hk); (try clear hi); (try clear ho0)) | (refine bx 8 40 #[.int .i64 0, .int .i64 0, .slice none 0 0] ?_; intro gb371 hg w53 hbox hb; have n0_ := rb HO370 hb; have n1_ := bb BK360 hb; have n2_ := bb BK361 hb; have n3_ := bb BK362 hb; have n4_ := Aside0.mk (below_step (bt HB) hb); have n5_ := Aside0.mk (hbox); have n6_ := ge_ hg HB; have n7_ := ge_ hg HB; have n8_ := nl_ hg BK360; have n9_ := nr_ hg BK360; have n10_ := nl_ hg BK361; have n11_ := nr_ hg BK361; have n12_ := nl_ hg BK362; have n13_ := nr_ hg BK362; clear HO370 BK360 BK361 BK362 HB; revert n0_ n1_ n2_ n3_ n4_ n5_ n6_ n7_ n8_ n9_ n10_ n11_ n12_ n13_; intro HO370 BK360 BK361 BK362 HB BK371 GW371 GE371 NB360_371 NB371_360 NB361_371 NB371_361 NB362_371 NB371_362; clear hb hbox hg; have hnb54 := NB371_360.out; have hnc54 := NB360_371.out; have hnb55 := NB371_361.out; have hnc55 := NB361_371.out; have hnb56 := NB371_362.out; have hnc56 := NB362_371.out; obtain ⟨hcz57_0, hcz57_1, hcz57_2, hfz57_0, hfz57_1, hfz57_2⟩ := bc3 BK371; obtain ⟨Ao58, co58, eo58⟩ := Kd.R_slice HO370.out; subst eo58))
        have n0_ : Aside0 (Kd.R k89 89 (((w53.setCell ⟨gb371, 0, none⟩ (.int .i64 t366)).setCell ⟨gb371, 1, none⟩ (.int .i64 t367)).setCell ⟨gb371, 2, none⟩ (.slice Ao58 t368.length co58)) w.heap.size (fun k_ => k_ ≠ gb361) (.slice Ao58 t368.length co58) t368) := ⟨by (with_reducible repeat (first | apply Kd.R_alloc | apply Kd.R_drewN | apply Kd.R_drew)); exact Kd.R_mono (Kd.R_far (p := ⟨gb371, 2, none⟩) (Kd.R_far (p := ⟨gb371, 1, none⟩) (Kd.R_far (p := ⟨gb371, 0, none⟩) (Kd.R_types HO370.out BK371.out (by decide)) (fun _ hk => hk.2) (.int .i64 t366)) (fun _ hk => hk.2) (.int .i64 t367)) (fun _ hk => hk.2) (.slice Ao58 t368.length co58)) (fun _ hk => hk.1.2)⟩
        have n1_ : Aside0 ((((w53.setCell ⟨gb371, 0, none⟩ (.int .i64 t366)).setCell ⟨gb371, 1, none⟩ (.int .i64 t367)).setCell ⟨gb371, 2, none⟩ (.slice Ao58 t368.length co58)).heap[gb360]? = some (.cells #[.int .i64 a0_0, .int .i64 a0_1, .slice A0_2 l0_2.length c0_2] 40 (0, 0))) := ⟨by refine bk_ ?_; refine blk_far ?_ NB360_371.out _; refine bk_ ?_; refine blk_far ?_ NB360_371.out _; refine bk_ ?_; refine blk_far ?_ NB360_371.out _; refine bk_ ?_; exact BK360.out⟩
        have n2_ : Aside0 ((((w53.setCell ⟨gb371, 0, none⟩ (.int .i64 t366)).setCell ⟨gb371, 1, none⟩ (.int .i64 t367)).setCell ⟨gb371, 2, none⟩ (.slice Ao58 t368.length co58)).heap[gb361]? = some (.cells #[.int .i64 a2_0, .int .i64 a2_1, .string a2_2] 89 (0, 0))) := ⟨by refine bk_ ?_; refine blk_far ?_ NB361_371.out _; refine bk_ ?_; refine blk_far ?_ NB361_371.out _; refine bk_ ?_; refine blk_far ?_ NB361_371.out _; refine bk_ ?_; exact BK361.out⟩
        have n3_ : Aside0 ((((w53.setCell ⟨gb371, 0, none⟩ (.int .i64 t366)).setCell ⟨gb371, 1, none⟩ (.int .i64 t367)).setCell ⟨gb371, 2, none⟩ (.slice Ao58 t368.length co58)).heap[gb362]? = some (.cells #[.int .i64 0, .int .i64 0, .slice none 0 0] 40 (0, 0))) := ⟨by refine bk_ ?_; refine blk_far ?_ NB362_371.out _; refine bk_ ?_; refine blk_far ?_ NB362_371.out _; refine bk_ ?_; refine blk_far ?_ NB362_371.out _; refine bk_ ?_; exact BK362.out⟩
        have n4_ : Aside0 ((((w53.setCell ⟨gb371, 0, none⟩ (.int .i64 t366)).setCell ⟨gb371, 1, none⟩ (.int .i64 t367)).setCell ⟨gb371, 2, none⟩ (.slice Ao58 t368.length co58)).heap[gb371]? = some (.cells #[.int .i64 t366, .int .i64 t367, .slice Ao58 t368.length co58] 40 (0, 0))) := ⟨by refine bk_ ?_; refine blk_put (cs := #[.int .i64 t366, .int .i64 t367, .slice none 0 0]) ?_ 2 _ rfl; refine bk_ ?_; refine blk_put (cs := #[.int .i64 t366, .int .i64 0, .slice none 0 0]) ?_ 1 _ rfl; refine bk_ ?_; refine blk_put (cs := #[.int .i64 0, .int .i64 0, .slice none 0 0]) ?_ 0 _ rfl; refine bk_ ?_; exact BK371.out⟩
        have n5_ : Aside0 (Below w.heap.size w (((w53.setCell ⟨gb371, 0, none⟩ (.int .i64 t366)).setCell ⟨gb371, 1, none⟩ (.int .i64 t367)).setCell ⟨gb371, 2, none⟩ (.slice Ao58 t368.length co58))) := ⟨bt HB⟩
        (try clear HO370)
        (try clear BK360)
        (try clear BK361)
        (try clear BK362)
        (try clear BK371)
        (try clear HB)
        generalize (((w53.setCell ⟨gb371, 0, none⟩ (.int .i64 t366)).setCell ⟨gb371, 1, none⟩ (.int .i64 t367)).setCell ⟨gb371, 2, none⟩ (.slice Ao58 t368.length co58)) = w59 at n0_ n1_ n2_ n3_ n4_ n5_ ⊢
        have HO370 := n0_
        have BK360 := n1_
        have BK361 := n2_
        have BK362 := n3_
        have BK371 := n4_
        have HB := n5_
        clear n0_ n1_ n2_ n3_ n4_ n5_
        have n0_ := Aside0.mk (Kd.R_drew HO370.out)
        have n1_ := Aside0.mk (blk_drew BK360.out)
        have n2_ := Aside0.mk (blk_drew BK361.out)
        have n3_ := Aside0.mk (blk_drew BK362.out)
        have n4_ := Aside0.mk (blk_drew BK371.out)
        have n5_ := Aside0.mk (below_drew1 HB.out)
        clear HO370 BK360 BK361 BK362 BK371 HB
        revert n0_ n1_ n2_ n3_ n4_ n5_
        intro HO370 BK360 BK361 BK362 BK371 HB
        have q61 : ((ji22) : Int) ≤ ((t368.length : Int) : Int) := da
        obtain ⟨i061, hi061, _, hsz61, _⟩ := info_parts info89
        have hcut61 := cut_to (P := Try.prog) 38 89 .i64 Try.underlying38 hi061 Ao58 t368.length co58 (ji22) (da) q61 (Kd.R_reads' HO370.out).2.1
        have hr61 := Kd.R_take (m := ((ji22) : Int).toNat) HO370.out (by omega)
        have hy61 : y372.length = ((ji22) : Int).toNat := (by rw [Ny372.out, List.length_take]; omega)
        rw [← Ny372.out] at hr61
        rw [← hy61] at hr61 hcut61
        clear hy61 hi061 hsz61 HO370
        have HO374 := Aside0.mk hr61
        clear hr61
        replace q61 := eq_true q61
        refine start_ (n := 13) (S := fun w' => w'.cell? ⟨gb371, 0, none⟩ = some (.int .i64 t366) ∧ w'.cell? ⟨gb371, 1, none⟩ = some (.int .i64 t367) ∧ w'.cell? ⟨gb371, 2, none⟩ = some (.slice Ao58 t368.length co58) ∧ w'.cell? ⟨gb360, 0, none⟩ = some (.int .i64 a0_0) ∧ w'.cell? ⟨gb360, 1, none⟩ = some (.int .i64 a0_1) ∧ w'.cell? ⟨gb360, 2, none⟩ = some (.slice A0_2 l0_2.length c0_2) ∧ w'.cell? ⟨gb361, 0, none⟩ = some (.int .i64 a2_0) ∧ w'.cell? ⟨gb361, 1, none⟩ = some (.int .i64 a2_1) ∧ w'.cell? ⟨gb361, 2, none⟩ = some (.string a2_2)) (ds := [12]) #[false, false, false, false, false, false, false, false, false, false, false, false, false] (by kernel_rfl) rfl rfl ⟨bc BK371 0, bc BK371 1, bc BK371 2, bc BK360 0, bc BK360 1, bc BK360 2, bc BK361 0, bc BK361 1, bc BK361 2⟩ (fun hHeld => ?_); refine with_tabW impl_LogPut.tab4 impl_LogPut.bits4 (fun HT_ HW_ => ?_)
        generalize w59.drew = w60 at BK360 BK361 BK362 BK371 HB HO374 hHeld ⊢
        refine pu HT_ 0 (some 26) ?_
        refine pu HT_ 2 (some 28) ?_
        refine pu HT_ 3 (some 29) ?_
        refine take_ (i := 1) (N := some 27) (v := ?_) (a' := ?_) #[true, true, true, true, false, false, false, false, false, false, false, false, false] rfl rfl (take_ofW HT_.out HW_.out (by kernel_rfl)) (fun _ _ _ h => h) (Or.inl ⟨by rfl, ?_⟩) hHeld ?_ ?_
        rotate_left
        ·rintro w' ⟨s0, s1, s2, s3, s4, s5, s6, s7, s8⟩
         go_simp
         with_reducible rfl
        rotate_left
        ·simp only [Act.put, zA, zB, zC, i64_w, i32_w]
         rfl
        refine take_ (i := 4) (N := some 30) (v := ?_) (a' := ?_) #[true, true, true, true, true, false, false, false, false, false, false, false, false] rfl rfl (take_ofW HT_.out HW_.out (by kernel_rfl)) (fun _ _ _ h => h) (Or.inl ⟨by rfl, ?_⟩) hHeld ?_ ?_
        rotate_left
        ·rintro w' ⟨s0, s1, s2, s3, s4, s5, s6, s7, s8⟩
         go_simp
         with_reducible rfl
        rotate_left
        ·simp only [Act.put, zA, zB, zC, i64_w, i32_w]
         rfl
        refine pu HT_ 5 (some 31) ?_
        refine pu HT_ 6 (some 32) ?_
        refine pu HT_ 7 (some 33) ?_
        refine take_ (i := 8) (N := some 34) (v := ?_) (a' := ?_) #[true, true, true, true, true, true, true, true, true, false, false, false, false] rfl rfl (take_ofW HT_.out HW_.out (by kernel_rfl)) (fun _ _ _ h => h) (Or.inl ⟨by rfl, ?_⟩) hHeld ?_ ?_
        rotate_left
        ·rintro w' ⟨s0, s1, s2, s3, s4, s5, s6, s7, s8⟩
         go_simp
         with_reducible rfl
        rotate_left
        ·simp only [Act.put, zA, zB, zC, i64_w, i32_w]
         rfl
        refine one_ (i := 9) (N := some 35) #[true, true, true, true, true, true, true, true, true, true, false, false, false] rfl rfl (one_of HT_.out (by kernel_rfl)) (by decide) (fun K hK => ?_)
        refine value_ (w1 := ?_) (v := ?_) (by rfl) rfl ?_ ?_
        rotate_left 2
        ·go_simp
         constructor
         ·rfl
         ·rfl
        refine hK.out _ _ ⟨(blk_cell (blk_alloc BK371.out _) 0).trans rfl, (blk_cell (blk_alloc BK371.out _) 1).trans rfl, (blk_cell (blk_alloc BK371.out _) 2).trans rfl, (blk_cell (blk_alloc BK360.out _) 0).trans rfl, (blk_cell (blk_alloc BK360.out _) 1).trans rfl, (blk_cell (blk_alloc BK360.out _) 2).trans rfl, (blk_cell (blk_alloc BK361.out _) 0).trans rfl, (blk_cell (blk_alloc BK361.out _) 1).trans rfl, (blk_cell (blk_alloc BK361.out _) 2).trans rfl⟩ (fun hHeld => ?_)
        clear hK K
        refine norm_ (a' := ?_) ?_ ?_
        rotate_left
        ·show Act.put _ (some 35) _ = _
         simp only [Act.put, zA, zB, zC, i64_w, i32_w]
         rfl
        refine one_ (i := 10) (N := some 36) #[true, true, true, true, true, true, true, true, true, true, true, false, false] rfl rfl (one_of HT_.out (by kernel_rfl)) (by decide) (fun K hK => ?_)
        refine Kd.R_append_step k89 (w0 := w) w.heap.size (by rfl) (.tmp 33) (.tmp 35) 38 89 (.agg #[(.int .i64 0), (.int .i64 0), (.string ⟨#[]⟩)]) 32 rfl Try.underlying38 info89 rfl (by decide) (by omega) (.slice Ao58 y372.length co58) y372 (⟨a2_0, a2_1, a2_2⟩ : S89) [.int .i64 a2_0, .int .i64 a2_1, .string a2_2] (fun k_ => k_ ≠ gb361) (fun _ => False) rfl rfl ?aP (fun _ hk => hk.elim) ?aF ?aO ?aB ?aS ?aL ?_
        (case aP => exact k89_mkM _ _ _ (⟨a2_0, a2_1, a2_2⟩ : S89))
        (case aB => exact (bt HB))
        (case aF => exact (fun k_ hk => Kd.freshB (g := gb361) (o := .cells #[.int .i64 a2_0, .int .i64 a2_1, .string a2_2] 89 (0, 0)) (bk BK361) k_ hk))
        (case aO => exact (rk HO374))
        (case aS => exact (below_size (bt HB)))
        (case aL => have := LMc25.out; omega)
        intro v376 w62 ho hb hg hat
        rw [← Ny375.out] at ho
        have n0_ := Aside0.mk (blk_grown (g := gb360) (o := .cells #[.int .i64 a0_0, .int .i64 a0_1, .slice A0_2 l0_2.length c0_2] 40 (0, 0)) (bk BK360) hg (Kd.R_ne HO374.out BK360.out (by decide)))
        have n1_ := Aside0.mk (blk_grown (g := gb361) (o := .cells #[.int .i64 a2_0, .int .i64 a2_1, .string a2_2] 89 (0, 0)) (bk BK361) hg (Kd.R_away HO374.out (fun _ hk => hk)))
        have n2_ := Aside0.mk (blk_grown (g := gb362) (o := .cells #[.int .i64 0, .int .i64 0, .slice none 0 0] 40 (0, 0)) (bk BK362) hg (Kd.R_ne HO374.out BK362.out (by decide)))
        have n3_ := Aside0.mk (blk_grown (g := gb371) (o := .cells #[.int .i64 t366, .int .i64 t367, .slice Ao58 t368.length co58] 40 (0, 0)) (bk BK371) hg (Kd.R_ne HO374.out BK371.out (by decide)))
        have n4_ := Aside0.mk (hb)
        have n5_ := Aside0.mk (ho)
        clear BK360 BK361 BK362 BK371 HB HO374
        revert n0_ n1_ n2_ n3_ n4_ n5_
        intro BK360 BK361 BK362 BK371 HB HO377
        clear ho hb hg hat
        obtain ⟨Ao63, co63, eo63⟩ := Kd.R_slice HO377.out
        (first | subst eo63 | (injection eo63 with f1_ f2_ f3_; have f4_ := f1_.symm; have f5_ := f3_.symm; clear f1_ f2_ f3_; subst f4_; subst f5_))
        refine hK.out _ _ ⟨bc BK371 0, bc BK371 1, bc BK371 2, bc BK360 0, bc BK360 1, bc BK360 2, bc BK361 0, bc BK361 1, bc BK361 2⟩ (fun hHeld => ?_)
        clear hK K
        refine norm_ (a' := ?_) ?_ ?_
        rotate_left
        ·show Act.put _ (some 36) _ = _
         simp only [Act.put, zA, zB, zC, i64_w, i32_w]
         rfl
        refine pu HT_ 11 (some 37) ?_
        refine last_ (i := 12) (N := none) #[true, true, true, true, true, true, true, true, true, true, true, true, true] rfl rfl (one_of HT_.out (by kernel_rfl)) (by decide) (fun K hK => ?_)
        have hs64 : w62.cell? ⟨gb371, 2, none⟩ = some (.slice Ao58 t368.length co58) := bc BK371 2
        have hfs64 := blk_frozen BK371.out 2
        have hns64_0 := NB360_371.out
        have hns64_1 := NB361_371.out
        have hns64_2 := NB362_371.out
        have hms64_0 := NB371_360.out
        have hms64_1 := NB371_361.out
        have hms64_2 := NB371_362.out
        refine skip_ (w1 := ?_) (by rfl) rfl ?_ ?_
        rotate_left
        ·go_simp
         rfl
        refine hK.out _ _ ?_
        clear hK K
        refine done_ (done_of HT_.out (by kernel_rfl)) ?_
        obtain ⟨hcz65_0, hcz65_1, hcz65_2, hfz65_0, hfz65_1, hfz65_2⟩ := bc3 BK371
        try go_wp2_with (first | ((with_reducible refine gd 39 rfl ?_); refine gl 38 39 Try.func38 #[.agg #[.int .i64 t366, .int .i64 t367, .slice Ao63 y375.length co63]] ?_; (with_reducible refine (impl_LogOk.calls kj3 t366 t367 _ _ y375 false _ ?side1 ?side2 A26.out).mono ?_); (case side1 => refine (Kd.R_reads' (e := 89) (base := w.heap.size) (ok := fun k_ => k_ ≠ gb361) (n := y375.length) (c := co63) ?_).2.2; exact (by (with_reducible repeat (first | apply Kd.R_alloc | apply Kd.R_drewN | apply Kd.R_drew)); exact (Kd.R_mono (Kd.R_far (p := ⟨gb371, 2, none⟩) (Kd.R_types HO377.out BK371.out (by decide)) (fun _ hk => hk.2) (.slice Ao63 y375.length co63)) (fun _ h_ => h_.1)))); (case side2 => exact (Kd.R_reads' HO377.out).2.1); rintro e w66 ⟨rfl, hb⟩; refine ⟨_, rfl, ?_⟩; have n0_ := Aside0.mk (Kd.R_below (by (with_reducible repeat (first | apply Kd.R_alloc | apply Kd.R_drewN | apply Kd.R_drew)); exact (Kd.R_mono (Kd.R_far (p := ⟨gb371, 2, none⟩) (Kd.R_types HO377.out BK371.out (by decide)) (fun _ hk => hk.2) (.slice Ao63 y375.length co63)) (fun _ h_ => h_.1))) hb); have n1_ := Aside0.mk (blk_below (g := gb360) (o := .cells #[.int .i64 a0_0, .int .i64 a0_1, .slice A0_2 l0_2.length c0_2] 40 (0, 0)) (by refine bk_ ?_; refine blk_far ?_ NB360_371.out _; refine bk_ ?_; exact BK360.out) hb); have n2_ := Aside0.mk (blk_below (g := gb361) (o := .cells #[.int .i64 a2_0, .int .i64 a2_1, .string a2_2] 89 (0, 0)) (by refine bk_ ?_; refine blk_far ?_ NB361_371.out _; refine bk_ ?_; exact BK361.out) hb); have n3_ := Aside0.mk (blk_below (g := gb362) (o := .cells #[.int .i64 0, .int .i64 0, .slice none 0 0] 40 (0, 0)) (by refine bk_ ?_; refine blk_far ?_ NB362_371.out _; refine bk_ ?_; exact BK362.out) hb); have n4_ := Aside0.mk (blk_below (g := gb371) (o := .cells #[.int .i64 t366, .int .i64 t367, .slice Ao63 y375.length co63] 40 (0, 0)) (by refine bk_ ?_; refine blk_put (cs := #[.int .i64 t366, .int .i64 t367, .slice Ao58 t368.length co58]) ?_ 2 _ rfl; refine bk_ ?_; exact BK371.out) hb); have n5_ := Aside0.mk (below_step (bt HB) hb); clear HO377 BK360 BK361 BK362 BK371 HB; revert n0_ n1_ n2_ n3_ n4_ n5_; intro HO377 BK360 BK361 BK362 BK371 HB; (try clear hb); (try clear hb2); (try clear hk); (try clear hi); have hnb67 := NB362_361.out; have hnc67 := NB361_362.out; obtain ⟨hcz68_0, hcz68_1, hcz68_2, hfz68_0, hfz68_1, hfz68_2⟩ := bc3 BK362))
        refine bodyPost_ret (results_ct rfl _ _ gb362 40 #[.int .i64 0, .int .i64 0, .slice none 0 0] (0, 0) _ rfl (by (with_reducible repeat (first | refine blk_drewN ?_ _ | refine blk_drew ?_ | refine blk_alloc ?_ _)); refine blk_put (cs := #[.int .i64 0, .int .i64 0, .slice none 0 0]) ?_ 2 _ rfl; (with_reducible repeat (first | refine blk_drewN ?_ _ | refine blk_drew ?_ | refine blk_alloc ?_ _)); refine blk_put (cs := #[.int .i64 0, .int .i64 0, .slice none 0 0]) ?_ 1 _ rfl; (with_reducible repeat (first | refine blk_drewN ?_ _ | refine blk_drew ?_ | refine blk_alloc ?_ _)); refine blk_put (cs := #[.int .i64 0, .int .i64 0, .slice none 0 0]) ?_ 0 _ rfl; (with_reducible repeat (first | refine blk_drewN ?_ _ | refine blk_drew ?_ | refine blk_alloc ?_ _)); exact BK362.out) Try.underlying40 rfl (by kernel_rfl)) rfl ?_
        exact ⟨_, by first | rfl | (simp [errW_none, errW_some] <;> rfl) | (simp only [← hji22]; first | rfl | (simp [errW_none, errW_some] <;> rfl)) | (simp [*, errW_none, errW_some] <;> rfl), by first | exact Kd.R_nil _ _ _ _ _ | exact Kd.N_nil _ _ _ _ _ | exact Kd.V_nil _ _ _ _ _ | exact Kd.Q_nil _ _ _ _ _ | exact Kd.S_nil _ _ _ _ _, bt HB⟩
      ·rw [if_neg c25] at H
       exact absurd H (by simp)
     ·rw [if_neg c24] at H
      exact absurd H (by simp)
    ·rw [if_neg c23] at H
     exact absurd H (by simp)
end Go.Proofs.Ytghhepailkkneaa.PFnExactReadJournal
