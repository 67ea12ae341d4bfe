/- What the functions that FnExactReadJournal reaches compute, and that the machine's calls compute it. Begun as a text of the kit's print. No condition. -/
import Derived.Test.YtghhepailkkneaaTiny
import Derived.Test.YtghhepailkkneaaQFnExactReadJournalx0
import Derived.Test.YtghhepailkkneaaQFnExactReadJournalx1
import Derived.Test.YtghhepailkkneaaQFnExactReadJournalx5
import Derived.Test.YtghhepailkkneaaQFnExactReadJournalx7
namespace Go.Proofs.Ytghhepailkkneaa.PFnExactReadJournal
open Go.RowKit Go.Proofs.YtghhepailkkneaaW.PrintWords Go.Proofs.YtghhepailkkneaaW.PrintLast Go.Proofs.YtghhepailkkneaaW.PrintMore Go.Proofs.YtghhepailkkneaaW.Short
attribute [local go_sem] max2_int min2_int max_two min_two max_three min_three max_four min_four
set_option linter.unusedVariables false
set_option linter.unusedSimpArgs false
def spec_LogPut.j0 : Nat → Int → Bool → Int → Int → List (S89) → Int → Int → ByteArray → Option (Int × Int × (List (S89)) × Bool)
  | 0, _, _, _, _, _, _, _, _ => none
  | k + 1, x1, x22, x219000, x219001, x219002, x220000, x220001, x220002 => if x22 = true then (some (0, 0, ([] : List (S89)), false)) else ((some (([] : List (S89)) : List (S89))).bind fun y224 => (if 0 ≤ (wrap64 ((wrap64 (x1 - x219000)) - 1)) then (if (wrap64 ((wrap64 (x1 - x219000)) - 1)) ≤ (x219002.length : Int) then ((some (x219002.take ((wrap64 ((wrap64 (x1 - x219000)) - 1)) : Int).toNat : List (S89))).bind fun y227 => (if y224.length + y227.length < 4398046511104 then ((some (y224 ++ y227 : List (S89))).bind fun y231 => ((some (([(⟨x220000, x220001, x220002⟩ : S89)] : List (S89)) : List (S89))).bind fun y234 => (if y231.length + y234.length < 4398046511104 then ((some (y231 ++ y234 : List (S89))).bind fun y237 => ((spec_LogOk.f k x219000 x219001 y237).bind fun t241 => (if t241 = true then (some (x219000, x219001, y237, true)) else (some (0, 0, ([] : List (S89)), false))))) else (none)))) else (none))) else (none)) else (none)))
def spec_LogPut.f (k : Nat) (a0_0 : Int) (a0_1 : Int) (l0_2 : List (S89)) (a1 : Int) (a2_0 : Int) (a2_1 : Int) (a2_2 : ByteArray) : Option (Int × Int × (List (S89)) × Bool) := (spec_LogOk.f k a0_0 a0_1 l0_2).bind fun t221 => (if t221 = true then ((spec_l06Last.f a0_0 a0_1 l0_2).bind fun t222 => ((spec_l01In.f a1 (wrap64 (a0_0 + 1)) (wrap64 (t222 + 1))).bind fun t223 => (spec_LogPut.j0 k a1 (!t223) a0_0 a0_1 l0_2 a2_0 a2_1 a2_2))) else (spec_LogPut.j0 k a1 true a0_0 a0_1 l0_2 a2_0 a2_1 a2_2))
def spec_LogPut.T1 : Bool × List (List Nat × List Nat) := (true, [([], []), ([0], [0]), ([1], [1]), ([2, 1], [2]), ([3], [3]), ([3], [3]), ([5, 3], [3, 5]), ([6, 3], [3, 6]), ([3], [3]), ([8, 3, 3], [3, 8]), ([9, 3], [3, 9]), ([4, 7, 10, 9, 3], [3, 4, 7, 10]), ([11, 3], [3, 11]), ([3, 12], [3, 12])])
def spec_LogPut.B1 : List Nat := [0, 1, 3, 7, 15, 15, 47, 111, 15, 271, 783, 2047, 4095, 8191]
theorem spec_LogPut.tab1 : rtab .any (opsOf Try.f52 1) = spec_LogPut.T1 := by kernel_rfl
theorem spec_LogPut.bits1 : waitsOk spec_LogPut.T1.2 spec_LogPut.B1 = true := by kernel_rfl
def spec_LogPut.T3 : Bool × List (List Nat × List Nat) := (true, [([], []), ([0], [0]), ([], []), ([2], [2]), ([], []), ([], []), ([5], [5]), ([], []), ([], []), ([8], [8]), ([7, 9], [7, 9]), ([10], [10]), ([6, 11], [6, 11]), ([4, 12], [4, 12]), ([], []), ([14], [14]), ([13, 15, 13], [13, 15]), ([1, 3, 16], [1, 3, 16]), ([], []), ([18, 17, 16, 0, 1, 2, 3, 4, 5, 6, 7, 8, 9, 10, 11, 12, 13, 14, 15, 16, 17, 18], [17, 18])])
def spec_LogPut.B3 : List Nat := [0, 1, 0, 4, 0, 0, 32, 0, 0, 256, 896, 1920, 4064, 8176, 0, 16384, 65520, 131071, 0, 524287]
theorem spec_LogPut.tab3 : rtab .any (opsOf Try.f52 3) = spec_LogPut.T3 := by kernel_rfl
theorem spec_LogPut.bits3 : waitsOk spec_LogPut.T3.2 spec_LogPut.B3 = true := by kernel_rfl
set_option maxHeartbeats 80000000 in
set_option maxRecDepth 100000 in
theorem spec_LogPut.calls (k : Nat) (a0_0 : Int) (a0_1 : Int) (A0_2 : Option Addr) (c0_2 : Nat) (l0_2 : List (S89)) (a1 : Int) (a2_0 : Int) (a2_1 : Int) (a2_2 : ByteArray) (r1 : Int) (r2 : Int) (r3 : List (S89)) (r4 : Bool) (w : World) (hr0_2 : Kd.C k89 w A0_2 l0_2.length l0_2) (hc0_2 : l0_2.length ≤ c0_2) (h : spec_LogPut.f k a0_0 a0_1 l0_2 a1 a2_0 a2_1 a2_2 = some (r1, r2, r3, r4)) :
  Calls Try.prog 52 #[.agg #[.int .i64 a0_0, .int .i64 a0_1, .slice A0_2 l0_2.length c0_2], .int .i64 a1, .agg #[.int .i64 a2_0, .int .i64 a2_1, .string a2_2]] w fun e w' => ∃ v2_ : Value, e = .returned (.tuple #[.agg #[.int .i64 r1, .int .i64 r2, v2_], .bool r4]) ∧ Kd.R k89 89 w' w.heap.size (fun _ => True) v2_ r3 ∧ Below w.heap.size w w' := by
 have hu40 := Try.underlying40
 have hu89 := Try.underlying89
 have HR0_2 := Aside0.mk hr0_2
 have HC0_2 := Aside0.mk hc0_2
 clear hr0_2 hc0_2
 have HB := Aside0.mk (Below.refl w.heap.size w)
 have H := h
 clear h
 unfold spec_LogPut.f at H
 have HC4 := Aside0.mk H
 clear H
 go_enter Try.func52, Try.ntmps52
 go_upto_region 1 with (first | (refine bx 3 40 #[.int .i64 a0_0, .int .i64 a0_1, .slice A0_2 l0_2.length c0_2] ?_; intro gb218 hg w5 hbox hb; have n0_ := Aside0.mk (below_step (bt HB) hb); have n1_ := Aside0.mk (hbox); have n2_ := ge_ hg HB; have n3_ := ge_ hg HB; clear HB; revert n0_ n1_ n2_ n3_; intro HB BK218 GW218 GE218; clear hb hbox hg) | (refine bx 5 89 #[.int .i64 a2_0, .int .i64 a2_1, .string a2_2] ?_; intro gb219 hg w6 hbox hb; have n0_ := bb BK218 hb; have n1_ := Aside0.mk (below_step (bt HB) hb); have n2_ := Aside0.mk (hbox); have n3_ := ge_ hg HB; have n4_ := ge_ hg HB; have n5_ := nl_ hg BK218; have n6_ := nr_ hg BK218; clear BK218 HB; revert n0_ n1_ n2_ n3_ n4_ n5_ n6_; intro BK218 HB BK219 GW219 GE219 NB218_219 NB219_218; clear hb hbox hg) | (refine bx 6 40 #[.int .i64 0, .int .i64 0, .slice none 0 0] ?_; intro gb220 hg w7 hbox hb; have n0_ := bb BK218 hb; have n1_ := bb BK219 hb; have n2_ := Aside0.mk (below_step (bt HB) hb); have n3_ := Aside0.mk (hbox); have n4_ := ge_ hg HB; have n5_ := ge_ hg HB; have n6_ := nl_ hg BK218; have n7_ := nr_ hg BK218; have n8_ := nl_ hg BK219; have n9_ := nr_ hg BK219; clear BK218 BK219 HB; revert n0_ n1_ n2_ n3_ n4_ n5_ n6_ n7_ n8_ n9_; intro BK218 BK219 HB BK220 GW220 GE220 NB218_220 NB220_218 NB219_220 NB220_219; clear hb hbox hg))
 (try simp only [Act.put, zA, zB, zC])
 go_cut [22] (fun v22 wc => ∃ (kq : Nat) (x22_3 : Bool), v22 = .bool x22_3 ∧ Aside0 (spec_LogPut.j0 kq a1 x22_3 a0_0 a0_1 l0_2 a2_0 a2_1 a2_2 = some (r1, r2, r3, r4)) ∧ Aside0 (kq ≤ k) ∧ Aside0 (wc.heap[gb218]? = some (.cells #[.int .i64 a0_0, .int .i64 a0_1, (.slice A0_2 l0_2.length c0_2)] 40 (0, 0))) ∧ Aside0 (wc.heap[gb219]? = some (.cells #[.int .i64 a2_0, .int .i64 a2_1, .string a2_2] 89 (0, 0))) ∧ Aside0 (wc.heap[gb220]? = some (.cells #[.int .i64 0, .int .i64 0, (.slice none 0 0)] 40 (0, 0))) ∧ Aside0 (Below w.heap.size w wc))
 case first =>
  have H := HC4.out
  clear HC4
  replace H := Option.bind_eq_some_iff.mp H
  obtain ⟨t221, A80, H⟩ := H
  try dsimp only at H
  have A8 := Aside0.mk A80
  clear A80
  by_cases c9 : t221 = true
  ·subst c9
   rw [if_pos rfl] at H
   replace H := Option.bind_eq_some_iff.mp H
   obtain ⟨t222, A100, H⟩ := H
   try dsimp only at H
   have A10 := Aside0.mk A100
   clear A100
   replace H := Option.bind_eq_some_iff.mp H
   obtain ⟨t223, A110, H⟩ := H
   try dsimp only at H
   have A11 := Aside0.mk A110
   clear A110
   have H' := Aside0.mk H
   clear H
   try go_wp2
   have n0_ := Aside0.mk (blk_drew BK218.out)
   have n1_ := Aside0.mk (blk_drew BK219.out)
   have n2_ := Aside0.mk (blk_drew BK220.out)
   have n3_ := Aside0.mk (below_drew1 HB.out)
   clear BK218 BK219 BK220 HB
   revert n0_ n1_ n2_ n3_
   intro BK218 BK219 BK220 HB
   refine start_ (n := 14) (S := fun w' => w'.cell? ⟨gb218, 0, none⟩ = some (.int .i64 a0_0) ∧ w'.cell? ⟨gb218, 1, none⟩ = some (.int .i64 a0_1) ∧ w'.cell? ⟨gb218, 2, none⟩ = some (.slice A0_2 l0_2.length c0_2)) (ds := []) #[false, false, false, false, false, false, false, false, false, false, false, false, false, false] (by kernel_rfl) rfl rfl ⟨bc BK218 0, bc BK218 1, bc BK218 2⟩ (fun hHeld => ?_); refine with_tabW spec_LogPut.tab1 spec_LogPut.bits1 (fun HT_ HW_ => ?_)
   generalize w7.drew = w12 at BK218 BK219 BK220 HB hHeld ⊢
   refine take_ (i := 0) (N := some 9) (v := ?_) (a' := ?_) #[true, false, false, false, false, false, false, false, false, false, false, false, false, false] rfl rfl (take_ofW HT_.out HW_.out (by kernel_rfl)) (fun _ _ _ h => h) (Or.inl ⟨by rfl, ?_⟩) hHeld ?_ ?_
   rotate_left
   ·rintro w' ⟨s0, s1, s2⟩
    go_simp
    with_reducible rfl
   rotate_left
   ·simp only [Act.put, zA, zB, zC, i64_w, i32_w]
    rfl
   refine one_ (i := 1) (N := some 10) #[true, true, false, false, false, false, false, false, false, false, false, false, false, false] rfl rfl (one_of HT_.out (by kernel_rfl)) (by decide) (fun K hK => ?_)
   refine goes_ Try.func32 (by kernel_rfl) rfl #[.agg #[.int .i64 a0_0, .int .i64 a0_1, .slice A0_2 l0_2.length c0_2]] (by rfl) rfl rfl (by (try simp only [List.map_toArray, List.map_cons, List.map_nil]); first | done | rfl | (simp only [List.length_drop, List.length_take]; rfl)) ?_
   with_reducible refine (spec_LogOk.calls k a0_0 a0_1 _ _ l0_2 true _ ?side1 ?side2 A8.out).mono ?_
   (case side1 => repeat (first | exact (Kd.C_below HR0_2.out HB.out) | (with_reducible refine Kd.C_alloc ?_ _) | (with_reducible refine Kd.C_drewN ?_ _) | (with_reducible refine Kd.C_drew ?_)))
   (case side2 => exact HC0_2.out)
   rintro e w13 ⟨rfl, hb⟩
   refine ⟨_, rfl, ?_⟩
   have n0_ := bb BK218 hb
   have n1_ := bb BK219 hb
   have n2_ := bb BK220 hb
   have n3_ := Aside0.mk (below_step (bt HB) hb)
   clear BK218 BK219 BK220 HB
   revert n0_ n1_ n2_ n3_
   intro BK218 BK219 BK220 HB
   (try clear hb)
   (try clear hb2)
   (try clear hk)
   (try clear hi)
   refine hK.out _ _ ⟨bc BK218 0, bc BK218 1, bc BK218 2⟩ (fun hHeld => ?_)
   clear hK K
   refine norm_ (a' := ?_) ?_ ?_
   rotate_left
   ·show Act.put _ (some 10) _ = _
    simp only [Act.put, zA, zB, zC, i64_w, i32_w]
    rfl
   refine pu HT_ 2 (some 11) ?_
   refine pu HT_ 3 (some 12) ?_
   refine pu HT_ 4 (some 13) ?_
   refine pu HT_ 5 (some 14) ?_
   refine take_ (i := 6) (N := some 15) (v := ?_) (a' := ?_) #[true, true, true, true, true, true, true, false, false, false, false, false, false, false] rfl rfl (take_ofW HT_.out HW_.out (by kernel_rfl)) (fun _ _ _ h => h) (Or.inl ⟨by rfl, ?_⟩) hHeld ?_ ?_
   rotate_left
   ·rintro w' ⟨s0, s1, s2⟩
    go_simp
    with_reducible rfl
   rotate_left
   ·simp only [Act.put, zA, zB, zC, i64_w, i32_w]
    rfl
   refine pu HT_ 7 (some 16) ?_
   refine take_ (i := 8) (N := some 17) (v := ?_) (a' := ?_) #[true, true, true, true, true, true, true, true, true, false, false, false, false, false] rfl rfl (take_ofW HT_.out HW_.out (by kernel_rfl)) (fun _ _ _ h => h) (Or.inl ⟨by rfl, ?_⟩) hHeld ?_ ?_
   rotate_left
   ·rintro w' ⟨s0, s1, s2⟩
    go_simp
    with_reducible rfl
   rotate_left
   ·simp only [Act.put, zA, zB, zC, i64_w, i32_w]
    rfl
   refine one_ (i := 9) (N := some 18) #[true, true, true, true, true, true, true, true, true, true, false, false, false, false] rfl rfl (one_of HT_.out (by kernel_rfl)) (by decide) (fun K hK => ?_)
   refine goes_ Try.func70 (by kernel_rfl) rfl #[.agg #[.int .i64 a0_0, .int .i64 a0_1, .slice A0_2 l0_2.length c0_2]] (by rfl) rfl rfl (by (try simp only [List.map_toArray, List.map_cons, List.map_nil]); first | done | rfl | (simp only [List.length_drop, List.length_take]; rfl)) ?_
   with_reducible refine (spec_l06Last.calls a0_0 a0_1 _ _ l0_2 t222 _ ?side1 ?side2 A10.out).mono ?_
   (case side1 => repeat (first | exact (Kd.C_below HR0_2.out HB.out) | (with_reducible refine Kd.C_alloc ?_ _) | (with_reducible refine Kd.C_drewN ?_ _) | (with_reducible refine Kd.C_drew ?_)))
   (case side2 => exact HC0_2.out)
   rintro e w14 ⟨rfl, hb⟩
   refine ⟨_, rfl, ?_⟩
   have n0_ := bb BK218 hb
   have n1_ := bb BK219 hb
   have n2_ := bb BK220 hb
   have n3_ := Aside0.mk (below_step (bt HB) hb)
   clear BK218 BK219 BK220 HB
   revert n0_ n1_ n2_ n3_
   intro BK218 BK219 BK220 HB
   (try clear hb)
   (try clear hb2)
   (try clear hk)
   (try clear hi)
   refine hK.out _ _ ⟨bc BK218 0, bc BK218 1, bc BK218 2⟩ (fun hHeld => ?_)
   clear hK K
   refine norm_ (a' := ?_) ?_ ?_
   rotate_left
   ·show Act.put _ (some 18) _ = _
    simp only [Act.put, zA, zB, zC, i64_w, i32_w]
    rfl
   refine pu HT_ 10 (some 19) ?_
   refine one_ (i := 11) (N := some 20) #[true, true, true, true, true, true, true, true, true, true, true, true, false, false] rfl rfl (one_of HT_.out (by kernel_rfl)) (by decide) (fun K hK => ?_)
   refine goes_ Try.func30 (by kernel_rfl) rfl #[.int .i64 a1, .int .i64 (wrap64 (a0_0 + 1)), .int .i64 (wrap64 (t222 + 1))] (by rfl) rfl rfl (by (try simp only [List.map_toArray, List.map_cons, List.map_nil]); first | done | rfl | (simp only [List.length_drop, List.length_take]; rfl)) ?_
   with_reducible refine (spec_l01In.calls a1 (wrap64 (a0_0 + 1)) (wrap64 (t222 + 1)) t223 _ A11.out).mono ?_
   rintro e w' ⟨rfl, ⟨nd, rfl⟩⟩
   refine ⟨_, rfl, ?_⟩
   refine hK.out _ _ ⟨bc BK218 0, bc BK218 1, bc BK218 2⟩ (fun hHeld => ?_)
   clear hK K
   refine norm_ (a' := ?_) ?_ ?_
   rotate_left
   ·show Act.put _ (some 20) _ = _
    simp only [Act.put, zA, zB, zC, i64_w, i32_w]
    rfl
   refine pu HT_ 12 (some 21) ?_
   refine pu HT_ 13 (some 22) ?_
   refine done_ (done_of HT_.out (by kernel_rfl)) ?_
   try go_wp2
   go_meet
   case rel => exact ⟨_, (!t223), fr, H', ⟨by first | omega | exact Nat.le_refl _⟩, ⟨by refine bk_ ?_; exact BK218.out⟩, ⟨by refine bk_ ?_; exact BK219.out⟩, ⟨by refine bk_ ?_; exact BK220.out⟩, ⟨bt HB⟩⟩
  ·replace c9 := Bool.eq_false_iff.mpr c9
   subst c9
   rw [if_neg nf] at H
   have H' := Aside0.mk H
   clear H
   try go_wp2
   have n0_ := Aside0.mk (blk_drew BK218.out)
   have n1_ := Aside0.mk (blk_drew BK219.out)
   have n2_ := Aside0.mk (blk_drew BK220.out)
   have n3_ := Aside0.mk (below_drew1 HB.out)
   clear BK218 BK219 BK220 HB
   revert n0_ n1_ n2_ n3_
   intro BK218 BK219 BK220 HB
   refine start_ (n := 14) (S := fun w' => w'.cell? ⟨gb218, 0, none⟩ = some (.int .i64 a0_0) ∧ w'.cell? ⟨gb218, 1, none⟩ = some (.int .i64 a0_1) ∧ w'.cell? ⟨gb218, 2, none⟩ = some (.slice A0_2 l0_2.length c0_2)) (ds := []) #[false, false, false, false, false, false, false, false, false, false, false, false, false, false] (by kernel_rfl) rfl rfl ⟨bc BK218 0, bc BK218 1, bc BK218 2⟩ (fun hHeld => ?_); refine with_tabW spec_LogPut.tab1 spec_LogPut.bits1 (fun HT_ HW_ => ?_)
   generalize w7.drew = w15 at BK218 BK219 BK220 HB hHeld ⊢
   refine take_ (i := 0) (N := some 9) (v := ?_) (a' := ?_) #[true, false, false, false, false, false, false, false, false, false, false, false, false, false] rfl rfl (take_ofW HT_.out HW_.out (by kernel_rfl)) (fun _ _ _ h => h) (Or.inl ⟨by rfl, ?_⟩) hHeld ?_ ?_
   rotate_left
   ·rintro w' ⟨s0, s1, s2⟩
    go_simp
    with_reducible rfl
   rotate_left
   ·simp only [Act.put, zA, zB, zC, i64_w, i32_w]
    rfl
   refine one_ (i := 1) (N := some 10) #[true, true, false, false, false, false, false, false, false, false, false, false, false, false] rfl rfl (one_of HT_.out (by kernel_rfl)) (by decide) (fun K hK => ?_)
   refine goes_ Try.func32 (by kernel_rfl) rfl #[.agg #[.int .i64 a0_0, .int .i64 a0_1, .slice A0_2 l0_2.length c0_2]] (by rfl) rfl rfl (by (try simp only [List.map_toArray, List.map_cons, List.map_nil]); first | done | rfl | (simp only [List.length_drop, List.length_take]; rfl)) ?_
   with_reducible refine (spec_LogOk.calls k a0_0 a0_1 _ _ l0_2 false _ ?side1 ?side2 A8.out).mono ?_
   (case side1 => repeat (first | exact (Kd.C_below HR0_2.out HB.out) | (with_reducible refine Kd.C_alloc ?_ _) | (with_reducible refine Kd.C_drewN ?_ _) | (with_reducible refine Kd.C_drew ?_)))
   (case side2 => exact HC0_2.out)
   rintro e w16 ⟨rfl, hb⟩
   refine ⟨_, rfl, ?_⟩
   have n0_ := bb BK218 hb
   have n1_ := bb BK219 hb
   have n2_ := bb BK220 hb
   have n3_ := Aside0.mk (below_step (bt HB) hb)
   clear BK218 BK219 BK220 HB
   revert n0_ n1_ n2_ n3_
   intro BK218 BK219 BK220 HB
   (try clear hb)
   (try clear hb2)
   (try clear hk)
   (try clear hi)
   refine hK.out _ _ ⟨bc BK218 0, bc BK218 1, bc BK218 2⟩ (fun hHeld => ?_)
   clear hK K
   refine norm_ (a' := ?_) ?_ ?_
   rotate_left
   ·show Act.put _ (some 10) _ = _
    simp only [Act.put, zA, zB, zC, i64_w, i32_w]
    rfl
   refine pu HT_ 2 (some 11) ?_
   refine pu HT_ 3 (some 12) ?_
   refine pure_ (i := 4) (N := some 13) (v := undef) (a' := ?_) #[true, true, true, true, true, false, false, false, false, false, false, false, false, false] rfl rfl (any_of HT_.out (by kernel_rfl)) (fun _ _ _ h => h) (Or.inr ⟨by rfl, rfl⟩) ?_ ?_
   rotate_left
   ·simp only [Act.put, zA, zB, zC, i64_w, i32_w]
    rfl
   refine pure_ (i := 5) (N := some 14) (v := undef) (a' := ?_) #[true, true, true, true, true, true, false, false, false, false, false, false, false, false] rfl rfl (any_of HT_.out (by kernel_rfl)) (fun _ _ _ h => h) (Or.inr ⟨by rfl, rfl⟩) ?_ ?_
   rotate_left
   ·simp only [Act.put, zA, zB, zC, i64_w, i32_w]
    rfl
   refine pure_ (i := 6) (N := some 15) (v := undef) (a' := ?_) #[true, true, true, true, true, true, true, false, false, false, false, false, false, false] rfl rfl (any_of HT_.out (by kernel_rfl)) (fun _ _ _ h => h) (Or.inr ⟨by rfl, rfl⟩) ?_ ?_
   rotate_left
   ·simp only [Act.put, zA, zB, zC, i64_w, i32_w]
    rfl
   refine pure_ (i := 7) (N := some 16) (v := undef) (a' := ?_) #[true, true, true, true, true, true, true, true, false, false, false, false, false, false] rfl rfl (any_of HT_.out (by kernel_rfl)) (fun _ _ _ h => h) (Or.inr ⟨by rfl, rfl⟩) ?_ ?_
   rotate_left
   ·simp only [Act.put, zA, zB, zC, i64_w, i32_w]
    rfl
   refine pure_ (i := 8) (N := some 17) (v := undef) (a' := ?_) #[true, true, true, true, true, true, true, true, true, false, false, false, false, false] rfl rfl (any_of HT_.out (by kernel_rfl)) (fun _ _ _ h => h) (Or.inr ⟨by rfl, rfl⟩) ?_ ?_
   rotate_left
   ·simp only [Act.put, zA, zB, zC, i64_w, i32_w]
    rfl
   refine pure_ (i := 9) (N := some 18) (v := undef) (a' := ?_) #[true, true, true, true, true, true, true, true, true, true, false, false, false, false] rfl rfl (any_of HT_.out (by kernel_rfl)) (fun _ _ _ h => h) (Or.inr ⟨by rfl, rfl⟩) ?_ ?_
   rotate_left
   ·simp only [Act.put, zA, zB, zC, i64_w, i32_w]
    rfl
   refine pure_ (i := 10) (N := some 19) (v := undef) (a' := ?_) #[true, true, true, true, true, true, true, true, true, true, true, false, false, false] rfl rfl (any_of HT_.out (by kernel_rfl)) (fun _ _ _ h => h) (Or.inr ⟨by rfl, rfl⟩) ?_ ?_
   rotate_left
   ·simp only [Act.put, zA, zB, zC, i64_w, i32_w]
    rfl
   refine pure_ (i := 11) (N := some 20) (v := undef) (a' := ?_) #[true, true, true, true, true, true, true, true, true, true, true, true, false, false] rfl rfl (any_of HT_.out (by kernel_rfl)) (fun _ _ _ h => h) (Or.inr ⟨by rfl, rfl⟩) ?_ ?_
   rotate_left
   ·simp only [Act.put, zA, zB, zC, i64_w, i32_w]
    rfl
   refine pure_ (i := 12) (N := some 21) (v := undef) (a' := ?_) #[true, true, true, true, true, true, true, true, true, true, true, true, true, false] rfl rfl (any_of HT_.out (by kernel_rfl)) (fun _ _ _ h => h) (Or.inr ⟨by rfl, rfl⟩) ?_ ?_
   rotate_left
   ·simp only [Act.put, zA, zB, zC, i64_w, i32_w]
    rfl
   refine pu HT_ 13 (some 22) ?_
   refine done_ (done_of HT_.out (by kernel_rfl)) ?_
   try go_wp2
   go_meet
   case rel => exact ⟨_, (true), fr, H', ⟨by first | omega | exact Nat.le_refl _⟩, ⟨by refine bk_ ?_; exact BK218.out⟩, ⟨by refine bk_ ?_; exact BK219.out⟩, ⟨by refine bk_ ?_; exact BK220.out⟩, ⟨bt HB⟩⟩
 case rest =>
  clear HC4
  try clear p2
  try clear c3
  try clear c5
  try clear p6
  try clear c7
  try clear c9
  obtain ⟨kq, x22_3, rfl, HA, HJ3, BK218, BK219, BK220, HB⟩ := hcut
  cases kq with
  | zero => exact absurd HA.out (by simp [spec_LogPut.j0])
  | succ kj3 =>
   have H := HA.out
   clear HA
   simp only [spec_LogPut.j0] at H
   by_cases c17 : x22_3 = true
   ·subst c17
    rw [if_pos rfl] at H
    simp only [Option.some.injEq, Prod.mk.injEq] at H
    obtain ⟨rfl, rfl, rfl, rfl⟩ := H
    have hnb18 := NB220_218.out
    have hnc18 := NB218_220.out
    have hnb19 := NB220_219.out
    have hnc19 := NB219_220.out
    obtain ⟨hcz20_0, hcz20_1, hcz20_2, hfz20_0, hfz20_1, hfz20_2⟩ := bc3 BK220
    go_wp2
    refine bodyPost_ret (results_ct rfl _ _ gb220 40 #[.int .i64 0, .int .i64 0, .slice none 0 0] (0, 0) _ rfl (by (with_reducible repeat (first | refine blk_drewN ?_ _ | refine blk_drew ?_ | refine blk_alloc ?_ _)); refine blk_put (cs := #[.int .i64 0, .int .i64 0, .slice none 0 0]) ?_ 2 _ rfl; (with_reducible repeat (first | refine blk_drewN ?_ _ | refine blk_drew ?_ | refine blk_alloc ?_ _)); refine blk_put (cs := #[.int .i64 0, .int .i64 0, .slice none 0 0]) ?_ 1 _ rfl; (with_reducible repeat (first | refine blk_drewN ?_ _ | refine blk_drew ?_ | refine blk_alloc ?_ _)); refine blk_put (cs := #[.int .i64 0, .int .i64 0, .slice none 0 0]) ?_ 0 _ rfl; (with_reducible repeat (first | refine blk_drewN ?_ _ | refine blk_drew ?_ | refine blk_alloc ?_ _)); exact BK220.out) Try.underlying40 rfl (by kernel_rfl)) rfl ?_
    exact ⟨_, by first | rfl | (simp [errW_none, errW_some] <;> rfl) | (simp [*, errW_none, errW_some] <;> rfl), by first | exact Kd.R_nil _ _ _ _ _ | exact Kd.N_nil _ _ _ _ _ | exact Kd.V_nil _ _ _ _ _ | exact Kd.Q_nil _ _ _ _ _ | exact Kd.S_nil _ _ _ _ _, bt HB⟩
   ·replace c17 := Bool.eq_false_iff.mpr c17
    subst c17
    rw [if_neg nf] at H
    obtain ⟨y224, hy224⟩ : ∃ y_ : List (S89), y_ = (([] : List (S89))) := ⟨_, rfl⟩
    first | replace H := bs hy224 H | rw [← hy224] at H
    have Ny224 := Aside0.mk hy224
    clear hy224
    obtain ⟨ji21, hji21⟩ : ∃ j_ : Int, (wrap64 ((wrap64 (a1 - a0_0)) - 1)) = j_ := ⟨_, rfl⟩
    first | rw [hji21] at H | simp only [hji21] at H
    have hji21w : (IntKind.i64.wrap ((wrap64 (a1 - a0_0)) - 1)) = ji21 := (i64_w _).trans hji21
    by_cases c22 : 0 ≤ (ji21)
    ·rw [if_pos c22] at H
     have c22b0 := eq_true c22
     have c22b1 : decide (0 ≤ (ji21)) = true := decide_eq_true c22
     clear c22
     by_cases c23 : (ji21) ≤ (l0_2.length : Int)
     ·rw [if_pos c23] at H
      have c23b0 := eq_true c23
      have c23b1 : decide ((ji21) ≤ (l0_2.length : Int)) = true := decide_eq_true c23
      clear c23
      obtain ⟨y227, hy227⟩ : ∃ y_ : List (S89), y_ = (l0_2.take ((ji21) : Int).toNat) := ⟨_, rfl⟩
      first | replace H := bs hy227 H | rw [← hy227] at H
      have Ny227 := Aside0.mk hy227
      clear hy227
      by_cases c24 : y224.length + y227.length < 4398046511104
      ·rw [if_pos c24] at H
       have LMc24 := Aside0.mk c24
       clear c24
       obtain ⟨y231, hy231⟩ : ∃ y_ : List (S89), y_ = (y224 ++ y227) := ⟨_, rfl⟩
       first | replace H := bs hy231 H | rw [← hy231] at H
       have Ny231 := Aside0.mk hy231
       clear hy231
       obtain ⟨y234, hy234⟩ : ∃ y_ : List (S89), y_ = (([(⟨a2_0, a2_1, a2_2⟩ : S89)] : List (S89))) := ⟨_, rfl⟩
       first | replace H := bs hy234 H | rw [← hy234] at H
       have Ny234 := Aside0.mk hy234
       clear hy234
       by_cases c25 : y231.length + y234.length < 4398046511104
       ·rw [if_pos c25] at H
        have LMc25 := Aside0.mk c25
        clear c25
        obtain ⟨y237, hy237⟩ : ∃ y_ : List (S89), y_ = (y231 ++ y234) := ⟨_, rfl⟩
        first | replace H := bs hy237 H | rw [← hy237] at H
        have Ny237 := Aside0.mk hy237
        clear hy237
        replace H := Option.bind_eq_some_iff.mp H
        obtain ⟨t241, A260, H⟩ := H
        try dsimp only at H
        have A26 := Aside0.mk A260
        clear A260
        by_cases c27 : t241 = true
        case' pos =>
         subst c27
         rw [if_pos rfl] at H
         simp only [Option.some.injEq, Prod.mk.injEq] at H
         obtain ⟨rfl, rfl, rfl, rfl⟩ := H
        case' neg =>
         replace c27 := Bool.eq_false_iff.mpr c27
         subst c27
         rw [if_neg nf] at H
         simp only [Option.some.injEq, Prod.mk.injEq] at H
         obtain ⟨rfl, rfl, rfl, rfl⟩ := H
        all_goals
         try go_wp2
         have n0_ := Aside0.mk (blk_drew BK218.out)
         have n1_ := Aside0.mk (blk_drew BK219.out)
         have n2_ := Aside0.mk (blk_drew BK220.out)
         have n3_ := Aside0.mk (below_drew1 HB.out)
         clear BK218 BK219 BK220 HB
         revert n0_ n1_ n2_ n3_
         intro BK218 BK219 BK220 HB
         have q29 : ((ji21) : Int) ≤ ((l0_2.length : Int) : Int) := da
         obtain ⟨i029, hi029, _, hsz29, _⟩ := info_parts info89
         have hroom29 : l0_2.length ≤ c0_2 := HC0_2.out
         have hC29 : Kd.C k89 _ A0_2 l0_2.length l0_2 := HR0_2.out
         have hcut29 := cut_to (P := Try.prog) 38 89 .i64 Try.underlying38 hi029 A0_2 l0_2.length c0_2 (ji21) (da) q29 hroom29
         have hr29 := Kd.C_take (m := ((ji21) : Int).toNat) hC29 (by omega)
         have hy29 : y227.length = ((ji21) : Int).toNat := (by rw [Ny227.out, List.length_take]; omega)
         rw [← Ny227.out] at hr29
         rw [← hy29] at hcut29
         have HR230 := Aside0.mk hr29
         have HC230 := Aside0.mk (show y227.length ≤ c0_2 from by omega)
         clear hr29 hC29 hroom29 hi029 hsz29
         have KY29 := Aside0.mk hy29
         clear hy29
         replace q29 := eq_true q29
         refine start_ (n := 20) (S := fun w' => w'.cell? ⟨gb218, 0, none⟩ = some (.int .i64 a0_0) ∧ w'.cell? ⟨gb218, 1, none⟩ = some (.int .i64 a0_1) ∧ w'.cell? ⟨gb218, 2, none⟩ = some (.slice A0_2 l0_2.length c0_2) ∧ w'.cell? ⟨gb219, 0, none⟩ = some (.int .i64 a2_0) ∧ w'.cell? ⟨gb219, 1, none⟩ = some (.int .i64 a2_1) ∧ w'.cell? ⟨gb219, 2, none⟩ = some (.string a2_2)) (ds := []) #[false, false, false, false, false, false, false, false, false, false, false, false, false, false, false, false, false, false, false, false] (by kernel_rfl) rfl rfl ⟨bc BK218 0, bc BK218 1, bc BK218 2, bc BK219 0, bc BK219 1, bc BK219 2⟩ (fun hHeld => ?_); refine with_tabW spec_LogPut.tab3 spec_LogPut.bits3 (fun HT_ HW_ => ?_)
         generalize wc.drew = w28 at BK218 BK219 BK220 HB HR230 hHeld ⊢
         refine pu HT_ 0 (some 24) ?_
         refine pu HT_ 2 (some 26) ?_
         refine pu HT_ 5 (some 29) ?_
         refine pu HT_ 7 (some 31) ?_
         refine pu HT_ 8 (some 32) ?_
         refine take_ (i := 1) (N := some 25) (v := ?_) (a' := ?_) #[true, true, true, false, false, true, false, true, true, false, false, false, false, false, false, false, false, false, false, false] rfl rfl (take_ofW HT_.out HW_.out (by kernel_rfl)) (fun _ _ _ h => h) (Or.inl ⟨by rfl, ?_⟩) hHeld ?_ ?_
         rotate_left
         ·rintro w' ⟨s0, s1, s2, s3, s4, s5⟩
          go_simp
          with_reducible rfl
         rotate_left
         ·simp only [Act.put, zA, zB, zC, i64_w, i32_w]
          rfl
         refine take_ (i := 3) (N := some 27) (v := ?_) (a' := ?_) #[true, true, true, true, false, true, false, true, true, false, false, false, false, false, false, false, false, false, false, false] rfl rfl (take_ofW HT_.out HW_.out (by kernel_rfl)) (fun _ _ _ h => h) (Or.inl ⟨by rfl, ?_⟩) hHeld ?_ ?_
         rotate_left
         ·rintro w' ⟨s0, s1, s2, s3, s4, s5⟩
          go_simp
          with_reducible rfl
         rotate_left
         ·simp only [Act.put, zA, zB, zC, i64_w, i32_w]
          rfl
         refine take_ (i := 6) (N := some 30) (v := ?_) (a' := ?_) #[true, true, true, true, false, true, true, true, true, false, false, false, false, false, false, false, false, false, false, false] rfl rfl (take_ofW HT_.out HW_.out (by kernel_rfl)) (fun _ _ _ h => h) (Or.inl ⟨by rfl, ?_⟩) hHeld ?_ ?_
         rotate_left
         ·rintro w' ⟨s0, s1, s2, s3, s4, s5⟩
          go_simp
          with_reducible rfl
         rotate_left
         ·simp only [Act.put, zA, zB, zC, i64_w, i32_w]
          rfl
         refine take_ (i := 9) (N := some 33) (v := ?_) (a' := ?_) #[true, true, true, true, false, true, true, true, true, true, false, false, false, false, false, false, false, false, false, false] rfl rfl (take_ofW HT_.out HW_.out (by kernel_rfl)) (fun _ _ _ h => h) (Or.inl ⟨by rfl, ?_⟩) hHeld ?_ ?_
         rotate_left
         ·rintro w' ⟨s0, s1, s2, s3, s4, s5⟩
          go_simp
          with_reducible rfl
         rotate_left
         ·simp only [Act.put, zA, zB, zC, i64_w, i32_w]
          rfl
         refine pu HT_ 10 (some 34) ?_
         refine pu HT_ 11 (some 35) ?_
         refine pu HT_ 12 (some 36) ?_
         refine take_ (i := 14) (N := some 38) (v := ?_) (a' := ?_) #[true, true, true, true, false, true, true, true, true, true, true, true, true, false, true, false, false, false, false, false] rfl rfl (take_ofW HT_.out HW_.out (by kernel_rfl)) (fun _ _ _ h => h) (Or.inl ⟨by rfl, ?_⟩) hHeld ?_ ?_
         rotate_left
         ·rintro w' ⟨s0, s1, s2, s3, s4, s5⟩
          go_simp
          with_reducible rfl
         rotate_left
         ·simp only [Act.put, zA, zB, zC, i64_w, i32_w]
          rfl
         refine join_ (σ := Value × Value × Value × Value × Nat) 1 #[true, true, true, true, true, true, true, true, true, true, true, true, true, true, true, true, true, true, true, false] (fun s_ => [(28, s_.1), (37, s_.2.1), (39, s_.2.2.1), (40, s_.2.2.2.1), (8, .pointer (some ⟨s_.2.2.2.2, 0, none⟩)), (41, .agg #[.int .i64 a0_0, .int .i64 a0_1, s_.2.2.2.1])]) (fun s_ w' => (w'.cell? ⟨gb218, 0, none⟩ = some (.int .i64 a0_0) ∧ w'.cell? ⟨gb218, 1, none⟩ = some (.int .i64 a0_1) ∧ w'.cell? ⟨gb218, 2, none⟩ = some (.slice A0_2 l0_2.length c0_2) ∧ w'.cell? ⟨gb219, 0, none⟩ = some (.int .i64 a2_0) ∧ w'.cell? ⟨gb219, 1, none⟩ = some (.int .i64 a2_1) ∧ w'.cell? ⟨gb219, 2, none⟩ = some (.string a2_2)) ∧ (Kd.R k89 89 w' w.heap.size (fun k_ => some k_ ≠ (s_.2.2.2.1 : Value).ownBlock ∧ k_ ≠ gb219) s_.2.2.1 y234) ∧ (Kd.R k89 89 w' w.heap.size (fun k_ => some k_ ≠ (s_.2.2.1 : Value).ownBlock ∧ k_ ≠ gb219) s_.2.2.2.1 y237) ∧ (w'.heap[gb218]? = some (.cells #[.int .i64 a0_0, .int .i64 a0_1, .slice A0_2 l0_2.length c0_2] 40 (0, 0))) ∧ (w'.heap[gb219]? = some (.cells #[.int .i64 a2_0, .int .i64 a2_1, .string a2_2] 89 (0, 0))) ∧ (w'.heap[gb220]? = some (.cells #[.int .i64 0, .int .i64 0, .slice none 0 0] 40 (0, 0))) ∧ (w'.heap[s_.2.2.2.2]? = some (.cells #[.int .i64 0, .int .i64 0, .slice none 0 0] 40 (0, 0))) ∧ (w.heap.size ≤ s_.2.2.2.2) ∧ (w.heap.size ≤ s_.2.2.2.2) ∧ (gb218 ≠ s_.2.2.2.2) ∧ (s_.2.2.2.2 ≠ gb218) ∧ (gb219 ≠ s_.2.2.2.2) ∧ (s_.2.2.2.2 ≠ gb219) ∧ (gb220 ≠ s_.2.2.2.2) ∧ (s_.2.2.2.2 ≠ gb220) ∧ (Below w.heap.size w w')) ?_ ?_
         rotate_left
         ·intro hJ4_13_15_16_18
          refine join_ (σ := Value × Value × Value × Value) 2 #[true, true, true, true, true, true, true, true, true, true, true, true, true, true, true, true, true, true, false, false] (fun s_ => [(28, s_.1), (37, s_.2.1), (39, s_.2.2.1), (40, s_.2.2.2), (41, .agg #[.int .i64 a0_0, .int .i64 a0_1, s_.2.2.2])]) (fun s_ w' => (w'.cell? ⟨gb218, 0, none⟩ = some (.int .i64 a0_0) ∧ w'.cell? ⟨gb218, 1, none⟩ = some (.int .i64 a0_1) ∧ w'.cell? ⟨gb218, 2, none⟩ = some (.slice A0_2 l0_2.length c0_2) ∧ w'.cell? ⟨gb219, 0, none⟩ = some (.int .i64 a2_0) ∧ w'.cell? ⟨gb219, 1, none⟩ = some (.int .i64 a2_1) ∧ w'.cell? ⟨gb219, 2, none⟩ = some (.string a2_2)) ∧ (Kd.R k89 89 w' w.heap.size (fun k_ => some k_ ≠ (s_.2.2.2 : Value).ownBlock ∧ k_ ≠ gb219) s_.2.2.1 y234) ∧ (Kd.R k89 89 w' w.heap.size (fun k_ => some k_ ≠ (s_.2.2.1 : Value).ownBlock ∧ k_ ≠ gb219) s_.2.2.2 y237) ∧ (w'.heap[gb218]? = some (.cells #[.int .i64 a0_0, .int .i64 a0_1, .slice A0_2 l0_2.length c0_2] 40 (0, 0))) ∧ (w'.heap[gb219]? = some (.cells #[.int .i64 a2_0, .int .i64 a2_1, .string a2_2] 89 (0, 0))) ∧ (w'.heap[gb220]? = some (.cells #[.int .i64 0, .int .i64 0, .slice none 0 0] 40 (0, 0))) ∧ (Below w.heap.size w w')) ?_ ?_
          rotate_left
          ·intro hJ4_13_15_16
           refine join_ (σ := Value × Value × Value × Nat) 3 #[true, true, true, true, true, true, true, true, true, true, true, true, true, true, true, true, false, false, true, false] (fun s_ => [(28, s_.1), (37, s_.2.1), (39, s_.2.2.1), (8, .pointer (some ⟨s_.2.2.2, 0, none⟩))]) (fun s_ w' => (w'.cell? ⟨gb218, 0, none⟩ = some (.int .i64 a0_0) ∧ w'.cell? ⟨gb218, 1, none⟩ = some (.int .i64 a0_1) ∧ w'.cell? ⟨gb218, 2, none⟩ = some (.slice A0_2 l0_2.length c0_2) ∧ w'.cell? ⟨gb219, 0, none⟩ = some (.int .i64 a2_0) ∧ w'.cell? ⟨gb219, 1, none⟩ = some (.int .i64 a2_1) ∧ w'.cell? ⟨gb219, 2, none⟩ = some (.string a2_2)) ∧ (Kd.R k89 89 w' w.heap.size (fun k_ => some k_ ≠ (s_.2.2.1 : Value).ownBlock ∧ k_ ≠ gb219) s_.2.1 y231) ∧ (Kd.R k89 89 w' w.heap.size (fun k_ => some k_ ≠ (s_.2.1 : Value).ownBlock ∧ k_ ≠ gb219) s_.2.2.1 y234) ∧ (w'.heap[gb218]? = some (.cells #[.int .i64 a0_0, .int .i64 a0_1, .slice A0_2 l0_2.length c0_2] 40 (0, 0))) ∧ (w'.heap[gb219]? = some (.cells #[.int .i64 a2_0, .int .i64 a2_1, .string a2_2] 89 (0, 0))) ∧ (w'.heap[gb220]? = some (.cells #[.int .i64 0, .int .i64 0, .slice none 0 0] 40 (0, 0))) ∧ (w'.heap[s_.2.2.2]? = some (.cells #[.int .i64 0, .int .i64 0, .slice none 0 0] 40 (0, 0))) ∧ (w.heap.size ≤ s_.2.2.2) ∧ (w.heap.size ≤ s_.2.2.2) ∧ (gb218 ≠ s_.2.2.2) ∧ (s_.2.2.2 ≠ gb218) ∧ (gb219 ≠ s_.2.2.2) ∧ (s_.2.2.2 ≠ gb219) ∧ (gb220 ≠ s_.2.2.2) ∧ (s_.2.2.2 ≠ gb220) ∧ (Below w.heap.size w w')) ?_ ?_
           rotate_left
           ·intro hJ4_13_15_18
            refine join_ (σ := Value × Value × Value) 4 #[true, true, true, true, true, true, true, true, true, true, true, true, true, true, true, true, false, false, false, false] (fun s_ => [(28, s_.1), (37, s_.2.1), (39, s_.2.2)]) (fun s_ w' => (w'.cell? ⟨gb218, 0, none⟩ = some (.int .i64 a0_0) ∧ w'.cell? ⟨gb218, 1, none⟩ = some (.int .i64 a0_1) ∧ w'.cell? ⟨gb218, 2, none⟩ = some (.slice A0_2 l0_2.length c0_2) ∧ w'.cell? ⟨gb219, 0, none⟩ = some (.int .i64 a2_0) ∧ w'.cell? ⟨gb219, 1, none⟩ = some (.int .i64 a2_1) ∧ w'.cell? ⟨gb219, 2, none⟩ = some (.string a2_2)) ∧ (Kd.R k89 89 w' w.heap.size (fun k_ => some k_ ≠ (s_.2.2 : Value).ownBlock ∧ k_ ≠ gb219) s_.2.1 y231) ∧ (Kd.R k89 89 w' w.heap.size (fun k_ => some k_ ≠ (s_.2.1 : Value).ownBlock ∧ k_ ≠ gb219) s_.2.2 y234) ∧ (w'.heap[gb218]? = some (.cells #[.int .i64 a0_0, .int .i64 a0_1, .slice A0_2 l0_2.length c0_2] 40 (0, 0))) ∧ (w'.heap[gb219]? = some (.cells #[.int .i64 a2_0, .int .i64 a2_1, .string a2_2] 89 (0, 0))) ∧ (w'.heap[gb220]? = some (.cells #[.int .i64 0, .int .i64 0, .slice none 0 0] 40 (0, 0))) ∧ (Below w.heap.size w w')) ?_ ?_
            rotate_left
            ·intro hJ4_13_15
             refine join_ (σ := Value × Value × Nat) 4 #[true, true, true, true, true, true, true, true, true, true, true, true, true, true, true, false, false, false, true, false] (fun s_ => [(28, s_.1), (37, s_.2.1), (8, .pointer (some ⟨s_.2.2, 0, none⟩))]) (fun s_ w' => (w'.cell? ⟨gb218, 0, none⟩ = some (.int .i64 a0_0) ∧ w'.cell? ⟨gb218, 1, none⟩ = some (.int .i64 a0_1) ∧ w'.cell? ⟨gb218, 2, none⟩ = some (.slice A0_2 l0_2.length c0_2) ∧ w'.cell? ⟨gb219, 0, none⟩ = some (.int .i64 a2_0) ∧ w'.cell? ⟨gb219, 1, none⟩ = some (.int .i64 a2_1) ∧ w'.cell? ⟨gb219, 2, none⟩ = some (.string a2_2)) ∧ (Kd.R k89 89 w' w.heap.size (fun k_ => k_ ≠ gb219) s_.2.1 y231) ∧ (w'.heap[gb218]? = some (.cells #[.int .i64 a0_0, .int .i64 a0_1, .slice A0_2 l0_2.length c0_2] 40 (0, 0))) ∧ (w'.heap[gb219]? = some (.cells #[.int .i64 a2_0, .int .i64 a2_1, .string a2_2] 89 (0, 0))) ∧ (w'.heap[gb220]? = some (.cells #[.int .i64 0, .int .i64 0, .slice none 0 0] 40 (0, 0))) ∧ (w'.heap[s_.2.2]? = some (.cells #[.int .i64 0, .int .i64 0, .slice none 0 0] 40 (0, 0))) ∧ (w.heap.size ≤ s_.2.2) ∧ (w.heap.size ≤ s_.2.2) ∧ (gb218 ≠ s_.2.2) ∧ (s_.2.2 ≠ gb218) ∧ (gb219 ≠ s_.2.2) ∧ (s_.2.2 ≠ gb219) ∧ (gb220 ≠ s_.2.2) ∧ (s_.2.2 ≠ gb220) ∧ (Below w.heap.size w w')) ?_ ?_
             rotate_left
             ·intro hJ4_13_18
              refine join_ (σ := Value × Value × Nat) 4 #[true, true, true, true, true, true, true, true, true, true, true, true, true, false, true, true, false, false, true, false] (fun s_ => [(28, s_.1), (39, s_.2.1), (8, .pointer (some ⟨s_.2.2, 0, none⟩))]) (fun s_ w' => (w'.cell? ⟨gb218, 0, none⟩ = some (.int .i64 a0_0) ∧ w'.cell? ⟨gb218, 1, none⟩ = some (.int .i64 a0_1) ∧ w'.cell? ⟨gb218, 2, none⟩ = some (.slice A0_2 l0_2.length c0_2) ∧ w'.cell? ⟨gb219, 0, none⟩ = some (.int .i64 a2_0) ∧ w'.cell? ⟨gb219, 1, none⟩ = some (.int .i64 a2_1) ∧ w'.cell? ⟨gb219, 2, none⟩ = some (.string a2_2)) ∧ (Kd.R k89 89 w' w.heap.size (fun k_ => some k_ ≠ (s_.2.1 : Value).ownBlock ∧ k_ ≠ gb219) s_.1 y224) ∧ (Kd.R k89 89 w' w.heap.size (fun k_ => some k_ ≠ (s_.1 : Value).ownBlock ∧ k_ ≠ gb219) s_.2.1 y234) ∧ (w'.heap[gb218]? = some (.cells #[.int .i64 a0_0, .int .i64 a0_1, .slice A0_2 l0_2.length c0_2] 40 (0, 0))) ∧ (w'.heap[gb219]? = some (.cells #[.int .i64 a2_0, .int .i64 a2_1, .string a2_2] 89 (0, 0))) ∧ (w'.heap[gb220]? = some (.cells #[.int .i64 0, .int .i64 0, .slice none 0 0] 40 (0, 0))) ∧ (w'.heap[s_.2.2]? = some (.cells #[.int .i64 0, .int .i64 0, .slice none 0 0] 40 (0, 0))) ∧ (w.heap.size ≤ s_.2.2) ∧ (w.heap.size ≤ s_.2.2) ∧ (gb218 ≠ s_.2.2) ∧ (s_.2.2 ≠ gb218) ∧ (gb219 ≠ s_.2.2) ∧ (s_.2.2 ≠ gb219) ∧ (gb220 ≠ s_.2.2) ∧ (s_.2.2 ≠ gb220) ∧ (Below w.heap.size w w')) ?_ ?_
              rotate_left
              ·intro hJ4_15_18
               refine join_ (σ := Value × Value) 5 #[true, true, true, true, true, true, true, true, true, true, true, true, true, true, true, false, false, false, false, false] (fun s_ => [(28, s_.1), (37, s_.2)]) (fun s_ w' => (w'.cell? ⟨gb218, 0, none⟩ = some (.int .i64 a0_0) ∧ w'.cell? ⟨gb218, 1, none⟩ = some (.int .i64 a0_1) ∧ w'.cell? ⟨gb218, 2, none⟩ = some (.slice A0_2 l0_2.length c0_2) ∧ w'.cell? ⟨gb219, 0, none⟩ = some (.int .i64 a2_0) ∧ w'.cell? ⟨gb219, 1, none⟩ = some (.int .i64 a2_1) ∧ w'.cell? ⟨gb219, 2, none⟩ = some (.string a2_2)) ∧ (Kd.R k89 89 w' w.heap.size (fun k_ => k_ ≠ gb219) s_.2 y231) ∧ (w'.heap[gb218]? = some (.cells #[.int .i64 a0_0, .int .i64 a0_1, .slice A0_2 l0_2.length c0_2] 40 (0, 0))) ∧ (w'.heap[gb219]? = some (.cells #[.int .i64 a2_0, .int .i64 a2_1, .string a2_2] 89 (0, 0))) ∧ (w'.heap[gb220]? = some (.cells #[.int .i64 0, .int .i64 0, .slice none 0 0] 40 (0, 0))) ∧ (Below w.heap.size w w')) ?_ ?_
               rotate_left
               ·intro hJ4_13
                refine join_ (σ := Value × Value) 5 #[true, true, true, true, true, true, true, true, true, true, true, true, true, false, true, true, false, false, false, false] (fun s_ => [(28, s_.1), (39, s_.2)]) (fun s_ w' => (w'.cell? ⟨gb218, 0, none⟩ = some (.int .i64 a0_0) ∧ w'.cell? ⟨gb218, 1, none⟩ = some (.int .i64 a0_1) ∧ w'.cell? ⟨gb218, 2, none⟩ = some (.slice A0_2 l0_2.length c0_2) ∧ w'.cell? ⟨gb219, 0, none⟩ = some (.int .i64 a2_0) ∧ w'.cell? ⟨gb219, 1, none⟩ = some (.int .i64 a2_1) ∧ w'.cell? ⟨gb219, 2, none⟩ = some (.string a2_2)) ∧ (Kd.R k89 89 w' w.heap.size (fun k_ => some k_ ≠ (s_.2 : Value).ownBlock ∧ k_ ≠ gb219) s_.1 y224) ∧ (Kd.R k89 89 w' w.heap.size (fun k_ => some k_ ≠ (s_.1 : Value).ownBlock ∧ k_ ≠ gb219) s_.2 y234) ∧ (w'.heap[gb218]? = some (.cells #[.int .i64 a0_0, .int .i64 a0_1, .slice A0_2 l0_2.length c0_2] 40 (0, 0))) ∧ (w'.heap[gb219]? = some (.cells #[.int .i64 a2_0, .int .i64 a2_1, .string a2_2] 89 (0, 0))) ∧ (w'.heap[gb220]? = some (.cells #[.int .i64 0, .int .i64 0, .slice none 0 0] 40 (0, 0))) ∧ (Below w.heap.size w w')) ?_ ?_
                rotate_left
                ·intro hJ4_15
                 refine join_ (σ := Value × Nat) 5 #[true, true, true, true, true, true, true, true, true, true, true, true, true, false, true, false, false, false, true, false] (fun s_ => [(28, s_.1), (8, .pointer (some ⟨s_.2, 0, none⟩))]) (fun s_ w' => (w'.cell? ⟨gb218, 0, none⟩ = some (.int .i64 a0_0) ∧ w'.cell? ⟨gb218, 1, none⟩ = some (.int .i64 a0_1) ∧ w'.cell? ⟨gb218, 2, none⟩ = some (.slice A0_2 l0_2.length c0_2) ∧ w'.cell? ⟨gb219, 0, none⟩ = some (.int .i64 a2_0) ∧ w'.cell? ⟨gb219, 1, none⟩ = some (.int .i64 a2_1) ∧ w'.cell? ⟨gb219, 2, none⟩ = some (.string a2_2)) ∧ (Kd.R k89 89 w' w.heap.size (fun k_ => k_ ≠ gb219) s_.1 y224) ∧ (w'.heap[gb218]? = some (.cells #[.int .i64 a0_0, .int .i64 a0_1, .slice A0_2 l0_2.length c0_2] 40 (0, 0))) ∧ (w'.heap[gb219]? = some (.cells #[.int .i64 a2_0, .int .i64 a2_1, .string a2_2] 89 (0, 0))) ∧ (w'.heap[gb220]? = some (.cells #[.int .i64 0, .int .i64 0, .slice none 0 0] 40 (0, 0))) ∧ (w'.heap[s_.2]? = some (.cells #[.int .i64 0, .int .i64 0, .slice none 0 0] 40 (0, 0))) ∧ (w.heap.size ≤ s_.2) ∧ (w.heap.size ≤ s_.2) ∧ (gb218 ≠ s_.2) ∧ (s_.2 ≠ gb218) ∧ (gb219 ≠ s_.2) ∧ (s_.2 ≠ gb219) ∧ (gb220 ≠ s_.2) ∧ (s_.2 ≠ gb220) ∧ (Below w.heap.size w w')) ?_ ?_
                 rotate_left
                 ·intro hJ4_18
                  refine join_ (σ := Value × Nat) 5 #[true, true, true, true, false, true, true, true, true, true, true, true, true, false, true, true, false, false, true, false] (fun s_ => [(39, s_.1), (8, .pointer (some ⟨s_.2, 0, none⟩))]) (fun s_ w' => (w'.cell? ⟨gb218, 0, none⟩ = some (.int .i64 a0_0) ∧ w'.cell? ⟨gb218, 1, none⟩ = some (.int .i64 a0_1) ∧ w'.cell? ⟨gb218, 2, none⟩ = some (.slice A0_2 l0_2.length c0_2) ∧ w'.cell? ⟨gb219, 0, none⟩ = some (.int .i64 a2_0) ∧ w'.cell? ⟨gb219, 1, none⟩ = some (.int .i64 a2_1) ∧ w'.cell? ⟨gb219, 2, none⟩ = some (.string a2_2)) ∧ (Kd.R k89 89 w' w.heap.size (fun k_ => k_ ≠ gb219) s_.1 y234) ∧ (w'.heap[gb218]? = some (.cells #[.int .i64 a0_0, .int .i64 a0_1, .slice A0_2 l0_2.length c0_2] 40 (0, 0))) ∧ (w'.heap[gb219]? = some (.cells #[.int .i64 a2_0, .int .i64 a2_1, .string a2_2] 89 (0, 0))) ∧ (w'.heap[gb220]? = some (.cells #[.int .i64 0, .int .i64 0, .slice none 0 0] 40 (0, 0))) ∧ (w'.heap[s_.2]? = some (.cells #[.int .i64 0, .int .i64 0, .slice none 0 0] 40 (0, 0))) ∧ (w.heap.size ≤ s_.2) ∧ (w.heap.size ≤ s_.2) ∧ (gb218 ≠ s_.2) ∧ (s_.2 ≠ gb218) ∧ (gb219 ≠ s_.2) ∧ (s_.2 ≠ gb219) ∧ (gb220 ≠ s_.2) ∧ (s_.2 ≠ gb220) ∧ (Below w.heap.size w w')) ?_ ?_
                  rotate_left
                  ·intro hJ15_18
                   refine join_ (σ := Value) 6 #[true, true, true, true, true, true, true, true, true, true, true, true, true, false, true, false, false, false, false, false] (fun s_ => [(28, s_)]) (fun s_ w' => (w'.cell? ⟨gb218, 0, none⟩ = some (.int .i64 a0_0) ∧ w'.cell? ⟨gb218, 1, none⟩ = some (.int .i64 a0_1) ∧ w'.cell? ⟨gb218, 2, none⟩ = some (.slice A0_2 l0_2.length c0_2) ∧ w'.cell? ⟨gb219, 0, none⟩ = some (.int .i64 a2_0) ∧ w'.cell? ⟨gb219, 1, none⟩ = some (.int .i64 a2_1) ∧ w'.cell? ⟨gb219, 2, none⟩ = some (.string a2_2)) ∧ (Kd.R k89 89 w' w.heap.size (fun k_ => k_ ≠ gb219) s_ y224) ∧ (w'.heap[gb218]? = some (.cells #[.int .i64 a0_0, .int .i64 a0_1, .slice A0_2 l0_2.length c0_2] 40 (0, 0))) ∧ (w'.heap[gb219]? = some (.cells #[.int .i64 a2_0, .int .i64 a2_1, .string a2_2] 89 (0, 0))) ∧ (w'.heap[gb220]? = some (.cells #[.int .i64 0, .int .i64 0, .slice none 0 0] 40 (0, 0))) ∧ (Below w.heap.size w w')) ?_ ?_
                   rotate_left
                   ·intro hJ4
                    refine join_ (σ := Value) 6 #[true, true, true, true, false, true, true, true, true, true, true, true, true, false, true, true, false, false, false, false] (fun s_ => [(39, s_)]) (fun s_ w' => (w'.cell? ⟨gb218, 0, none⟩ = some (.int .i64 a0_0) ∧ w'.cell? ⟨gb218, 1, none⟩ = some (.int .i64 a0_1) ∧ w'.cell? ⟨gb218, 2, none⟩ = some (.slice A0_2 l0_2.length c0_2) ∧ w'.cell? ⟨gb219, 0, none⟩ = some (.int .i64 a2_0) ∧ w'.cell? ⟨gb219, 1, none⟩ = some (.int .i64 a2_1) ∧ w'.cell? ⟨gb219, 2, none⟩ = some (.string a2_2)) ∧ (Kd.R k89 89 w' w.heap.size (fun k_ => k_ ≠ gb219) s_ y234) ∧ (w'.heap[gb218]? = some (.cells #[.int .i64 a0_0, .int .i64 a0_1, .slice A0_2 l0_2.length c0_2] 40 (0, 0))) ∧ (w'.heap[gb219]? = some (.cells #[.int .i64 a2_0, .int .i64 a2_1, .string a2_2] 89 (0, 0))) ∧ (w'.heap[gb220]? = some (.cells #[.int .i64 0, .int .i64 0, .slice none 0 0] 40 (0, 0))) ∧ (Below w.heap.size w w')) ?_ ?_
                    rotate_left
                    ·intro hJ15
                     refine join_ (σ := Nat) 6 #[true, true, true, true, false, true, true, true, true, true, true, true, true, false, true, false, false, false, true, false] (fun s_ => [(8, .pointer (some ⟨s_, 0, none⟩))]) (fun s_ w' => (w'.cell? ⟨gb218, 0, none⟩ = some (.int .i64 a0_0) ∧ w'.cell? ⟨gb218, 1, none⟩ = some (.int .i64 a0_1) ∧ w'.cell? ⟨gb218, 2, none⟩ = some (.slice A0_2 l0_2.length c0_2) ∧ w'.cell? ⟨gb219, 0, none⟩ = some (.int .i64 a2_0) ∧ w'.cell? ⟨gb219, 1, none⟩ = some (.int .i64 a2_1) ∧ w'.cell? ⟨gb219, 2, none⟩ = some (.string a2_2)) ∧ (w'.heap[gb218]? = some (.cells #[.int .i64 a0_0, .int .i64 a0_1, .slice A0_2 l0_2.length c0_2] 40 (0, 0))) ∧ (w'.heap[gb219]? = some (.cells #[.int .i64 a2_0, .int .i64 a2_1, .string a2_2] 89 (0, 0))) ∧ (w'.heap[gb220]? = some (.cells #[.int .i64 0, .int .i64 0, .slice none 0 0] 40 (0, 0))) ∧ (w'.heap[s_]? = some (.cells #[.int .i64 0, .int .i64 0, .slice none 0 0] 40 (0, 0))) ∧ (w.heap.size ≤ s_) ∧ (w.heap.size ≤ s_) ∧ (gb218 ≠ s_) ∧ (s_ ≠ gb218) ∧ (gb219 ≠ s_) ∧ (s_ ≠ gb219) ∧ (gb220 ≠ s_) ∧ (s_ ≠ gb220) ∧ (Below w.heap.size w w')) ?_ ?_
                     rotate_left
                     ·intro hJ18
                      refine three_ (i := 4) (j := 15) (k := 18) (Ni := some 28) (Nj := some 39) (Nk := some 8) #[true, true, true, true, true, true, true, true, true, true, true, true, true, false, true, false, false, false, false, false] #[true, true, true, true, false, true, true, true, true, true, true, true, true, false, true, true, false, false, false, false] #[true, true, true, true, false, true, true, true, true, true, true, true, true, false, true, false, false, false, true, false] rfl rfl rfl rfl rfl rfl (three_of HT_.out (by kernel_rfl)) (by decide) (by decide) (by decide) (fun K hK => ?_) (fun K hK => ?_) (fun K hK => ?_)
                      ·skip
                       refine Kd.R_lit_step k89 _ 89 ?hg (N := 28) ?hd (xs := ([] : List (S89))) (inner := []) (ok := fun _ => True) (okp := fun _ => True) ?hr ?hp (fun _ hk => hk) trivial (Below.refl _ _) (Nat.le_refl _) (by simp) ?_; (case hd => rfl); (case hg => rfl); (case hr => first | (go_simp; done) | (go_simp; rfl)); (case hp => exact (Reps.none _ _))
                       intro v225 w30 ho31 hb hg_ hnew_
                       clear hg_ hnew_
                       (first | rw [← Ny224.out] at ho31 | (simp only [Int.reduceToNat] at ho31; rw [← Ny224.out] at ho31))
                       have n0_ := Aside0.mk (Kd.R_lower (Kd.R_newB ho31 (g := gb219) (o := .cells #[.int .i64 a2_0, .int .i64 a2_1, .string a2_2] 89 (0, 0)) (bk BK219)) (below_size (bt HB)))
                       have n1_ := bb BK218 hb
                       have n2_ := bb BK219 hb
                       have n3_ := bb BK220 hb
                       have n4_ := Aside0.mk (below_step (bt HB) hb)
                       clear BK218 BK219 BK220 HB
                       revert n0_ n1_ n2_ n3_ n4_
                       intro HO226 BK218 BK219 BK220 HB
                       clear hb ho31
                       refine hK.out _ _ ⟨bc BK218 0, bc BK218 1, bc BK218 2, bc BK219 0, bc BK219 1, bc BK219 2⟩ (fun hHeld => ?_)
                       clear hK K
                       refine norm_ (a' := ?_) ?_ ?_
                       rotate_left
                       ·show Act.put _ (some 28) _ = _
                        simp only [Act.put, zA, zB, zC, i64_w, i32_w]
                        rfl
                       exact norm_ (by first | (simp only [putAll, Act.put, zA, zB, zC]; done) | (simp only [putAll, Act.put, zA, zB, zC]; rfl)) (hJ4 (v225) _ ⟨hHeld, (by (with_reducible repeat (first | apply Kd.R_alloc | apply Kd.R_drewN | apply Kd.R_drew)); exact Kd.R_mono HO226.out (fun _ hk => hk.2)), (bk BK218), (bk BK219), (bk BK220), (bt HB)⟩)
                      ·skip
                       refine Kd.R_lit_step k89 _ 89 ?hg (N := 39) ?hd (xs := ([(⟨a2_0, a2_1, a2_2⟩ : S89)] : List (S89))) (inner := [.int .i64 a2_0, .int .i64 a2_1, .string a2_2]) (ok := fun _ => True) (okp := fun _ => True) ?hr ?hp (fun _ hk => hk) trivial (Below.refl _ _) (Nat.le_refl _) (by simp) ?_; (case hd => rfl); (case hg => rfl); (case hr => first | (go_simp; done) | (go_simp; rfl)); (case hp => exact (Reps.c3 (show Kd.M k89 _ _ _ (⟨a2_0, a2_1, a2_2⟩ : S89) [.int .i64 a2_0, .int .i64 a2_1, .string a2_2] from (k89_mkM _ _ _ (⟨a2_0, a2_1, a2_2⟩ : S89) )) (Reps.none _ _)))
                       intro v235 w30 ho31 hb hg_ hnew_
                       clear hg_ hnew_
                       (first | rw [← Ny234.out] at ho31 | (simp only [Int.reduceToNat] at ho31; rw [← Ny234.out] at ho31))
                       have n0_ := Aside0.mk (Kd.R_lower (Kd.R_newB ho31 (g := gb219) (o := .cells #[.int .i64 a2_0, .int .i64 a2_1, .string a2_2] 89 (0, 0)) (bk BK219)) (below_size (bt HB)))
                       have n1_ := bb BK218 hb
                       have n2_ := bb BK219 hb
                       have n3_ := bb BK220 hb
                       have n4_ := Aside0.mk (below_step (bt HB) hb)
                       clear BK218 BK219 BK220 HB
                       revert n0_ n1_ n2_ n3_ n4_
                       intro HO236 BK218 BK219 BK220 HB
                       clear hb ho31
                       refine hK.out _ _ ⟨bc BK218 0, bc BK218 1, bc BK218 2, bc BK219 0, bc BK219 1, bc BK219 2⟩ (fun hHeld => ?_)
                       clear hK K
                       refine norm_ (a' := ?_) ?_ ?_
                       rotate_left
                       ·show Act.put _ (some 39) _ = _
                        simp only [Act.put, zA, zB, zC, i64_w, i32_w]
                        rfl
                       exact norm_ (by first | (simp only [putAll, Act.put, zA, zB, zC]; done) | (simp only [putAll, Act.put, zA, zB, zC]; rfl)) (hJ15 (v235) _ ⟨hHeld, (by (with_reducible repeat (first | apply Kd.R_alloc | apply Kd.R_drewN | apply Kd.R_drew)); exact Kd.R_mono HO236.out (fun _ hk => hk.2)), (bk BK218), (bk BK219), (bk BK220), (bt HB)⟩)
                      ·skip
                       refine box_step ?hg (N := 8) ?hd (cs := #[.int .i64 0, .int .i64 0, .slice none 0 0]) (t := 40) ?hr ?_; (case hd => rfl); (case hg => rfl); (case hr => first | (go_simp; done) | (go_simp; rfl))
                       intro gb240 hg w30 hbox hb
                       have n0_ := bb BK218 hb
                       have n1_ := bb BK219 hb
                       have n2_ := bb BK220 hb
                       have n3_ := Aside0.mk (below_step (bt HB) hb)
                       have n4_ := Aside0.mk (hbox)
                       have n5_ := ge_ hg HB
                       have n6_ := ge_ hg HB
                       have n7_ := nl_ hg BK218
                       have n8_ := nr_ hg BK218
                       have n9_ := nl_ hg BK219
                       have n10_ := nr_ hg BK219
                       have n11_ := nl_ hg BK220
                       have n12_ := nr_ hg BK220
                       clear BK218 BK219 BK220 HB
                       revert n0_ n1_ n2_ n3_ n4_ n5_ n6_ n7_ n8_ n9_ n10_ n11_ n12_
                       intro BK218 BK219 BK220 HB BK240 GW240 GE240 NB218_240 NB240_218 NB219_240 NB240_219 NB220_240 NB240_220
                       clear hb hbox hg
                       refine hK.out _ _ ⟨bc BK218 0, bc BK218 1, bc BK218 2, bc BK219 0, bc BK219 1, bc BK219 2⟩ (fun hHeld => ?_)
                       clear hK K
                       refine norm_ (a' := ?_) ?_ ?_
                       rotate_left
                       ·show Act.put _ (some 8) _ = _
                        simp only [Act.put, zA, zB, zC, i64_w, i32_w]
                        rfl
                       exact norm_ (by first | (simp only [putAll, Act.put, zA, zB, zC]; done) | (simp only [putAll, Act.put, zA, zB, zC]; rfl)) (hJ18 (gb240) _ ⟨hHeld, (bk BK218), (bk BK219), (bk BK220), (bk BK240), GW240.out, GE240.out, NB218_240.out, NB240_218.out, NB219_240.out, NB240_219.out, NB220_240.out, NB240_220.out, (bt HB)⟩)
                     ·skip
                      rintro gb240 w31 ⟨hS_, h0_, h1_, h2_, h3_, h4_, h5_, h6_, h7_, h8_, h9_, h10_, h11_, h12_⟩
                      have n0_ : Aside0 (w31.heap[gb218]? = some (.cells #[.int .i64 a0_0, .int .i64 a0_1, .slice A0_2 l0_2.length c0_2] 40 (0, 0))) := ⟨h0_⟩
                      have n1_ : Aside0 (w31.heap[gb219]? = some (.cells #[.int .i64 a2_0, .int .i64 a2_1, .string a2_2] 89 (0, 0))) := ⟨h1_⟩
                      have n2_ : Aside0 (w31.heap[gb220]? = some (.cells #[.int .i64 0, .int .i64 0, .slice none 0 0] 40 (0, 0))) := ⟨h2_⟩
                      have n3_ : Aside0 (w31.heap[gb240]? = some (.cells #[.int .i64 0, .int .i64 0, .slice none 0 0] 40 (0, 0))) := ⟨h3_⟩
                      have n4_ : Aside0 (w.heap.size ≤ gb240) := ⟨h4_⟩
                      have n5_ : Aside0 (w.heap.size ≤ gb240) := ⟨h5_⟩
                      have n6_ : Aside0 (gb218 ≠ gb240) := ⟨h6_⟩
                      have n7_ : Aside0 (gb240 ≠ gb218) := ⟨h7_⟩
                      have n8_ : Aside0 (gb219 ≠ gb240) := ⟨h8_⟩
                      have n9_ : Aside0 (gb240 ≠ gb219) := ⟨h9_⟩
                      have n10_ : Aside0 (gb220 ≠ gb240) := ⟨h10_⟩
                      have n11_ : Aside0 (gb240 ≠ gb220) := ⟨h11_⟩
                      have n12_ : Aside0 (Below w.heap.size w w31) := ⟨h12_⟩
                      clear BK218
                      clear BK219
                      clear BK220
                      clear HB
                      clear h0_ h1_ h2_ h3_ h4_ h5_ h6_ h7_ h8_ h9_ h10_ h11_ h12_
                      have BK218 := n0_
                      have BK219 := n1_
                      have BK220 := n2_
                      have BK240 := n3_
                      have GW240 := n4_
                      have GE240 := n5_
                      have NB218_240 := n6_
                      have NB240_218 := n7_
                      have NB219_240 := n8_
                      have NB240_219 := n9_
                      have NB220_240 := n10_
                      have NB240_220 := n11_
                      have HB := n12_
                      clear n0_ n1_ n2_ n3_ n4_ n5_ n6_ n7_ n8_ n9_ n10_ n11_ n12_
                      have hHeld : w31.cell? ⟨gb218, 0, none⟩ = some (.int .i64 a0_0) ∧ w31.cell? ⟨gb218, 1, none⟩ = some (.int .i64 a0_1) ∧ w31.cell? ⟨gb218, 2, none⟩ = some (.slice A0_2 l0_2.length c0_2) ∧ w31.cell? ⟨gb219, 0, none⟩ = some (.int .i64 a2_0) ∧ w31.cell? ⟨gb219, 1, none⟩ = some (.int .i64 a2_1) ∧ w31.cell? ⟨gb219, 2, none⟩ = some (.string a2_2) := hS_
                      refine norm_ (a' := ?_) ?_ ?_
                      rotate_left
                      ·simp only [putAll, Act.put, zA, zB, zC]
                       rfl
                      refine two_ (i := 4) (j := 15) (Ni := some 28) (Nj := some 39) #[true, true, true, true, true, true, true, true, true, true, true, true, true, false, true, false, false, false, true, false] #[true, true, true, true, false, true, true, true, true, true, true, true, true, false, true, true, false, false, true, false] rfl rfl rfl rfl (two_of HT_.out (by kernel_rfl)) (by decide) (by decide) (fun K hK => ?_) (fun K hK => ?_)
                      ·skip
                       refine Kd.R_lit_step k89 _ 89 ?hg (N := 28) ?hd (xs := ([] : List (S89))) (inner := []) (ok := fun _ => True) (okp := fun _ => True) ?hr ?hp (fun _ hk => hk) trivial (Below.refl _ _) (Nat.le_refl _) (by simp) ?_; (case hd => rfl); (case hg => rfl); (case hr => first | (go_simp; done) | (go_simp; rfl)); (case hp => exact (Reps.none _ _))
                       intro v225 w32 ho33 hb hg_ hnew_
                       clear hg_ hnew_
                       (first | rw [← Ny224.out] at ho33 | (simp only [Int.reduceToNat] at ho33; rw [← Ny224.out] at ho33))
                       have n0_ := Aside0.mk (Kd.R_lower (Kd.R_newB ho33 (g := gb219) (o := .cells #[.int .i64 a2_0, .int .i64 a2_1, .string a2_2] 89 (0, 0)) (bk BK219)) (below_size (bt HB)))
                       have n1_ := bb BK218 hb
                       have n2_ := bb BK219 hb
                       have n3_ := bb BK220 hb
                       have n4_ := bb BK240 hb
                       have n5_ := Aside0.mk (below_step (bt HB) hb)
                       clear BK218 BK219 BK220 BK240 HB
                       revert n0_ n1_ n2_ n3_ n4_ n5_
                       intro HO226 BK218 BK219 BK220 BK240 HB
                       clear hb ho33
                       refine hK.out _ _ ⟨bc BK218 0, bc BK218 1, bc BK218 2, bc BK219 0, bc BK219 1, bc BK219 2⟩ (fun hHeld => ?_)
                       clear hK K
                       refine norm_ (a' := ?_) ?_ ?_
                       rotate_left
                       ·show Act.put _ (some 28) _ = _
                        simp only [Act.put, zA, zB, zC, i64_w, i32_w]
                        rfl
                       exact norm_ (by first | (simp only [putAll, Act.put, zA, zB, zC]; done) | (simp only [putAll, Act.put, zA, zB, zC]; rfl)) (hJ4_18 (v225, gb240) _ ⟨hHeld, (by (with_reducible repeat (first | apply Kd.R_alloc | apply Kd.R_drewN | apply Kd.R_drew)); exact Kd.R_mono HO226.out (fun _ hk => hk.2)), (bk BK218), (bk BK219), (bk BK220), (bk BK240), GW240.out, GE240.out, NB218_240.out, NB240_218.out, NB219_240.out, NB240_219.out, NB220_240.out, NB240_220.out, (bt HB)⟩)
                      ·skip
                       refine Kd.R_lit_step k89 _ 89 ?hg (N := 39) ?hd (xs := ([(⟨a2_0, a2_1, a2_2⟩ : S89)] : List (S89))) (inner := [.int .i64 a2_0, .int .i64 a2_1, .string a2_2]) (ok := fun _ => True) (okp := fun _ => True) ?hr ?hp (fun _ hk => hk) trivial (Below.refl _ _) (Nat.le_refl _) (by simp) ?_; (case hd => rfl); (case hg => rfl); (case hr => first | (go_simp; done) | (go_simp; rfl)); (case hp => exact (Reps.c3 (show Kd.M k89 _ _ _ (⟨a2_0, a2_1, a2_2⟩ : S89) [.int .i64 a2_0, .int .i64 a2_1, .string a2_2] from (k89_mkM _ _ _ (⟨a2_0, a2_1, a2_2⟩ : S89) )) (Reps.none _ _)))
                       intro v235 w32 ho33 hb hg_ hnew_
                       clear hg_ hnew_
                       (first | rw [← Ny234.out] at ho33 | (simp only [Int.reduceToNat] at ho33; rw [← Ny234.out] at ho33))
                       have n0_ := Aside0.mk (Kd.R_lower (Kd.R_newB ho33 (g := gb219) (o := .cells #[.int .i64 a2_0, .int .i64 a2_1, .string a2_2] 89 (0, 0)) (bk BK219)) (below_size (bt HB)))
                       have n1_ := bb BK218 hb
                       have n2_ := bb BK219 hb
                       have n3_ := bb BK220 hb
                       have n4_ := bb BK240 hb
                       have n5_ := Aside0.mk (below_step (bt HB) hb)
                       clear BK218 BK219 BK220 BK240 HB
                       revert n0_ n1_ n2_ n3_ n4_ n5_
                       intro HO236 BK218 BK219 BK220 BK240 HB
                       clear hb ho33
                       refine hK.out _ _ ⟨bc BK218 0, bc BK218 1, bc BK218 2, bc BK219 0, bc BK219 1, bc BK219 2⟩ (fun hHeld => ?_)
                       clear hK K
                       refine norm_ (a' := ?_) ?_ ?_
                       rotate_left
                       ·show Act.put _ (some 39) _ = _
                        simp only [Act.put, zA, zB, zC, i64_w, i32_w]
                        rfl
                       exact norm_ (by first | (simp only [putAll, Act.put, zA, zB, zC]; done) | (simp only [putAll, Act.put, zA, zB, zC]; rfl)) (hJ15_18 (v235, gb240) _ ⟨hHeld, (by (with_reducible repeat (first | apply Kd.R_alloc | apply Kd.R_drewN | apply Kd.R_drew)); exact Kd.R_mono HO236.out (fun _ hk => hk.2)), (bk BK218), (bk BK219), (bk BK220), (bk BK240), GW240.out, GE240.out, NB218_240.out, NB240_218.out, NB219_240.out, NB240_219.out, NB220_240.out, NB240_220.out, (bt HB)⟩)
                    ·skip
                     rintro v235 w32 ⟨hS_, h0_, h1_, h2_, h3_, h4_⟩
                     have n0_ : Aside0 (Kd.R k89 89 w32 w.heap.size (fun k_ => k_ ≠ gb219) v235 y234) := ⟨h0_⟩
                     have n1_ : Aside0 (w32.heap[gb218]? = some (.cells #[.int .i64 a0_0, .int .i64 a0_1, .slice A0_2 l0_2.length c0_2] 40 (0, 0))) := ⟨h1_⟩
                     have n2_ : Aside0 (w32.heap[gb219]? = some (.cells #[.int .i64 a2_0, .int .i64 a2_1, .string a2_2] 89 (0, 0))) := ⟨h2_⟩
                     have n3_ : Aside0 (w32.heap[gb220]? = some (.cells #[.int .i64 0, .int .i64 0, .slice none 0 0] 40 (0, 0))) := ⟨h3_⟩
                     have n4_ : Aside0 (Below w.heap.size w w32) := ⟨h4_⟩
                     clear BK218
                     clear BK219
                     clear BK220
                     clear HB
                     clear h0_ h1_ h2_ h3_ h4_
                     have HO236 := n0_
                     have BK218 := n1_
                     have BK219 := n2_
                     have BK220 := n3_
                     have HB := n4_
                     clear n0_ n1_ n2_ n3_ n4_
                     have hHeld : w32.cell? ⟨gb218, 0, none⟩ = some (.int .i64 a0_0) ∧ w32.cell? ⟨gb218, 1, none⟩ = some (.int .i64 a0_1) ∧ w32.cell? ⟨gb218, 2, none⟩ = some (.slice A0_2 l0_2.length c0_2) ∧ w32.cell? ⟨gb219, 0, none⟩ = some (.int .i64 a2_0) ∧ w32.cell? ⟨gb219, 1, none⟩ = some (.int .i64 a2_1) ∧ w32.cell? ⟨gb219, 2, none⟩ = some (.string a2_2) := hS_
                     refine norm_ (a' := ?_) ?_ ?_
                     rotate_left
                     ·simp only [putAll, Act.put, zA, zB, zC]
                      rfl
                     refine two_ (i := 4) (j := 18) (Ni := some 28) (Nj := some 8) #[true, true, true, true, true, true, true, true, true, true, true, true, true, false, true, true, false, false, false, false] #[true, true, true, true, false, true, true, true, true, true, true, true, true, false, true, true, false, false, true, false] rfl rfl rfl rfl (two_of HT_.out (by kernel_rfl)) (by decide) (by decide) (fun K hK => ?_) (fun K hK => ?_)
                     ·skip
                      refine Kd.R_lit_step k89 _ 89 ?hg (N := 28) ?hd (xs := ([] : List (S89))) (inner := []) (ok := fun _ => True) (okp := fun _ => True) ?hr ?hp (fun _ hk => hk) trivial (Below.refl _ _) (Nat.le_refl _) (by simp) ?_; (case hd => rfl); (case hg => rfl); (case hr => first | (go_simp; done) | (go_simp; rfl)); (case hp => exact (Reps.none _ _))
                      intro v225 w33 ho34 hb hg_ hnew_
                      clear hg_ hnew_
                      (first | rw [← Ny224.out] at ho34 | (simp only [Int.reduceToNat] at ho34; rw [← Ny224.out] at ho34))
                      have n0_ := Aside0.mk (Kd.R_elder' (rk HO236) (Kd.R_base ho34) hb)
                      have n1_ := Aside0.mk (Kd.R_lower (Kd.R_newB (Kd.R_new' ho34 (Kd.R_lt (rk HO236))) (g := gb219) (o := .cells #[.int .i64 a2_0, .int .i64 a2_1, .string a2_2] 89 (0, 0)) (bk BK219)) (below_size (bt HB)))
                      have n2_ := bb BK218 hb
                      have n3_ := bb BK219 hb
                      have n4_ := bb BK220 hb
                      have n5_ := Aside0.mk (below_step (bt HB) hb)
                      clear HO236 BK218 BK219 BK220 HB
                      revert n0_ n1_ n2_ n3_ n4_ n5_
                      intro HO236 HO226 BK218 BK219 BK220 HB
                      clear hb ho34
                      refine hK.out _ _ ⟨bc BK218 0, bc BK218 1, bc BK218 2, bc BK219 0, bc BK219 1, bc BK219 2⟩ (fun hHeld => ?_)
                      clear hK K
                      refine norm_ (a' := ?_) ?_ ?_
                      rotate_left
                      ·show Act.put _ (some 28) _ = _
                       simp only [Act.put, zA, zB, zC, i64_w, i32_w]
                       rfl
                      exact norm_ (by first | (simp only [putAll, Act.put, zA, zB, zC]; done) | (simp only [putAll, Act.put, zA, zB, zC]; rfl)) (hJ4_15 (v225, v235) _ ⟨hHeld, (by (with_reducible repeat (first | apply Kd.R_alloc | apply Kd.R_drewN | apply Kd.R_drew)); exact Kd.R_mono HO226.out (fun _ hk => ⟨hk.1.2, hk.2⟩)), (by (with_reducible repeat (first | apply Kd.R_alloc | apply Kd.R_drewN | apply Kd.R_drew)); exact Kd.R_mono HO236.out (fun _ hk => ⟨hk.2, hk.1⟩)), (bk BK218), (bk BK219), (bk BK220), (bt HB)⟩)
                     ·skip
                      refine box_step ?hg (N := 8) ?hd (cs := #[.int .i64 0, .int .i64 0, .slice none 0 0]) (t := 40) ?hr ?_; (case hd => rfl); (case hg => rfl); (case hr => first | (go_simp; done) | (go_simp; rfl))
                      intro gb240 hg w33 hbox hb
                      have n0_ := rb HO236 hb
                      have n1_ := bb BK218 hb
                      have n2_ := bb BK219 hb
                      have n3_ := bb BK220 hb
                      have n4_ := Aside0.mk (below_step (bt HB) hb)
                      have n5_ := Aside0.mk (hbox)
                      have n6_ := ge_ hg HB
                      have n7_ := ge_ hg HB
                      have n8_ := nl_ hg BK218
                      have n9_ := nr_ hg BK218
                      have n10_ := nl_ hg BK219
                      have n11_ := nr_ hg BK219
                      have n12_ := nl_ hg BK220
                      have n13_ := nr_ hg BK220
                      clear HO236 BK218 BK219 BK220 HB
                      revert n0_ n1_ n2_ n3_ n4_ n5_ n6_ n7_ n8_ n9_ n10_ n11_ n12_ n13_
                      intro HO236 BK218 BK219 BK220 HB BK240 GW240 GE240 NB218_240 NB240_218 NB219_240 NB240_219 NB220_240 NB240_220
                      clear hb hbox hg
                      refine hK.out _ _ ⟨bc BK218 0, bc BK218 1, bc BK218 2, bc BK219 0, bc BK219 1, bc BK219 2⟩ (fun hHeld => ?_)
                      clear hK K
                      refine norm_ (a' := ?_) ?_ ?_
                      rotate_left
                      ·show Act.put _ (some 8) _ = _
                       simp only [Act.put, zA, zB, zC, i64_w, i32_w]
                       rfl
                      exact norm_ (by first | (simp only [putAll, Act.put, zA, zB, zC]; done) | (simp only [putAll, Act.put, zA, zB, zC]; rfl)) (hJ15_18 (v235, gb240) _ ⟨hHeld, (rk HO236), (bk BK218), (bk BK219), (bk BK220), (bk BK240), GW240.out, GE240.out, NB218_240.out, NB240_218.out, NB219_240.out, NB240_219.out, NB220_240.out, NB240_220.out, (bt HB)⟩)
                   ·skip
                    rintro v225 w32 ⟨hS_, h0_, h1_, h2_, h3_, h4_⟩
                    have n0_ : Aside0 (Kd.R k89 89 w32 w.heap.size (fun k_ => k_ ≠ gb219) v225 y224) := ⟨h0_⟩
                    have n1_ : Aside0 (w32.heap[gb218]? = some (.cells #[.int .i64 a0_0, .int .i64 a0_1, .slice A0_2 l0_2.length c0_2] 40 (0, 0))) := ⟨h1_⟩
                    have n2_ : Aside0 (w32.heap[gb219]? = some (.cells #[.int .i64 a2_0, .int .i64 a2_1, .string a2_2] 89 (0, 0))) := ⟨h2_⟩
                    have n3_ : Aside0 (w32.heap[gb220]? = some (.cells #[.int .i64 0, .int .i64 0, .slice none 0 0] 40 (0, 0))) := ⟨h3_⟩
                    have n4_ : Aside0 (Below w.heap.size w w32) := ⟨h4_⟩
                    clear BK218
                    clear BK219
                    clear BK220
                    clear HB
                    clear h0_ h1_ h2_ h3_ h4_
                    have HO226 := n0_
                    have BK218 := n1_
                    have BK219 := n2_
                    have BK220 := n3_
                    have HB := n4_
                    clear n0_ n1_ n2_ n3_ n4_
                    have hHeld : w32.cell? ⟨gb218, 0, none⟩ = some (.int .i64 a0_0) ∧ w32.cell? ⟨gb218, 1, none⟩ = some (.int .i64 a0_1) ∧ w32.cell? ⟨gb218, 2, none⟩ = some (.slice A0_2 l0_2.length c0_2) ∧ w32.cell? ⟨gb219, 0, none⟩ = some (.int .i64 a2_0) ∧ w32.cell? ⟨gb219, 1, none⟩ = some (.int .i64 a2_1) ∧ w32.cell? ⟨gb219, 2, none⟩ = some (.string a2_2) := hS_
                    refine norm_ (a' := ?_) ?_ ?_
                    rotate_left
                    ·simp only [putAll, Act.put, zA, zB, zC]
                     rfl
                    refine three_ (i := 13) (j := 15) (k := 18) (Ni := some 37) (Nj := some 39) (Nk := some 8) #[true, true, true, true, true, true, true, true, true, true, true, true, true, true, true, false, false, false, false, false] #[true, true, true, true, true, true, true, true, true, true, true, true, true, false, true, true, false, false, false, false] #[true, true, true, true, true, true, true, true, true, true, true, true, true, false, true, false, false, false, true, false] rfl rfl rfl rfl rfl rfl (three_of HT_.out (by kernel_rfl)) (by decide) (by decide) (by decide) (fun K hK => ?_) (fun K hK => ?_) (fun K hK => ?_)
                    ·skip
                     refine Kd.R_append_rows_step k89 (w0 := w) w.heap.size (by rfl) (.tmp 28) (.tmp 36) 38 89 (.agg #[(.int .i64 0), (.int .i64 0), (.string ⟨#[]⟩)]) 32 rfl Try.underlying38 info89 rfl (by decide) (by omega) v225 y224 y227 _ _ _ (fun k_ => k_ ≠ gb219) (fun _ => False) rfl rfl ?aO ?aR (fun _ _ h => h) (fun _ h => h.elim) ?aF ?aB ?aS ?aL ?_
                     (case aR => repeat (first | exact (Kd.C_below HR230.out HB.out) | (with_reducible refine Kd.C_alloc ?_ _) | (with_reducible refine Kd.C_drewN ?_ _) | (with_reducible refine Kd.C_drew ?_)))
                     (case aB => exact (bt HB))
                     (case aF => exact (fun k_ hk => Kd.freshB (g := gb219) (o := .cells #[.int .i64 a2_0, .int .i64 a2_1, .string a2_2] 89 (0, 0)) (bk BK219) k_ hk))
                     (case aO => exact (rk HO226))
                     (case aS => exact (below_size (bt HB)))
                     (case aL => have := LMc24.out; omega)
                     intro v232 w33 ho hb hg hat
                     rw [← Ny231.out] at ho
                     have n0_ := Aside0.mk (blk_grown (g := gb218) (o := .cells #[.int .i64 a0_0, .int .i64 a0_1, .slice A0_2 l0_2.length c0_2] 40 (0, 0)) (bk BK218) hg (Kd.R_ne HO226.out BK218.out (by decide)))
                     have n1_ := Aside0.mk (blk_grown (g := gb219) (o := .cells #[.int .i64 a2_0, .int .i64 a2_1, .string a2_2] 89 (0, 0)) (bk BK219) hg (Kd.R_away HO226.out (fun _ hk => hk)))
                     have n2_ := Aside0.mk (blk_grown (g := gb220) (o := .cells #[.int .i64 0, .int .i64 0, .slice none 0 0] 40 (0, 0)) (bk BK220) hg (Kd.R_ne HO226.out BK220.out (by decide)))
                     have n3_ := Aside0.mk (hb)
                     have n4_ := Aside0.mk (ho)
                     clear BK218 BK219 BK220 HB HO226
                     revert n0_ n1_ n2_ n3_ n4_
                     intro BK218 BK219 BK220 HB HO233
                     clear ho hb hg hat
                     refine hK.out _ _ ⟨bc BK218 0, bc BK218 1, bc BK218 2, bc BK219 0, bc BK219 1, bc BK219 2⟩ (fun hHeld => ?_)
                     clear hK K
                     refine norm_ (a' := ?_) ?_ ?_
                     rotate_left
                     ·show Act.put _ (some 37) _ = _
                      simp only [Act.put, zA, zB, zC, i64_w, i32_w]
                      rfl
                     exact norm_ (by first | (simp only [putAll, Act.put, zA, zB, zC]; done) | (simp only [putAll, Act.put, zA, zB, zC]; rfl)) (hJ4_13 (v225, v232) _ ⟨hHeld, (rk HO233), (bk BK218), (bk BK219), (bk BK220), (bt HB)⟩)
                    ·skip
                     refine Kd.R_lit_step k89 _ 89 ?hg (N := 39) ?hd (xs := ([(⟨a2_0, a2_1, a2_2⟩ : S89)] : List (S89))) (inner := [.int .i64 a2_0, .int .i64 a2_1, .string a2_2]) (ok := fun _ => True) (okp := fun _ => True) ?hr ?hp (fun _ hk => hk) trivial (Below.refl _ _) (Nat.le_refl _) (by simp) ?_; (case hd => rfl); (case hg => rfl); (case hr => first | (go_simp; done) | (go_simp; rfl)); (case hp => exact (Reps.c3 (show Kd.M k89 _ _ _ (⟨a2_0, a2_1, a2_2⟩ : S89) [.int .i64 a2_0, .int .i64 a2_1, .string a2_2] from (k89_mkM _ _ _ (⟨a2_0, a2_1, a2_2⟩ : S89) )) (Reps.none _ _)))
                     intro v235 w33 ho34 hb hg_ hnew_
                     clear hg_ hnew_
                     (first | rw [← Ny234.out] at ho34 | (simp only [Int.reduceToNat] at ho34; rw [← Ny234.out] at ho34))
                     have n0_ := Aside0.mk (Kd.R_elder' (rk HO226) (Kd.R_base ho34) hb)
                     have n1_ := Aside0.mk (Kd.R_lower (Kd.R_newB (Kd.R_new' ho34 (Kd.R_lt (rk HO226))) (g := gb219) (o := .cells #[.int .i64 a2_0, .int .i64 a2_1, .string a2_2] 89 (0, 0)) (bk BK219)) (below_size (bt HB)))
                     have n2_ := bb BK218 hb
                     have n3_ := bb BK219 hb
                     have n4_ := bb BK220 hb
                     have n5_ := Aside0.mk (below_step (bt HB) hb)
                     clear HO226 BK218 BK219 BK220 HB
                     revert n0_ n1_ n2_ n3_ n4_ n5_
                     intro HO226 HO236 BK218 BK219 BK220 HB
                     clear hb ho34
                     refine hK.out _ _ ⟨bc BK218 0, bc BK218 1, bc BK218 2, bc BK219 0, bc BK219 1, bc BK219 2⟩ (fun hHeld => ?_)
                     clear hK K
                     refine norm_ (a' := ?_) ?_ ?_
                     rotate_left
                     ·show Act.put _ (some 39) _ = _
                      simp only [Act.put, zA, zB, zC, i64_w, i32_w]
                      rfl
                     exact norm_ (by first | (simp only [putAll, Act.put, zA, zB, zC]; done) | (simp only [putAll, Act.put, zA, zB, zC]; rfl)) (hJ4_15 (v225, v235) _ ⟨hHeld, (by (with_reducible repeat (first | apply Kd.R_alloc | apply Kd.R_drewN | apply Kd.R_drew)); exact Kd.R_mono HO226.out (fun _ hk => ⟨hk.2, hk.1⟩)), (by (with_reducible repeat (first | apply Kd.R_alloc | apply Kd.R_drewN | apply Kd.R_drew)); exact Kd.R_mono HO236.out (fun _ hk => ⟨hk.1.2, hk.2⟩)), (bk BK218), (bk BK219), (bk BK220), (bt HB)⟩)
                    ·skip
                     refine box_step ?hg (N := 8) ?hd (cs := #[.int .i64 0, .int .i64 0, .slice none 0 0]) (t := 40) ?hr ?_; (case hd => rfl); (case hg => rfl); (case hr => first | (go_simp; done) | (go_simp; rfl))
                     intro gb240 hg w33 hbox hb
                     have n0_ := rb HO226 hb
                     have n1_ := bb BK218 hb
                     have n2_ := bb BK219 hb
                     have n3_ := bb BK220 hb
                     have n4_ := Aside0.mk (below_step (bt HB) hb)
                     have n5_ := Aside0.mk (hbox)
                     have n6_ := ge_ hg HB
                     have n7_ := ge_ hg HB
                     have n8_ := nl_ hg BK218
                     have n9_ := nr_ hg BK218
                     have n10_ := nl_ hg BK219
                     have n11_ := nr_ hg BK219
                     have n12_ := nl_ hg BK220
                     have n13_ := nr_ hg BK220
                     clear HO226 BK218 BK219 BK220 HB
                     revert n0_ n1_ n2_ n3_ n4_ n5_ n6_ n7_ n8_ n9_ n10_ n11_ n12_ n13_
                     intro HO226 BK218 BK219 BK220 HB BK240 GW240 GE240 NB218_240 NB240_218 NB219_240 NB240_219 NB220_240 NB240_220
                     clear hb hbox hg
                     refine hK.out _ _ ⟨bc BK218 0, bc BK218 1, bc BK218 2, bc BK219 0, bc BK219 1, bc BK219 2⟩ (fun hHeld => ?_)
                     clear hK K
                     refine norm_ (a' := ?_) ?_ ?_
                     rotate_left
                     ·show Act.put _ (some 8) _ = _
                      simp only [Act.put, zA, zB, zC, i64_w, i32_w]
                      rfl
                     exact norm_ (by first | (simp only [putAll, Act.put, zA, zB, zC]; done) | (simp only [putAll, Act.put, zA, zB, zC]; rfl)) (hJ4_18 (v225, gb240) _ ⟨hHeld, (rk HO226), (bk BK218), (bk BK219), (bk BK220), (bk BK240), GW240.out, GE240.out, NB218_240.out, NB240_218.out, NB219_240.out, NB240_219.out, NB220_240.out, NB240_220.out, (bt HB)⟩)
                  ·skip
                   rintro ⟨v235, gb240⟩ w33 ⟨hS_, h0_, h1_, h2_, h3_, h4_, h5_, h6_, h7_, h8_, h9_, h10_, h11_, h12_, h13_⟩
                   have n0_ : Aside0 (Kd.R k89 89 w33 w.heap.size (fun k_ => k_ ≠ gb219) v235 y234) := ⟨h0_⟩
                   have n1_ : Aside0 (w33.heap[gb218]? = some (.cells #[.int .i64 a0_0, .int .i64 a0_1, .slice A0_2 l0_2.length c0_2] 40 (0, 0))) := ⟨h1_⟩
                   have n2_ : Aside0 (w33.heap[gb219]? = some (.cells #[.int .i64 a2_0, .int .i64 a2_1, .string a2_2] 89 (0, 0))) := ⟨h2_⟩
                   have n3_ : Aside0 (w33.heap[gb220]? = some (.cells #[.int .i64 0, .int .i64 0, .slice none 0 0] 40 (0, 0))) := ⟨h3_⟩
                   have n4_ : Aside0 (w33.heap[gb240]? = some (.cells #[.int .i64 0, .int .i64 0, .slice none 0 0] 40 (0, 0))) := ⟨h4_⟩
                   have n5_ : Aside0 (w.heap.size ≤ gb240) := ⟨h5_⟩
                   have n6_ : Aside0 (w.heap.size ≤ gb240) := ⟨h6_⟩
                   have n7_ : Aside0 (gb218 ≠ gb240) := ⟨h7_⟩
                   have n8_ : Aside0 (gb240 ≠ gb218) := ⟨h8_⟩
                   have n9_ : Aside0 (gb219 ≠ gb240) := ⟨h9_⟩
                   have n10_ : Aside0 (gb240 ≠ gb219) := ⟨h10_⟩
                   have n11_ : Aside0 (gb220 ≠ gb240) := ⟨h11_⟩
                   have n12_ : Aside0 (gb240 ≠ gb220) := ⟨h12_⟩
                   have n13_ : Aside0 (Below w.heap.size w w33) := ⟨h13_⟩
                   clear BK218
                   clear BK219
                   clear BK220
                   clear HB
                   clear h0_ h1_ h2_ h3_ h4_ h5_ h6_ h7_ h8_ h9_ h10_ h11_ h12_ h13_
                   have HO236 := n0_
                   have BK218 := n1_
                   have BK219 := n2_
                   have BK220 := n3_
                   have BK240 := n4_
                   have GW240 := n5_
                   have GE240 := n6_
                   have NB218_240 := n7_
                   have NB240_218 := n8_
                   have NB219_240 := n9_
                   have NB240_219 := n10_
                   have NB220_240 := n11_
                   have NB240_220 := n12_
                   have HB := n13_
                   clear n0_ n1_ n2_ n3_ n4_ n5_ n6_ n7_ n8_ n9_ n10_ n11_ n12_ n13_
                   have hHeld : w33.cell? ⟨gb218, 0, none⟩ = some (.int .i64 a0_0) ∧ w33.cell? ⟨gb218, 1, none⟩ = some (.int .i64 a0_1) ∧ w33.cell? ⟨gb218, 2, none⟩ = some (.slice A0_2 l0_2.length c0_2) ∧ w33.cell? ⟨gb219, 0, none⟩ = some (.int .i64 a2_0) ∧ w33.cell? ⟨gb219, 1, none⟩ = some (.int .i64 a2_1) ∧ w33.cell? ⟨gb219, 2, none⟩ = some (.string a2_2) := hS_
                   refine norm_ (a' := ?_) ?_ ?_
                   rotate_left
                   ·simp only [putAll, Act.put, zA, zB, zC]
                    rfl
                   refine one_ (i := 4) (N := some 28) #[true, true, true, true, true, true, true, true, true, true, true, true, true, false, true, true, false, false, true, false] rfl rfl (one_of HT_.out (by kernel_rfl)) (by decide) (fun K hK => ?_)
                   refine Kd.R_lit_step k89 _ 89 ?hg (N := 28) ?hd (xs := ([] : List (S89))) (inner := []) (ok := fun _ => True) (okp := fun _ => True) ?hr ?hp (fun _ hk => hk) trivial (Below.refl _ _) (Nat.le_refl _) (by simp) ?_; (case hd => rfl); (case hg => rfl); (case hr => first | (go_simp; done) | (go_simp; rfl)); (case hp => exact (Reps.none _ _))
                   intro v225 w34 ho35 hb hg_ hnew_
                   clear hg_ hnew_
                   (first | rw [← Ny224.out] at ho35 | (simp only [Int.reduceToNat] at ho35; rw [← Ny224.out] at ho35))
                   have n0_ := Aside0.mk (Kd.R_elder' (rk HO236) (Kd.R_base ho35) hb)
                   have n1_ := Aside0.mk (Kd.R_lower (Kd.R_newB (Kd.R_new' ho35 (Kd.R_lt (rk HO236))) (g := gb219) (o := .cells #[.int .i64 a2_0, .int .i64 a2_1, .string a2_2] 89 (0, 0)) (bk BK219)) (below_size (bt HB)))
                   have n2_ := bb BK218 hb
                   have n3_ := bb BK219 hb
                   have n4_ := bb BK220 hb
                   have n5_ := bb BK240 hb
                   have n6_ := Aside0.mk (below_step (bt HB) hb)
                   clear HO236 BK218 BK219 BK220 BK240 HB
                   revert n0_ n1_ n2_ n3_ n4_ n5_ n6_
                   intro HO236 HO226 BK218 BK219 BK220 BK240 HB
                   clear hb ho35
                   refine hK.out _ _ ⟨bc BK218 0, bc BK218 1, bc BK218 2, bc BK219 0, bc BK219 1, bc BK219 2⟩ (fun hHeld => ?_)
                   clear hK K
                   refine norm_ (a' := ?_) ?_ ?_
                   rotate_left
                   ·show Act.put _ (some 28) _ = _
                    simp only [Act.put, zA, zB, zC, i64_w, i32_w]
                    rfl
                   exact norm_ (by first | (simp only [putAll, Act.put, zA, zB, zC]; done) | (simp only [putAll, Act.put, zA, zB, zC]; rfl)) (hJ4_15_18 (v225, v235, gb240) _ ⟨hHeld, (by (with_reducible repeat (first | apply Kd.R_alloc | apply Kd.R_drewN | apply Kd.R_drew)); exact Kd.R_mono HO226.out (fun _ hk => ⟨hk.1.2, hk.2⟩)), (by (with_reducible repeat (first | apply Kd.R_alloc | apply Kd.R_drewN | apply Kd.R_drew)); exact Kd.R_mono HO236.out (fun _ hk => ⟨hk.2, hk.1⟩)), (bk BK218), (bk BK219), (bk BK220), (bk BK240), GW240.out, GE240.out, NB218_240.out, NB240_218.out, NB219_240.out, NB240_219.out, NB220_240.out, NB240_220.out, (bt HB)⟩)
                 ·skip
                  rintro ⟨v225, gb240⟩ w33 ⟨hS_, h0_, h1_, h2_, h3_, h4_, h5_, h6_, h7_, h8_, h9_, h10_, h11_, h12_, h13_⟩
                  have n0_ : Aside0 (Kd.R k89 89 w33 w.heap.size (fun k_ => k_ ≠ gb219) v225 y224) := ⟨h0_⟩
                  have n1_ : Aside0 (w33.heap[gb218]? = some (.cells #[.int .i64 a0_0, .int .i64 a0_1, .slice A0_2 l0_2.length c0_2] 40 (0, 0))) := ⟨h1_⟩
                  have n2_ : Aside0 (w33.heap[gb219]? = some (.cells #[.int .i64 a2_0, .int .i64 a2_1, .string a2_2] 89 (0, 0))) := ⟨h2_⟩
                  have n3_ : Aside0 (w33.heap[gb220]? = some (.cells #[.int .i64 0, .int .i64 0, .slice none 0 0] 40 (0, 0))) := ⟨h3_⟩
                  have n4_ : Aside0 (w33.heap[gb240]? = some (.cells #[.int .i64 0, .int .i64 0, .slice none 0 0] 40 (0, 0))) := ⟨h4_⟩
                  have n5_ : Aside0 (w.heap.size ≤ gb240) := ⟨h5_⟩
                  have n6_ : Aside0 (w.heap.size ≤ gb240) := ⟨h6_⟩
                  have n7_ : Aside0 (gb218 ≠ gb240) := ⟨h7_⟩
                  have n8_ : Aside0 (gb240 ≠ gb218) := ⟨h8_⟩
                  have n9_ : Aside0 (gb219 ≠ gb240) := ⟨h9_⟩
                  have n10_ : Aside0 (gb240 ≠ gb219) := ⟨h10_⟩
                  have n11_ : Aside0 (gb220 ≠ gb240) := ⟨h11_⟩
                  have n12_ : Aside0 (gb240 ≠ gb220) := ⟨h12_⟩
                  have n13_ : Aside0 (Below w.heap.size w w33) := ⟨h13_⟩
                  clear BK218
                  clear BK219
                  clear BK220
                  clear HB
                  clear h0_ h1_ h2_ h3_ h4_ h5_ h6_ h7_ h8_ h9_ h10_ h11_ h12_ h13_
                  have HO226 := n0_
                  have BK218 := n1_
                  have BK219 := n2_
                  have BK220 := n3_
                  have BK240 := n4_
                  have GW240 := n5_
                  have GE240 := n6_
                  have NB218_240 := n7_
                  have NB240_218 := n8_
                  have NB219_240 := n9_
                  have NB240_219 := n10_
                  have NB220_240 := n11_
                  have NB240_220 := n12_
                  have HB := n13_
                  clear n0_ n1_ n2_ n3_ n4_ n5_ n6_ n7_ n8_ n9_ n10_ n11_ n12_ n13_
                  have hHeld : w33.cell? ⟨gb218, 0, none⟩ = some (.int .i64 a0_0) ∧ w33.cell? ⟨gb218, 1, none⟩ = some (.int .i64 a0_1) ∧ w33.cell? ⟨gb218, 2, none⟩ = some (.slice A0_2 l0_2.length c0_2) ∧ w33.cell? ⟨gb219, 0, none⟩ = some (.int .i64 a2_0) ∧ w33.cell? ⟨gb219, 1, none⟩ = some (.int .i64 a2_1) ∧ w33.cell? ⟨gb219, 2, none⟩ = some (.string a2_2) := hS_
                  refine norm_ (a' := ?_) ?_ ?_
                  rotate_left
                  ·simp only [putAll, Act.put, zA, zB, zC]
                   rfl
                  refine two_ (i := 13) (j := 15) (Ni := some 37) (Nj := some 39) #[true, true, true, true, true, true, true, true, true, true, true, true, true, true, true, false, false, false, true, false] #[true, true, true, true, true, true, true, true, true, true, true, true, true, false, true, true, false, false, true, false] rfl rfl rfl rfl (two_of HT_.out (by kernel_rfl)) (by decide) (by decide) (fun K hK => ?_) (fun K hK => ?_)
                  ·skip
                   refine Kd.R_append_rows_step k89 (w0 := w) w.heap.size (by rfl) (.tmp 28) (.tmp 36) 38 89 (.agg #[(.int .i64 0), (.int .i64 0), (.string ⟨#[]⟩)]) 32 rfl Try.underlying38 info89 rfl (by decide) (by omega) v225 y224 y227 _ _ _ (fun k_ => k_ ≠ gb219) (fun _ => False) rfl rfl ?aO ?aR (fun _ _ h => h) (fun _ h => h.elim) ?aF ?aB ?aS ?aL ?_
                   (case aR => repeat (first | exact (Kd.C_below HR230.out HB.out) | (with_reducible refine Kd.C_alloc ?_ _) | (with_reducible refine Kd.C_drewN ?_ _) | (with_reducible refine Kd.C_drew ?_)))
                   (case aB => exact (bt HB))
                   (case aF => exact (fun k_ hk => Kd.freshB (g := gb219) (o := .cells #[.int .i64 a2_0, .int .i64 a2_1, .string a2_2] 89 (0, 0)) (bk BK219) k_ hk))
                   (case aO => exact (rk HO226))
                   (case aS => exact (below_size (bt HB)))
                   (case aL => have := LMc24.out; omega)
                   intro v232 w34 ho hb hg hat
                   rw [← Ny231.out] at ho
                   have n0_ := Aside0.mk (blk_grown (g := gb218) (o := .cells #[.int .i64 a0_0, .int .i64 a0_1, .slice A0_2 l0_2.length c0_2] 40 (0, 0)) (bk BK218) hg (Kd.R_ne HO226.out BK218.out (by decide)))
                   have n1_ := Aside0.mk (blk_grown (g := gb219) (o := .cells #[.int .i64 a2_0, .int .i64 a2_1, .string a2_2] 89 (0, 0)) (bk BK219) hg (Kd.R_away HO226.out (fun _ hk => hk)))
                   have n2_ := Aside0.mk (blk_grown (g := gb220) (o := .cells #[.int .i64 0, .int .i64 0, .slice none 0 0] 40 (0, 0)) (bk BK220) hg (Kd.R_ne HO226.out BK220.out (by decide)))
                   have n3_ := Aside0.mk (blk_grown (g := gb240) (o := .cells #[.int .i64 0, .int .i64 0, .slice none 0 0] 40 (0, 0)) (bk BK240) hg (Kd.R_ne HO226.out BK240.out (by decide)))
                   have n4_ := Aside0.mk (hb)
                   have n5_ := Aside0.mk (ho)
                   clear BK218 BK219 BK220 BK240 HB HO226
                   revert n0_ n1_ n2_ n3_ n4_ n5_
                   intro BK218 BK219 BK220 BK240 HB HO233
                   clear ho hb hg hat
                   refine hK.out _ _ ⟨bc BK218 0, bc BK218 1, bc BK218 2, bc BK219 0, bc BK219 1, bc BK219 2⟩ (fun hHeld => ?_)
                   clear hK K
                   refine norm_ (a' := ?_) ?_ ?_
                   rotate_left
                   ·show Act.put _ (some 37) _ = _
                    simp only [Act.put, zA, zB, zC, i64_w, i32_w]
                    rfl
                   exact norm_ (by first | (simp only [putAll, Act.put, zA, zB, zC]; done) | (simp only [putAll, Act.put, zA, zB, zC]; rfl)) (hJ4_13_18 (v225, v232, gb240) _ ⟨hHeld, (rk HO233), (bk BK218), (bk BK219), (bk BK220), (bk BK240), GW240.out, GE240.out, NB218_240.out, NB240_218.out, NB219_240.out, NB240_219.out, NB220_240.out, NB240_220.out, (bt HB)⟩)
                  ·skip
                   refine Kd.R_lit_step k89 _ 89 ?hg (N := 39) ?hd (xs := ([(⟨a2_0, a2_1, a2_2⟩ : S89)] : List (S89))) (inner := [.int .i64 a2_0, .int .i64 a2_1, .string a2_2]) (ok := fun _ => True) (okp := fun _ => True) ?hr ?hp (fun _ hk => hk) trivial (Below.refl _ _) (Nat.le_refl _) (by simp) ?_; (case hd => rfl); (case hg => rfl); (case hr => first | (go_simp; done) | (go_simp; rfl)); (case hp => exact (Reps.c3 (show Kd.M k89 _ _ _ (⟨a2_0, a2_1, a2_2⟩ : S89) [.int .i64 a2_0, .int .i64 a2_1, .string a2_2] from (k89_mkM _ _ _ (⟨a2_0, a2_1, a2_2⟩ : S89) )) (Reps.none _ _)))
                   intro v235 w34 ho35 hb hg_ hnew_
                   clear hg_ hnew_
                   (first | rw [← Ny234.out] at ho35 | (simp only [Int.reduceToNat] at ho35; rw [← Ny234.out] at ho35))
                   have n0_ := Aside0.mk (Kd.R_elder' (rk HO226) (Kd.R_base ho35) hb)
                   have n1_ := Aside0.mk (Kd.R_lower (Kd.R_newB (Kd.R_new' ho35 (Kd.R_lt (rk HO226))) (g := gb219) (o := .cells #[.int .i64 a2_0, .int .i64 a2_1, .string a2_2] 89 (0, 0)) (bk BK219)) (below_size (bt HB)))
                   have n2_ := bb BK218 hb
                   have n3_ := bb BK219 hb
                   have n4_ := bb BK220 hb
                   have n5_ := bb BK240 hb
                   have n6_ := Aside0.mk (below_step (bt HB) hb)
                   clear HO226 BK218 BK219 BK220 BK240 HB
                   revert n0_ n1_ n2_ n3_ n4_ n5_ n6_
                   intro HO226 HO236 BK218 BK219 BK220 BK240 HB
                   clear hb ho35
                   refine hK.out _ _ ⟨bc BK218 0, bc BK218 1, bc BK218 2, bc BK219 0, bc BK219 1, bc BK219 2⟩ (fun hHeld => ?_)
                   clear hK K
                   refine norm_ (a' := ?_) ?_ ?_
                   rotate_left
                   ·show Act.put _ (some 39) _ = _
                    simp only [Act.put, zA, zB, zC, i64_w, i32_w]
                    rfl
                   exact norm_ (by first | (simp only [putAll, Act.put, zA, zB, zC]; done) | (simp only [putAll, Act.put, zA, zB, zC]; rfl)) (hJ4_15_18 (v225, v235, gb240) _ ⟨hHeld, (by (with_reducible repeat (first | apply Kd.R_alloc | apply Kd.R_drewN | apply Kd.R_drew)); exact Kd.R_mono HO226.out (fun _ hk => ⟨hk.2, hk.1⟩)), (by (with_reducible repeat (first | apply Kd.R_alloc | apply Kd.R_drewN | apply Kd.R_drew)); exact Kd.R_mono HO236.out (fun _ hk => ⟨hk.1.2, hk.2⟩)), (bk BK218), (bk BK219), (bk BK220), (bk BK240), GW240.out, GE240.out, NB218_240.out, NB240_218.out, NB219_240.out, NB240_219.out, NB220_240.out, NB240_220.out, (bt HB)⟩)
                ·skip
                 rintro ⟨v225, v235⟩ w34 ⟨hS_, h0_, h1_, h2_, h3_, h4_, h5_⟩
                 have n0_ : Aside0 (Kd.R k89 89 w34 w.heap.size (fun k_ => some k_ ≠ (v235 : Value).ownBlock ∧ k_ ≠ gb219) v225 y224) := ⟨h0_⟩
                 have n1_ : Aside0 (Kd.R k89 89 w34 w.heap.size (fun k_ => some k_ ≠ (v225 : Value).ownBlock ∧ k_ ≠ gb219) v235 y234) := ⟨h1_⟩
                 have n2_ : Aside0 (w34.heap[gb218]? = some (.cells #[.int .i64 a0_0, .int .i64 a0_1, .slice A0_2 l0_2.length c0_2] 40 (0, 0))) := ⟨h2_⟩
                 have n3_ : Aside0 (w34.heap[gb219]? = some (.cells #[.int .i64 a2_0, .int .i64 a2_1, .string a2_2] 89 (0, 0))) := ⟨h3_⟩
                 have n4_ : Aside0 (w34.heap[gb220]? = some (.cells #[.int .i64 0, .int .i64 0, .slice none 0 0] 40 (0, 0))) := ⟨h4_⟩
                 have n5_ : Aside0 (Below w.heap.size w w34) := ⟨h5_⟩
                 clear BK218
                 clear BK219
                 clear BK220
                 clear HB
                 clear h0_ h1_ h2_ h3_ h4_ h5_
                 have HO226 := n0_
                 have HO236 := n1_
                 have BK218 := n2_
                 have BK219 := n3_
                 have BK220 := n4_
                 have HB := n5_
                 clear n0_ n1_ n2_ n3_ n4_ n5_
                 have hHeld : w34.cell? ⟨gb218, 0, none⟩ = some (.int .i64 a0_0) ∧ w34.cell? ⟨gb218, 1, none⟩ = some (.int .i64 a0_1) ∧ w34.cell? ⟨gb218, 2, none⟩ = some (.slice A0_2 l0_2.length c0_2) ∧ w34.cell? ⟨gb219, 0, none⟩ = some (.int .i64 a2_0) ∧ w34.cell? ⟨gb219, 1, none⟩ = some (.int .i64 a2_1) ∧ w34.cell? ⟨gb219, 2, none⟩ = some (.string a2_2) := hS_
                 refine norm_ (a' := ?_) ?_ ?_
                 rotate_left
                 ·simp only [putAll, Act.put, zA, zB, zC]
                  rfl
                 refine two_ (i := 13) (j := 18) (Ni := some 37) (Nj := some 8) #[true, true, true, true, true, true, true, true, true, true, true, true, true, true, true, true, false, false, false, false] #[true, true, true, true, true, true, true, true, true, true, true, true, true, false, true, true, false, false, true, false] rfl rfl rfl rfl (two_of HT_.out (by kernel_rfl)) (by decide) (by decide) (fun K hK => ?_) (fun K hK => ?_)
                 ·skip
                  refine Kd.R_append_rows_step k89 (w0 := w) w.heap.size (by rfl) (.tmp 28) (.tmp 36) 38 89 (.agg #[(.int .i64 0), (.int .i64 0), (.string ⟨#[]⟩)]) 32 rfl Try.underlying38 info89 rfl (by decide) (by omega) v225 y224 y227 _ _ _ (fun k_ => some k_ ≠ (v235 : Value).ownBlock ∧ k_ ≠ gb219) (fun _ => False) rfl rfl ?aO ?aR (fun _ _ h => h) (fun _ h => h.elim) ?aF ?aB ?aS ?aL ?_
                  (case aR => repeat (first | exact (Kd.C_below HR230.out HB.out) | (with_reducible refine Kd.C_alloc ?_ _) | (with_reducible refine Kd.C_drewN ?_ _) | (with_reducible refine Kd.C_drew ?_)))
                  (case aB => exact (bt HB))
                  (case aF => exact (fun k_ hk => ⟨Kd.fresh' (Kd.R_lt (rk HO236)) k_ hk, Kd.freshB (g := gb219) (o := .cells #[.int .i64 a2_0, .int .i64 a2_1, .string a2_2] 89 (0, 0)) (bk BK219) k_ hk⟩))
                  (case aO => exact (rk HO226))
                  (case aS => exact (below_size (bt HB)))
                  (case aL => have := LMc24.out; omega)
                  intro v232 w35 ho hb hg hat
                  rw [← Ny231.out] at ho
                  have n0_ := Aside0.mk (blk_grown (g := gb218) (o := .cells #[.int .i64 a0_0, .int .i64 a0_1, .slice A0_2 l0_2.length c0_2] 40 (0, 0)) (bk BK218) hg (Kd.R_ne HO226.out BK218.out (by decide)))
                  have n1_ := Aside0.mk (blk_grown (g := gb219) (o := .cells #[.int .i64 a2_0, .int .i64 a2_1, .string a2_2] 89 (0, 0)) (bk BK219) hg (Kd.R_away HO226.out (fun _ hk => hk.2)))
                  have n2_ := Aside0.mk (blk_grown (g := gb220) (o := .cells #[.int .i64 0, .int .i64 0, .slice none 0 0] 40 (0, 0)) (bk BK220) hg (Kd.R_ne HO226.out BK220.out (by decide)))
                  have n3_ := Aside0.mk (Kd.R_after (ok := (fun k_ => k_ ≠ gb219)) (by (with_reducible repeat (first | apply Kd.R_alloc | apply Kd.R_drewN | apply Kd.R_drew)); exact Kd.R_mono HO236.out (fun _ hk => ⟨hk.2, hk.1⟩)) hg hat)
                  have n4_ := Aside0.mk (hb)
                  have n5_ := Aside0.mk (ho)
                  clear BK218 BK219 BK220 HO236 HB HO226
                  revert n0_ n1_ n2_ n3_ n4_ n5_
                  intro BK218 BK219 BK220 HO236 HB HO233
                  clear ho hb hg hat
                  refine hK.out _ _ ⟨bc BK218 0, bc BK218 1, bc BK218 2, bc BK219 0, bc BK219 1, bc BK219 2⟩ (fun hHeld => ?_)
                  clear hK K
                  refine norm_ (a' := ?_) ?_ ?_
                  rotate_left
                  ·show Act.put _ (some 37) _ = _
                   simp only [Act.put, zA, zB, zC, i64_w, i32_w]
                   rfl
                  exact norm_ (by first | (simp only [putAll, Act.put, zA, zB, zC]; done) | (simp only [putAll, Act.put, zA, zB, zC]; rfl)) (hJ4_13_15 (v225, v232, v235) _ ⟨hHeld, (rk HO233), (by (with_reducible repeat (first | apply Kd.R_alloc | apply Kd.R_drewN | apply Kd.R_drew)); exact Kd.R_mono HO236.out (fun _ hk => ⟨hk.2, hk.1⟩)), (bk BK218), (bk BK219), (bk BK220), (bt HB)⟩)
                 ·skip
                  refine box_step ?hg (N := 8) ?hd (cs := #[.int .i64 0, .int .i64 0, .slice none 0 0]) (t := 40) ?hr ?_; (case hd => rfl); (case hg => rfl); (case hr => first | (go_simp; done) | (go_simp; rfl))
                  intro gb240 hg w35 hbox hb
                  have n0_ := rb HO226 hb
                  have n1_ := rb HO236 hb
                  have n2_ := bb BK218 hb
                  have n3_ := bb BK219 hb
                  have n4_ := bb BK220 hb
                  have n5_ := Aside0.mk (below_step (bt HB) hb)
                  have n6_ := Aside0.mk (hbox)
                  have n7_ := ge_ hg HB
                  have n8_ := ge_ hg HB
                  have n9_ := nl_ hg BK218
                  have n10_ := nr_ hg BK218
                  have n11_ := nl_ hg BK219
                  have n12_ := nr_ hg BK219
                  have n13_ := nl_ hg BK220
                  have n14_ := nr_ hg BK220
                  clear HO226 HO236 BK218 BK219 BK220 HB
                  revert n0_ n1_ n2_ n3_ n4_ n5_ n6_ n7_ n8_ n9_ n10_ n11_ n12_ n13_ n14_
                  intro HO226 HO236 BK218 BK219 BK220 HB BK240 GW240 GE240 NB218_240 NB240_218 NB219_240 NB240_219 NB220_240 NB240_220
                  clear hb hbox hg
                  refine hK.out _ _ ⟨bc BK218 0, bc BK218 1, bc BK218 2, bc BK219 0, bc BK219 1, bc BK219 2⟩ (fun hHeld => ?_)
                  clear hK K
                  refine norm_ (a' := ?_) ?_ ?_
                  rotate_left
                  ·show Act.put _ (some 8) _ = _
                   simp only [Act.put, zA, zB, zC, i64_w, i32_w]
                   rfl
                  exact norm_ (by first | (simp only [putAll, Act.put, zA, zB, zC]; done) | (simp only [putAll, Act.put, zA, zB, zC]; rfl)) (hJ4_15_18 (v225, v235, gb240) _ ⟨hHeld, (rk HO226), (rk HO236), (bk BK218), (bk BK219), (bk BK220), (bk BK240), GW240.out, GE240.out, NB218_240.out, NB240_218.out, NB219_240.out, NB240_219.out, NB220_240.out, NB240_220.out, (bt HB)⟩)
               ·skip
                rintro ⟨v225, v232⟩ w33 ⟨hS_, h0_, h1_, h2_, h3_, h4_⟩
                have n0_ : Aside0 (Kd.R k89 89 w33 w.heap.size (fun k_ => k_ ≠ gb219) v232 y231) := ⟨h0_⟩
                have n1_ : Aside0 (w33.heap[gb218]? = some (.cells #[.int .i64 a0_0, .int .i64 a0_1, .slice A0_2 l0_2.length c0_2] 40 (0, 0))) := ⟨h1_⟩
                have n2_ : Aside0 (w33.heap[gb219]? = some (.cells #[.int .i64 a2_0, .int .i64 a2_1, .string a2_2] 89 (0, 0))) := ⟨h2_⟩
                have n3_ : Aside0 (w33.heap[gb220]? = some (.cells #[.int .i64 0, .int .i64 0, .slice none 0 0] 40 (0, 0))) := ⟨h3_⟩
                have n4_ : Aside0 (Below w.heap.size w w33) := ⟨h4_⟩
                clear BK218
                clear BK219
                clear BK220
                clear HB
                clear h0_ h1_ h2_ h3_ h4_
                have HO233 := n0_
                have BK218 := n1_
                have BK219 := n2_
                have BK220 := n3_
                have HB := n4_
                clear n0_ n1_ n2_ n3_ n4_
                have hHeld : w33.cell? ⟨gb218, 0, none⟩ = some (.int .i64 a0_0) ∧ w33.cell? ⟨gb218, 1, none⟩ = some (.int .i64 a0_1) ∧ w33.cell? ⟨gb218, 2, none⟩ = some (.slice A0_2 l0_2.length c0_2) ∧ w33.cell? ⟨gb219, 0, none⟩ = some (.int .i64 a2_0) ∧ w33.cell? ⟨gb219, 1, none⟩ = some (.int .i64 a2_1) ∧ w33.cell? ⟨gb219, 2, none⟩ = some (.string a2_2) := hS_
                refine norm_ (a' := ?_) ?_ ?_
                rotate_left
                ·simp only [putAll, Act.put, zA, zB, zC]
                 rfl
                refine two_ (i := 15) (j := 18) (Ni := some 39) (Nj := some 8) #[true, true, true, true, true, true, true, true, true, true, true, true, true, true, true, true, false, false, false, false] #[true, true, true, true, true, true, true, true, true, true, true, true, true, true, true, false, false, false, true, false] rfl rfl rfl rfl (two_of HT_.out (by kernel_rfl)) (by decide) (by decide) (fun K hK => ?_) (fun K hK => ?_)
                ·skip
                 refine Kd.R_lit_step k89 _ 89 ?hg (N := 39) ?hd (xs := ([(⟨a2_0, a2_1, a2_2⟩ : S89)] : List (S89))) (inner := [.int .i64 a2_0, .int .i64 a2_1, .string a2_2]) (ok := fun _ => True) (okp := fun _ => True) ?hr ?hp (fun _ hk => hk) trivial (Below.refl _ _) (Nat.le_refl _) (by simp) ?_; (case hd => rfl); (case hg => rfl); (case hr => first | (go_simp; done) | (go_simp; rfl)); (case hp => exact (Reps.c3 (show Kd.M k89 _ _ _ (⟨a2_0, a2_1, a2_2⟩ : S89) [.int .i64 a2_0, .int .i64 a2_1, .string a2_2] from (k89_mkM _ _ _ (⟨a2_0, a2_1, a2_2⟩ : S89) )) (Reps.none _ _)))
                 intro v235 w34 ho35 hb hg_ hnew_
                 clear hg_ hnew_
                 (first | rw [← Ny234.out] at ho35 | (simp only [Int.reduceToNat] at ho35; rw [← Ny234.out] at ho35))
                 have n0_ := Aside0.mk (Kd.R_elder' (rk HO233) (Kd.R_base ho35) hb)
                 have n1_ := Aside0.mk (Kd.R_lower (Kd.R_newB (Kd.R_new' ho35 (Kd.R_lt (rk HO233))) (g := gb219) (o := .cells #[.int .i64 a2_0, .int .i64 a2_1, .string a2_2] 89 (0, 0)) (bk BK219)) (below_size (bt HB)))
                 have n2_ := bb BK218 hb
                 have n3_ := bb BK219 hb
                 have n4_ := bb BK220 hb
                 have n5_ := Aside0.mk (below_step (bt HB) hb)
                 clear HO233 BK218 BK219 BK220 HB
                 revert n0_ n1_ n2_ n3_ n4_ n5_
                 intro HO233 HO236 BK218 BK219 BK220 HB
                 clear hb ho35
                 refine hK.out _ _ ⟨bc BK218 0, bc BK218 1, bc BK218 2, bc BK219 0, bc BK219 1, bc BK219 2⟩ (fun hHeld => ?_)
                 clear hK K
                 refine norm_ (a' := ?_) ?_ ?_
                 rotate_left
                 ·show Act.put _ (some 39) _ = _
                  simp only [Act.put, zA, zB, zC, i64_w, i32_w]
                  rfl
                 exact norm_ (by first | (simp only [putAll, Act.put, zA, zB, zC]; done) | (simp only [putAll, Act.put, zA, zB, zC]; rfl)) (hJ4_13_15 (v225, v232, v235) _ ⟨hHeld, (by (with_reducible repeat (first | apply Kd.R_alloc | apply Kd.R_drewN | apply Kd.R_drew)); exact Kd.R_mono HO233.out (fun _ hk => ⟨hk.2, hk.1⟩)), (by (with_reducible repeat (first | apply Kd.R_alloc | apply Kd.R_drewN | apply Kd.R_drew)); exact Kd.R_mono HO236.out (fun _ hk => ⟨hk.1.2, hk.2⟩)), (bk BK218), (bk BK219), (bk BK220), (bt HB)⟩)
                ·skip
                 refine box_step ?hg (N := 8) ?hd (cs := #[.int .i64 0, .int .i64 0, .slice none 0 0]) (t := 40) ?hr ?_; (case hd => rfl); (case hg => rfl); (case hr => first | (go_simp; done) | (go_simp; rfl))
                 intro gb240 hg w34 hbox hb
                 have n0_ := rb HO233 hb
                 have n1_ := bb BK218 hb
                 have n2_ := bb BK219 hb
                 have n3_ := bb BK220 hb
                 have n4_ := Aside0.mk (below_step (bt HB) hb)
                 have n5_ := Aside0.mk (hbox)
                 have n6_ := ge_ hg HB
                 have n7_ := ge_ hg HB
                 have n8_ := nl_ hg BK218
                 have n9_ := nr_ hg BK218
                 have n10_ := nl_ hg BK219
                 have n11_ := nr_ hg BK219
                 have n12_ := nl_ hg BK220
                 have n13_ := nr_ hg BK220
                 clear HO233 BK218 BK219 BK220 HB
                 revert n0_ n1_ n2_ n3_ n4_ n5_ n6_ n7_ n8_ n9_ n10_ n11_ n12_ n13_
                 intro HO233 BK218 BK219 BK220 HB BK240 GW240 GE240 NB218_240 NB240_218 NB219_240 NB240_219 NB220_240 NB240_220
                 clear hb hbox hg
                 refine hK.out _ _ ⟨bc BK218 0, bc BK218 1, bc BK218 2, bc BK219 0, bc BK219 1, bc BK219 2⟩ (fun hHeld => ?_)
                 clear hK K
                 refine norm_ (a' := ?_) ?_ ?_
                 rotate_left
                 ·show Act.put _ (some 8) _ = _
                  simp only [Act.put, zA, zB, zC, i64_w, i32_w]
                  rfl
                 exact norm_ (by first | (simp only [putAll, Act.put, zA, zB, zC]; done) | (simp only [putAll, Act.put, zA, zB, zC]; rfl)) (hJ4_13_18 (v225, v232, gb240) _ ⟨hHeld, (rk HO233), (bk BK218), (bk BK219), (bk BK220), (bk BK240), GW240.out, GE240.out, NB218_240.out, NB240_218.out, NB219_240.out, NB240_219.out, NB220_240.out, NB240_220.out, (bt HB)⟩)
              ·skip
               rintro ⟨v225, v235, gb240⟩ w35 ⟨hS_, h0_, h1_, h2_, h3_, h4_, h5_, h6_, h7_, h8_, h9_, h10_, h11_, h12_, h13_, h14_⟩
               have n0_ : Aside0 (Kd.R k89 89 w35 w.heap.size (fun k_ => some k_ ≠ (v235 : Value).ownBlock ∧ k_ ≠ gb219) v225 y224) := ⟨h0_⟩
               have n1_ : Aside0 (Kd.R k89 89 w35 w.heap.size (fun k_ => some k_ ≠ (v225 : Value).ownBlock ∧ k_ ≠ gb219) v235 y234) := ⟨h1_⟩
               have n2_ : Aside0 (w35.heap[gb218]? = some (.cells #[.int .i64 a0_0, .int .i64 a0_1, .slice A0_2 l0_2.length c0_2] 40 (0, 0))) := ⟨h2_⟩
               have n3_ : Aside0 (w35.heap[gb219]? = some (.cells #[.int .i64 a2_0, .int .i64 a2_1, .string a2_2] 89 (0, 0))) := ⟨h3_⟩
               have n4_ : Aside0 (w35.heap[gb220]? = some (.cells #[.int .i64 0, .int .i64 0, .slice none 0 0] 40 (0, 0))) := ⟨h4_⟩
               have n5_ : Aside0 (w35.heap[gb240]? = some (.cells #[.int .i64 0, .int .i64 0, .slice none 0 0] 40 (0, 0))) := ⟨h5_⟩
               have n6_ : Aside0 (w.heap.size ≤ gb240) := ⟨h6_⟩
               have n7_ : Aside0 (w.heap.size ≤ gb240) := ⟨h7_⟩
               have n8_ : Aside0 (gb218 ≠ gb240) := ⟨h8_⟩
               have n9_ : Aside0 (gb240 ≠ gb218) := ⟨h9_⟩
               have n10_ : Aside0 (gb219 ≠ gb240) := ⟨h10_⟩
               have n11_ : Aside0 (gb240 ≠ gb219) := ⟨h11_⟩
               have n12_ : Aside0 (gb220 ≠ gb240) := ⟨h12_⟩
               have n13_ : Aside0 (gb240 ≠ gb220) := ⟨h13_⟩
               have n14_ : Aside0 (Below w.heap.size w w35) := ⟨h14_⟩
               clear BK218
               clear BK219
               clear BK220
               clear HB
               clear h0_ h1_ h2_ h3_ h4_ h5_ h6_ h7_ h8_ h9_ h10_ h11_ h12_ h13_ h14_
               have HO226 := n0_
               have HO236 := n1_
               have BK218 := n2_
               have BK219 := n3_
               have BK220 := n4_
               have BK240 := n5_
               have GW240 := n6_
               have GE240 := n7_
               have NB218_240 := n8_
               have NB240_218 := n9_
               have NB219_240 := n10_
               have NB240_219 := n11_
               have NB220_240 := n12_
               have NB240_220 := n13_
               have HB := n14_
               clear n0_ n1_ n2_ n3_ n4_ n5_ n6_ n7_ n8_ n9_ n10_ n11_ n12_ n13_ n14_
               have hHeld : w35.cell? ⟨gb218, 0, none⟩ = some (.int .i64 a0_0) ∧ w35.cell? ⟨gb218, 1, none⟩ = some (.int .i64 a0_1) ∧ w35.cell? ⟨gb218, 2, none⟩ = some (.slice A0_2 l0_2.length c0_2) ∧ w35.cell? ⟨gb219, 0, none⟩ = some (.int .i64 a2_0) ∧ w35.cell? ⟨gb219, 1, none⟩ = some (.int .i64 a2_1) ∧ w35.cell? ⟨gb219, 2, none⟩ = some (.string a2_2) := hS_
               refine norm_ (a' := ?_) ?_ ?_
               rotate_left
               ·simp only [putAll, Act.put, zA, zB, zC]
                rfl
               refine one_ (i := 13) (N := some 37) #[true, true, true, true, true, true, true, true, true, true, true, true, true, true, true, true, false, false, true, false] rfl rfl (one_of HT_.out (by kernel_rfl)) (by decide) (fun K hK => ?_)
               refine Kd.R_append_rows_step k89 (w0 := w) w.heap.size (by rfl) (.tmp 28) (.tmp 36) 38 89 (.agg #[(.int .i64 0), (.int .i64 0), (.string ⟨#[]⟩)]) 32 rfl Try.underlying38 info89 rfl (by decide) (by omega) v225 y224 y227 _ _ _ (fun k_ => some k_ ≠ (v235 : Value).ownBlock ∧ k_ ≠ gb219) (fun _ => False) rfl rfl ?aO ?aR (fun _ _ h => h) (fun _ h => h.elim) ?aF ?aB ?aS ?aL ?_
               (case aR => repeat (first | exact (Kd.C_below HR230.out HB.out) | (with_reducible refine Kd.C_alloc ?_ _) | (with_reducible refine Kd.C_drewN ?_ _) | (with_reducible refine Kd.C_drew ?_)))
               (case aB => exact (bt HB))
               (case aF => exact (fun k_ hk => ⟨Kd.fresh' (Kd.R_lt (rk HO236)) k_ hk, Kd.freshB (g := gb219) (o := .cells #[.int .i64 a2_0, .int .i64 a2_1, .string a2_2] 89 (0, 0)) (bk BK219) k_ hk⟩))
               (case aO => exact (rk HO226))
               (case aS => exact (below_size (bt HB)))
               (case aL => have := LMc24.out; omega)
               intro v232 w36 ho hb hg hat
               rw [← Ny231.out] at ho
               have n0_ := Aside0.mk (blk_grown (g := gb218) (o := .cells #[.int .i64 a0_0, .int .i64 a0_1, .slice A0_2 l0_2.length c0_2] 40 (0, 0)) (bk BK218) hg (Kd.R_ne HO226.out BK218.out (by decide)))
               have n1_ := Aside0.mk (blk_grown (g := gb219) (o := .cells #[.int .i64 a2_0, .int .i64 a2_1, .string a2_2] 89 (0, 0)) (bk BK219) hg (Kd.R_away HO226.out (fun _ hk => hk.2)))
               have n2_ := Aside0.mk (blk_grown (g := gb220) (o := .cells #[.int .i64 0, .int .i64 0, .slice none 0 0] 40 (0, 0)) (bk BK220) hg (Kd.R_ne HO226.out BK220.out (by decide)))
               have n3_ := Aside0.mk (Kd.R_after (ok := (fun k_ => k_ ≠ gb219)) (by (with_reducible repeat (first | apply Kd.R_alloc | apply Kd.R_drewN | apply Kd.R_drew)); exact Kd.R_mono HO236.out (fun _ hk => ⟨hk.2, hk.1⟩)) hg hat)
               have n4_ := Aside0.mk (blk_grown (g := gb240) (o := .cells #[.int .i64 0, .int .i64 0, .slice none 0 0] 40 (0, 0)) (bk BK240) hg (Kd.R_ne HO226.out BK240.out (by decide)))
               have n5_ := Aside0.mk (hb)
               have n6_ := Aside0.mk (ho)
               clear BK218 BK219 BK220 HO236 BK240 HB HO226
               revert n0_ n1_ n2_ n3_ n4_ n5_ n6_
               intro BK218 BK219 BK220 HO236 BK240 HB HO233
               clear ho hb hg hat
               refine hK.out _ _ ⟨bc BK218 0, bc BK218 1, bc BK218 2, bc BK219 0, bc BK219 1, bc BK219 2⟩ (fun hHeld => ?_)
               clear hK K
               refine norm_ (a' := ?_) ?_ ?_
               rotate_left
               ·show Act.put _ (some 37) _ = _
                simp only [Act.put, zA, zB, zC, i64_w, i32_w]
                rfl
               exact norm_ (by first | (simp only [putAll, Act.put, zA, zB, zC]; done) | (simp only [putAll, Act.put, zA, zB, zC]; rfl)) (hJ4_13_15_18 (v225, v232, v235, gb240) _ ⟨hHeld, (rk HO233), (by (with_reducible repeat (first | apply Kd.R_alloc | apply Kd.R_drewN | apply Kd.R_drew)); exact Kd.R_mono HO236.out (fun _ hk => ⟨hk.2, hk.1⟩)), (bk BK218), (bk BK219), (bk BK220), (bk BK240), GW240.out, GE240.out, NB218_240.out, NB240_218.out, NB219_240.out, NB240_219.out, NB220_240.out, NB240_220.out, (bt HB)⟩)
             ·skip
              rintro ⟨v225, v232, gb240⟩ w34 ⟨hS_, h0_, h1_, h2_, h3_, h4_, h5_, h6_, h7_, h8_, h9_, h10_, h11_, h12_, h13_⟩
              have n0_ : Aside0 (Kd.R k89 89 w34 w.heap.size (fun k_ => k_ ≠ gb219) v232 y231) := ⟨h0_⟩
              have n1_ : Aside0 (w34.heap[gb218]? = some (.cells #[.int .i64 a0_0, .int .i64 a0_1, .slice A0_2 l0_2.length c0_2] 40 (0, 0))) := ⟨h1_⟩
              have n2_ : Aside0 (w34.heap[gb219]? = some (.cells #[.int .i64 a2_0, .int .i64 a2_1, .string a2_2] 89 (0, 0))) := ⟨h2_⟩
              have n3_ : Aside0 (w34.heap[gb220]? = some (.cells #[.int .i64 0, .int .i64 0, .slice none 0 0] 40 (0, 0))) := ⟨h3_⟩
              have n4_ : Aside0 (w34.heap[gb240]? = some (.cells #[.int .i64 0, .int .i64 0, .slice none 0 0] 40 (0, 0))) := ⟨h4_⟩
              have n5_ : Aside0 (w.heap.size ≤ gb240) := ⟨h5_⟩
              have n6_ : Aside0 (w.heap.size ≤ gb240) := ⟨h6_⟩
              have n7_ : Aside0 (gb218 ≠ gb240) := ⟨h7_⟩
              have n8_ : Aside0 (gb240 ≠ gb218) := ⟨h8_⟩
              have n9_ : Aside0 (gb219 ≠ gb240) := ⟨h9_⟩
              have n10_ : Aside0 (gb240 ≠ gb219) := ⟨h10_⟩
              have n11_ : Aside0 (gb220 ≠ gb240) := ⟨h11_⟩
              have n12_ : Aside0 (gb240 ≠ gb220) := ⟨h12_⟩
              have n13_ : Aside0 (Below w.heap.size w w34) := ⟨h13_⟩
              clear BK218
              clear BK219
              clear BK220
              clear HB
              clear h0_ h1_ h2_ h3_ h4_ h5_ h6_ h7_ h8_ h9_ h10_ h11_ h12_ h13_
              have HO233 := n0_
              have BK218 := n1_
              have BK219 := n2_
              have BK220 := n3_
              have BK240 := n4_
              have GW240 := n5_
              have GE240 := n6_
              have NB218_240 := n7_
              have NB240_218 := n8_
              have NB219_240 := n9_
              have NB240_219 := n10_
              have NB220_240 := n11_
              have NB240_220 := n12_
              have HB := n13_
              clear n0_ n1_ n2_ n3_ n4_ n5_ n6_ n7_ n8_ n9_ n10_ n11_ n12_ n13_
              have hHeld : w34.cell? ⟨gb218, 0, none⟩ = some (.int .i64 a0_0) ∧ w34.cell? ⟨gb218, 1, none⟩ = some (.int .i64 a0_1) ∧ w34.cell? ⟨gb218, 2, none⟩ = some (.slice A0_2 l0_2.length c0_2) ∧ w34.cell? ⟨gb219, 0, none⟩ = some (.int .i64 a2_0) ∧ w34.cell? ⟨gb219, 1, none⟩ = some (.int .i64 a2_1) ∧ w34.cell? ⟨gb219, 2, none⟩ = some (.string a2_2) := hS_
              refine norm_ (a' := ?_) ?_ ?_
              rotate_left
              ·simp only [putAll, Act.put, zA, zB, zC]
               rfl
              refine one_ (i := 15) (N := some 39) #[true, true, true, true, true, true, true, true, true, true, true, true, true, true, true, true, false, false, true, false] rfl rfl (one_of HT_.out (by kernel_rfl)) (by decide) (fun K hK => ?_)
              refine Kd.R_lit_step k89 _ 89 ?hg (N := 39) ?hd (xs := ([(⟨a2_0, a2_1, a2_2⟩ : S89)] : List (S89))) (inner := [.int .i64 a2_0, .int .i64 a2_1, .string a2_2]) (ok := fun _ => True) (okp := fun _ => True) ?hr ?hp (fun _ hk => hk) trivial (Below.refl _ _) (Nat.le_refl _) (by simp) ?_; (case hd => rfl); (case hg => rfl); (case hr => first | (go_simp; done) | (go_simp; rfl)); (case hp => exact (Reps.c3 (show Kd.M k89 _ _ _ (⟨a2_0, a2_1, a2_2⟩ : S89) [.int .i64 a2_0, .int .i64 a2_1, .string a2_2] from (k89_mkM _ _ _ (⟨a2_0, a2_1, a2_2⟩ : S89) )) (Reps.none _ _)))
              intro v235 w35 ho36 hb hg_ hnew_
              clear hg_ hnew_
              (first | rw [← Ny234.out] at ho36 | (simp only [Int.reduceToNat] at ho36; rw [← Ny234.out] at ho36))
              have n0_ := Aside0.mk (Kd.R_elder' (rk HO233) (Kd.R_base ho36) hb)
              have n1_ := Aside0.mk (Kd.R_lower (Kd.R_newB (Kd.R_new' ho36 (Kd.R_lt (rk HO233))) (g := gb219) (o := .cells #[.int .i64 a2_0, .int .i64 a2_1, .string a2_2] 89 (0, 0)) (bk BK219)) (below_size (bt HB)))
              have n2_ := bb BK218 hb
              have n3_ := bb BK219 hb
              have n4_ := bb BK220 hb
              have n5_ := bb BK240 hb
              have n6_ := Aside0.mk (below_step (bt HB) hb)
              clear HO233 BK218 BK219 BK220 BK240 HB
              revert n0_ n1_ n2_ n3_ n4_ n5_ n6_
              intro HO233 HO236 BK218 BK219 BK220 BK240 HB
              clear hb ho36
              refine hK.out _ _ ⟨bc BK218 0, bc BK218 1, bc BK218 2, bc BK219 0, bc BK219 1, bc BK219 2⟩ (fun hHeld => ?_)
              clear hK K
              refine norm_ (a' := ?_) ?_ ?_
              rotate_left
              ·show Act.put _ (some 39) _ = _
               simp only [Act.put, zA, zB, zC, i64_w, i32_w]
               rfl
              exact norm_ (by first | (simp only [putAll, Act.put, zA, zB, zC]; done) | (simp only [putAll, Act.put, zA, zB, zC]; rfl)) (hJ4_13_15_18 (v225, v232, v235, gb240) _ ⟨hHeld, (by (with_reducible repeat (first | apply Kd.R_alloc | apply Kd.R_drewN | apply Kd.R_drew)); exact Kd.R_mono HO233.out (fun _ hk => ⟨hk.2, hk.1⟩)), (by (with_reducible repeat (first | apply Kd.R_alloc | apply Kd.R_drewN | apply Kd.R_drew)); exact Kd.R_mono HO236.out (fun _ hk => ⟨hk.1.2, hk.2⟩)), (bk BK218), (bk BK219), (bk BK220), (bk BK240), GW240.out, GE240.out, NB218_240.out, NB240_218.out, NB219_240.out, NB240_219.out, NB220_240.out, NB240_220.out, (bt HB)⟩)
            ·skip
             rintro ⟨v225, v232, v235⟩ w35 ⟨hS_, h0_, h1_, h2_, h3_, h4_, h5_⟩
             have n0_ : Aside0 (Kd.R k89 89 w35 w.heap.size (fun k_ => some k_ ≠ (v235 : Value).ownBlock ∧ k_ ≠ gb219) v232 y231) := ⟨h0_⟩
             have n1_ : Aside0 (Kd.R k89 89 w35 w.heap.size (fun k_ => some k_ ≠ (v232 : Value).ownBlock ∧ k_ ≠ gb219) v235 y234) := ⟨h1_⟩
             have n2_ : Aside0 (w35.heap[gb218]? = some (.cells #[.int .i64 a0_0, .int .i64 a0_1, .slice A0_2 l0_2.length c0_2] 40 (0, 0))) := ⟨h2_⟩
             have n3_ : Aside0 (w35.heap[gb219]? = some (.cells #[.int .i64 a2_0, .int .i64 a2_1, .string a2_2] 89 (0, 0))) := ⟨h3_⟩
             have n4_ : Aside0 (w35.heap[gb220]? = some (.cells #[.int .i64 0, .int .i64 0, .slice none 0 0] 40 (0, 0))) := ⟨h4_⟩
             have n5_ : Aside0 (Below w.heap.size w w35) := ⟨h5_⟩
             clear BK218
             clear BK219
             clear BK220
             clear HB
             clear h0_ h1_ h2_ h3_ h4_ h5_
             have HO233 := n0_
             have HO236 := n1_
             have BK218 := n2_
             have BK219 := n3_
             have BK220 := n4_
             have HB := n5_
             clear n0_ n1_ n2_ n3_ n4_ n5_
             have hHeld : w35.cell? ⟨gb218, 0, none⟩ = some (.int .i64 a0_0) ∧ w35.cell? ⟨gb218, 1, none⟩ = some (.int .i64 a0_1) ∧ w35.cell? ⟨gb218, 2, none⟩ = some (.slice A0_2 l0_2.length c0_2) ∧ w35.cell? ⟨gb219, 0, none⟩ = some (.int .i64 a2_0) ∧ w35.cell? ⟨gb219, 1, none⟩ = some (.int .i64 a2_1) ∧ w35.cell? ⟨gb219, 2, none⟩ = some (.string a2_2) := hS_
             obtain ⟨Ao37, co37, eo37⟩ := Kd.R_slice HO236.out
             (first | subst eo37 | (injection eo37 with f1_ f2_ f3_; have f4_ := f1_.symm; have f5_ := f3_.symm; clear f1_ f2_ f3_; subst f4_; subst f5_))
             refine norm_ (a' := ?_) ?_ ?_
             rotate_left
             ·simp only [putAll, Act.put, zA, zB, zC]
              rfl
             refine two_ (i := 16) (j := 18) (Ni := some 40) (Nj := some 8) #[true, true, true, true, true, true, true, true, true, true, true, true, true, true, true, true, true, false, false, false] #[true, true, true, true, true, true, true, true, true, true, true, true, true, true, true, true, false, false, true, false] rfl rfl rfl rfl (two_of HT_.out (by kernel_rfl)) (by decide) (by decide) (fun K hK => ?_) (fun K hK => ?_)
             ·skip
              refine Kd.R_append_rows_step k89 (w0 := w) w.heap.size (by rfl) (.tmp 37) (.tmp 39) 38 89 (.agg #[(.int .i64 0), (.int .i64 0), (.string ⟨#[]⟩)]) 32 rfl Try.underlying38 info89 rfl (by decide) (by omega) v232 y231 y234 _ _ _ (fun k_ => some k_ ≠ (.slice Ao37 y234.length co37 : Value).ownBlock ∧ k_ ≠ gb219) (fun _ => False) rfl rfl ?aO ?aR (fun _ _ h => h) (fun _ h => h.elim) ?aF ?aB ?aS ?aL ?_
              (case aR => repeat (first | exact (Kd.R_reads' HO236.out).2.2 | (with_reducible refine Kd.C_alloc ?_ _) | (with_reducible refine Kd.C_drewN ?_ _) | (with_reducible refine Kd.C_drew ?_)))
              (case aB => exact (bt HB))
              (case aF => exact (fun k_ hk => ⟨Kd.fresh' (Kd.R_lt (rk HO236)) k_ hk, Kd.freshB (g := gb219) (o := .cells #[.int .i64 a2_0, .int .i64 a2_1, .string a2_2] 89 (0, 0)) (bk BK219) k_ hk⟩))
              (case aO => exact (rk HO233))
              (case aS => exact (below_size (bt HB)))
              (case aL => have := LMc25.out; omega)
              intro v238 w36 ho hb hg hat
              rw [← Ny237.out] at ho
              have n0_ := Aside0.mk (blk_grown (g := gb218) (o := .cells #[.int .i64 a0_0, .int .i64 a0_1, .slice A0_2 l0_2.length c0_2] 40 (0, 0)) (bk BK218) hg (Kd.R_ne HO233.out BK218.out (by decide)))
              have n1_ := Aside0.mk (blk_grown (g := gb219) (o := .cells #[.int .i64 a2_0, .int .i64 a2_1, .string a2_2] 89 (0, 0)) (bk BK219) hg (Kd.R_away HO233.out (fun _ hk => hk.2)))
              have n2_ := Aside0.mk (blk_grown (g := gb220) (o := .cells #[.int .i64 0, .int .i64 0, .slice none 0 0] 40 (0, 0)) (bk BK220) hg (Kd.R_ne HO233.out BK220.out (by decide)))
              have n3_ := Aside0.mk (Kd.R_after (ok := (fun k_ => k_ ≠ gb219)) (by (with_reducible repeat (first | apply Kd.R_alloc | apply Kd.R_drewN | apply Kd.R_drew)); exact Kd.R_mono HO236.out (fun _ hk => ⟨hk.2, hk.1⟩)) hg hat)
              have n4_ := Aside0.mk (hb)
              have n5_ := Aside0.mk (ho)
              clear BK218 BK219 BK220 HO236 HB HO233
              revert n0_ n1_ n2_ n3_ n4_ n5_
              intro BK218 BK219 BK220 HO236 HB HO239
              clear ho hb hg hat
              obtain ⟨Ao38, co38, eo38⟩ := Kd.R_slice HO239.out
              (first | subst eo38 | (injection eo38 with f1_ f2_ f3_; have f4_ := f1_.symm; have f5_ := f3_.symm; clear f1_ f2_ f3_; subst f4_; subst f5_))
              refine hK.out _ _ ⟨bc BK218 0, bc BK218 1, bc BK218 2, bc BK219 0, bc BK219 1, bc BK219 2⟩ (fun hHeld => ?_)
              clear hK K
              refine norm_ (a' := ?_) ?_ ?_
              rotate_left
              ·show Act.put _ (some 40) _ = _
               simp only [Act.put, zA, zB, zC, i64_w, i32_w]
               rfl
              refine pu HT_ 17 (some 41) ?_
              exact norm_ (by first | (simp only [putAll, Act.put, zA, zB, zC]; done) | (simp only [putAll, Act.put, zA, zB, zC]; rfl)) (hJ4_13_15_16 (v225, v232, .slice Ao37 y234.length co37, .slice Ao38 y237.length co38) _ ⟨hHeld, (by (with_reducible repeat (first | apply Kd.R_alloc | apply Kd.R_drewN | apply Kd.R_drew)); exact Kd.R_mono HO236.out (fun _ hk => ⟨hk.2, hk.1⟩)), (rk HO239), (bk BK218), (bk BK219), (bk BK220), (bt HB)⟩)
             ·skip
              refine box_step ?hg (N := 8) ?hd (cs := #[.int .i64 0, .int .i64 0, .slice none 0 0]) (t := 40) ?hr ?_; (case hd => rfl); (case hg => rfl); (case hr => first | (go_simp; done) | (go_simp; rfl))
              intro gb240 hg w36 hbox hb
              have n0_ := rb HO233 hb
              have n1_ := rb HO236 hb
              have n2_ := bb BK218 hb
              have n3_ := bb BK219 hb
              have n4_ := bb BK220 hb
              have n5_ := Aside0.mk (below_step (bt HB) hb)
              have n6_ := Aside0.mk (hbox)
              have n7_ := ge_ hg HB
              have n8_ := ge_ hg HB
              have n9_ := nl_ hg BK218
              have n10_ := nr_ hg BK218
              have n11_ := nl_ hg BK219
              have n12_ := nr_ hg BK219
              have n13_ := nl_ hg BK220
              have n14_ := nr_ hg BK220
              clear HO233 HO236 BK218 BK219 BK220 HB
              revert n0_ n1_ n2_ n3_ n4_ n5_ n6_ n7_ n8_ n9_ n10_ n11_ n12_ n13_ n14_
              intro HO233 HO236 BK218 BK219 BK220 HB BK240 GW240 GE240 NB218_240 NB240_218 NB219_240 NB240_219 NB220_240 NB240_220
              clear hb hbox hg
              refine hK.out _ _ ⟨bc BK218 0, bc BK218 1, bc BK218 2, bc BK219 0, bc BK219 1, bc BK219 2⟩ (fun hHeld => ?_)
              clear hK K
              refine norm_ (a' := ?_) ?_ ?_
              rotate_left
              ·show Act.put _ (some 8) _ = _
               simp only [Act.put, zA, zB, zC, i64_w, i32_w]
               rfl
              exact norm_ (by first | (simp only [putAll, Act.put, zA, zB, zC]; done) | (simp only [putAll, Act.put, zA, zB, zC]; rfl)) (hJ4_13_15_18 (v225, v232, .slice Ao37 y234.length co37, gb240) _ ⟨hHeld, (rk HO233), (rk HO236), (bk BK218), (bk BK219), (bk BK220), (bk BK240), GW240.out, GE240.out, NB218_240.out, NB240_218.out, NB219_240.out, NB240_219.out, NB220_240.out, NB240_220.out, (bt HB)⟩)
           ·skip
            rintro ⟨v225, v232, v235, gb240⟩ w36 ⟨hS_, h0_, h1_, h2_, h3_, h4_, h5_, h6_, h7_, h8_, h9_, h10_, h11_, h12_, h13_, h14_⟩
            have n0_ : Aside0 (Kd.R k89 89 w36 w.heap.size (fun k_ => some k_ ≠ (v235 : Value).ownBlock ∧ k_ ≠ gb219) v232 y231) := ⟨h0_⟩
            have n1_ : Aside0 (Kd.R k89 89 w36 w.heap.size (fun k_ => some k_ ≠ (v232 : Value).ownBlock ∧ k_ ≠ gb219) v235 y234) := ⟨h1_⟩
            have n2_ : Aside0 (w36.heap[gb218]? = some (.cells #[.int .i64 a0_0, .int .i64 a0_1, .slice A0_2 l0_2.length c0_2] 40 (0, 0))) := ⟨h2_⟩
            have n3_ : Aside0 (w36.heap[gb219]? = some (.cells #[.int .i64 a2_0, .int .i64 a2_1, .string a2_2] 89 (0, 0))) := ⟨h3_⟩
            have n4_ : Aside0 (w36.heap[gb220]? = some (.cells #[.int .i64 0, .int .i64 0, .slice none 0 0] 40 (0, 0))) := ⟨h4_⟩
            have n5_ : Aside0 (w36.heap[gb240]? = some (.cells #[.int .i64 0, .int .i64 0, .slice none 0 0] 40 (0, 0))) := ⟨h5_⟩
            have n6_ : Aside0 (w.heap.size ≤ gb240) := ⟨h6_⟩
            have n7_ : Aside0 (w.heap.size ≤ gb240) := ⟨h7_⟩
            have n8_ : Aside0 (gb218 ≠ gb240) := ⟨h8_⟩
            have n9_ : Aside0 (gb240 ≠ gb218) := ⟨h9_⟩
            have n10_ : Aside0 (gb219 ≠ gb240) := ⟨h10_⟩
            have n11_ : Aside0 (gb240 ≠ gb219) := ⟨h11_⟩
            have n12_ : Aside0 (gb220 ≠ gb240) := ⟨h12_⟩
            have n13_ : Aside0 (gb240 ≠ gb220) := ⟨h13_⟩
            have n14_ : Aside0 (Below w.heap.size w w36) := ⟨h14_⟩
            clear BK218
            clear BK219
            clear BK220
            clear HB
            clear h0_ h1_ h2_ h3_ h4_ h5_ h6_ h7_ h8_ h9_ h10_ h11_ h12_ h13_ h14_
            have HO233 := n0_
            have HO236 := n1_
            have BK218 := n2_
            have BK219 := n3_
            have BK220 := n4_
            have BK240 := n5_
            have GW240 := n6_
            have GE240 := n7_
            have NB218_240 := n8_
            have NB240_218 := n9_
            have NB219_240 := n10_
            have NB240_219 := n11_
            have NB220_240 := n12_
            have NB240_220 := n13_
            have HB := n14_
            clear n0_ n1_ n2_ n3_ n4_ n5_ n6_ n7_ n8_ n9_ n10_ n11_ n12_ n13_ n14_
            have hHeld : w36.cell? ⟨gb218, 0, none⟩ = some (.int .i64 a0_0) ∧ w36.cell? ⟨gb218, 1, none⟩ = some (.int .i64 a0_1) ∧ w36.cell? ⟨gb218, 2, none⟩ = some (.slice A0_2 l0_2.length c0_2) ∧ w36.cell? ⟨gb219, 0, none⟩ = some (.int .i64 a2_0) ∧ w36.cell? ⟨gb219, 1, none⟩ = some (.int .i64 a2_1) ∧ w36.cell? ⟨gb219, 2, none⟩ = some (.string a2_2) := hS_
            obtain ⟨Ao38, co38, eo38⟩ := Kd.R_slice HO236.out
            (first | subst eo38 | (injection eo38 with f1_ f2_ f3_; have f4_ := f1_.symm; have f5_ := f3_.symm; clear f1_ f2_ f3_; subst f4_; subst f5_))
            refine norm_ (a' := ?_) ?_ ?_
            rotate_left
            ·simp only [putAll, Act.put, zA, zB, zC]
             rfl
            refine one_ (i := 16) (N := some 40) #[true, true, true, true, true, true, true, true, true, true, true, true, true, true, true, true, true, false, true, false] rfl rfl (one_of HT_.out (by kernel_rfl)) (by decide) (fun K hK => ?_)
            refine Kd.R_append_rows_step k89 (w0 := w) w.heap.size (by rfl) (.tmp 37) (.tmp 39) 38 89 (.agg #[(.int .i64 0), (.int .i64 0), (.string ⟨#[]⟩)]) 32 rfl Try.underlying38 info89 rfl (by decide) (by omega) v232 y231 y234 _ _ _ (fun k_ => some k_ ≠ (.slice Ao38 y234.length co38 : Value).ownBlock ∧ k_ ≠ gb219) (fun _ => False) rfl rfl ?aO ?aR (fun _ _ h => h) (fun _ h => h.elim) ?aF ?aB ?aS ?aL ?_
            (case aR => repeat (first | exact (Kd.R_reads' HO236.out).2.2 | (with_reducible refine Kd.C_alloc ?_ _) | (with_reducible refine Kd.C_drewN ?_ _) | (with_reducible refine Kd.C_drew ?_)))
            (case aB => exact (bt HB))
            (case aF => exact (fun k_ hk => ⟨Kd.fresh' (Kd.R_lt (rk HO236)) k_ hk, Kd.freshB (g := gb219) (o := .cells #[.int .i64 a2_0, .int .i64 a2_1, .string a2_2] 89 (0, 0)) (bk BK219) k_ hk⟩))
            (case aO => exact (rk HO233))
            (case aS => exact (below_size (bt HB)))
            (case aL => have := LMc25.out; omega)
            intro v238 w37 ho hb hg hat
            rw [← Ny237.out] at ho
            have n0_ := Aside0.mk (blk_grown (g := gb218) (o := .cells #[.int .i64 a0_0, .int .i64 a0_1, .slice A0_2 l0_2.length c0_2] 40 (0, 0)) (bk BK218) hg (Kd.R_ne HO233.out BK218.out (by decide)))
            have n1_ := Aside0.mk (blk_grown (g := gb219) (o := .cells #[.int .i64 a2_0, .int .i64 a2_1, .string a2_2] 89 (0, 0)) (bk BK219) hg (Kd.R_away HO233.out (fun _ hk => hk.2)))
            have n2_ := Aside0.mk (blk_grown (g := gb220) (o := .cells #[.int .i64 0, .int .i64 0, .slice none 0 0] 40 (0, 0)) (bk BK220) hg (Kd.R_ne HO233.out BK220.out (by decide)))
            have n3_ := Aside0.mk (Kd.R_after (ok := (fun k_ => k_ ≠ gb219)) (by (with_reducible repeat (first | apply Kd.R_alloc | apply Kd.R_drewN | apply Kd.R_drew)); exact Kd.R_mono HO236.out (fun _ hk => ⟨hk.2, hk.1⟩)) hg hat)
            have n4_ := Aside0.mk (blk_grown (g := gb240) (o := .cells #[.int .i64 0, .int .i64 0, .slice none 0 0] 40 (0, 0)) (bk BK240) hg (Kd.R_ne HO233.out BK240.out (by decide)))
            have n5_ := Aside0.mk (hb)
            have n6_ := Aside0.mk (ho)
            clear BK218 BK219 BK220 HO236 BK240 HB HO233
            revert n0_ n1_ n2_ n3_ n4_ n5_ n6_
            intro BK218 BK219 BK220 HO236 BK240 HB HO239
            clear ho hb hg hat
            obtain ⟨Ao39, co39, eo39⟩ := Kd.R_slice HO239.out
            (first | subst eo39 | (injection eo39 with f1_ f2_ f3_; have f4_ := f1_.symm; have f5_ := f3_.symm; clear f1_ f2_ f3_; subst f4_; subst f5_))
            refine hK.out _ _ ⟨bc BK218 0, bc BK218 1, bc BK218 2, bc BK219 0, bc BK219 1, bc BK219 2⟩ (fun hHeld => ?_)
            clear hK K
            refine norm_ (a' := ?_) ?_ ?_
            rotate_left
            ·show Act.put _ (some 40) _ = _
             simp only [Act.put, zA, zB, zC, i64_w, i32_w]
             rfl
            refine pu HT_ 17 (some 41) ?_
            exact norm_ (by first | (simp only [putAll, Act.put, zA, zB, zC]; done) | (simp only [putAll, Act.put, zA, zB, zC]; rfl)) (hJ4_13_15_16_18 (v225, v232, .slice Ao38 y234.length co38, .slice Ao39 y237.length co39, gb240) _ ⟨hHeld, (by (with_reducible repeat (first | apply Kd.R_alloc | apply Kd.R_drewN | apply Kd.R_drew)); exact Kd.R_mono HO236.out (fun _ hk => ⟨hk.2, hk.1⟩)), (rk HO239), (bk BK218), (bk BK219), (bk BK220), (bk BK240), GW240.out, GE240.out, NB218_240.out, NB240_218.out, NB219_240.out, NB240_219.out, NB220_240.out, NB240_220.out, (bt HB)⟩)
          ·skip
           rintro ⟨v225, v232, v235, v238⟩ w38 ⟨hS_, h0_, h1_, h2_, h3_, h4_, h5_⟩
           have n0_ : Aside0 (Kd.R k89 89 w38 w.heap.size (fun k_ => some k_ ≠ (v238 : Value).ownBlock ∧ k_ ≠ gb219) v235 y234) := ⟨h0_⟩
           have n1_ : Aside0 (Kd.R k89 89 w38 w.heap.size (fun k_ => some k_ ≠ (v235 : Value).ownBlock ∧ k_ ≠ gb219) v238 y237) := ⟨h1_⟩
           have n2_ : Aside0 (w38.heap[gb218]? = some (.cells #[.int .i64 a0_0, .int .i64 a0_1, .slice A0_2 l0_2.length c0_2] 40 (0, 0))) := ⟨h2_⟩
           have n3_ : Aside0 (w38.heap[gb219]? = some (.cells #[.int .i64 a2_0, .int .i64 a2_1, .string a2_2] 89 (0, 0))) := ⟨h3_⟩
           have n4_ : Aside0 (w38.heap[gb220]? = some (.cells #[.int .i64 0, .int .i64 0, .slice none 0 0] 40 (0, 0))) := ⟨h4_⟩
           have n5_ : Aside0 (Below w.heap.size w w38) := ⟨h5_⟩
           clear BK218
           clear BK219
           clear BK220
           clear HB
           clear h0_ h1_ h2_ h3_ h4_ h5_
           have HO236 := n0_
           have HO239 := n1_
           have BK218 := n2_
           have BK219 := n3_
           have BK220 := n4_
           have HB := n5_
           clear n0_ n1_ n2_ n3_ n4_ n5_
           have hHeld : w38.cell? ⟨gb218, 0, none⟩ = some (.int .i64 a0_0) ∧ w38.cell? ⟨gb218, 1, none⟩ = some (.int .i64 a0_1) ∧ w38.cell? ⟨gb218, 2, none⟩ = some (.slice A0_2 l0_2.length c0_2) ∧ w38.cell? ⟨gb219, 0, none⟩ = some (.int .i64 a2_0) ∧ w38.cell? ⟨gb219, 1, none⟩ = some (.int .i64 a2_1) ∧ w38.cell? ⟨gb219, 2, none⟩ = some (.string a2_2) := hS_
           obtain ⟨Ao39, co39, eo39⟩ := Kd.R_slice HO239.out
           (first | subst eo39 | (injection eo39 with f1_ f2_ f3_; have f4_ := f1_.symm; have f5_ := f3_.symm; clear f1_ f2_ f3_; subst f4_; subst f5_))
           refine norm_ (a' := ?_) ?_ ?_
           rotate_left
           ·simp only [putAll, Act.put, zA, zB, zC]
            rfl
           refine one_ (i := 18) (N := some 8) #[true, true, true, true, true, true, true, true, true, true, true, true, true, true, true, true, true, true, true, false] rfl rfl (one_of HT_.out (by kernel_rfl)) (by decide) (fun K hK => ?_)
           refine box_step ?hg (N := 8) ?hd (cs := #[.int .i64 0, .int .i64 0, .slice none 0 0]) (t := 40) ?hr ?_; (case hd => rfl); (case hg => rfl); (case hr => first | (go_simp; done) | (go_simp; rfl))
           intro gb240 hg w40 hbox hb
           have n0_ := rb HO236 hb
           have n1_ := rb HO239 hb
           have n2_ := bb BK218 hb
           have n3_ := bb BK219 hb
           have n4_ := bb BK220 hb
           have n5_ := Aside0.mk (below_step (bt HB) hb)
           have n6_ := Aside0.mk (hbox)
           have n7_ := ge_ hg HB
           have n8_ := ge_ hg HB
           have n9_ := nl_ hg BK218
           have n10_ := nr_ hg BK218
           have n11_ := nl_ hg BK219
           have n12_ := nr_ hg BK219
           have n13_ := nl_ hg BK220
           have n14_ := nr_ hg BK220
           clear HO236 HO239 BK218 BK219 BK220 HB
           revert n0_ n1_ n2_ n3_ n4_ n5_ n6_ n7_ n8_ n9_ n10_ n11_ n12_ n13_ n14_
           intro HO236 HO239 BK218 BK219 BK220 HB BK240 GW240 GE240 NB218_240 NB240_218 NB219_240 NB240_219 NB220_240 NB240_220
           clear hb hbox hg
           refine hK.out _ _ ⟨bc BK218 0, bc BK218 1, bc BK218 2, bc BK219 0, bc BK219 1, bc BK219 2⟩ (fun hHeld => ?_)
           clear hK K
           refine norm_ (a' := ?_) ?_ ?_
           rotate_left
           ·show Act.put _ (some 8) _ = _
            simp only [Act.put, zA, zB, zC, i64_w, i32_w]
            rfl
           exact norm_ (by first | (simp only [putAll, Act.put, zA, zB, zC]; done) | (simp only [putAll, Act.put, zA, zB, zC]; rfl)) (hJ4_13_15_16_18 (v225, v232, v235, .slice Ao39 y237.length co39, gb240) _ ⟨hHeld, (rk HO236), (rk HO239), (bk BK218), (bk BK219), (bk BK220), (bk BK240), GW240.out, GE240.out, NB218_240.out, NB240_218.out, NB219_240.out, NB240_219.out, NB220_240.out, NB240_220.out, (bt HB)⟩)
         rintro ⟨v225, v232, v235, v238, gb240⟩ w39 ⟨hS_, h0_, h1_, h2_, h3_, h4_, h5_, h6_, h7_, h8_, h9_, h10_, h11_, h12_, h13_, h14_⟩
         have n0_ : Aside0 (Kd.R k89 89 w39 w.heap.size (fun k_ => some k_ ≠ (v238 : Value).ownBlock ∧ k_ ≠ gb219) v235 y234) := ⟨h0_⟩
         have n1_ : Aside0 (Kd.R k89 89 w39 w.heap.size (fun k_ => some k_ ≠ (v235 : Value).ownBlock ∧ k_ ≠ gb219) v238 y237) := ⟨h1_⟩
         have n2_ : Aside0 (w39.heap[gb218]? = some (.cells #[.int .i64 a0_0, .int .i64 a0_1, .slice A0_2 l0_2.length c0_2] 40 (0, 0))) := ⟨h2_⟩
         have n3_ : Aside0 (w39.heap[gb219]? = some (.cells #[.int .i64 a2_0, .int .i64 a2_1, .string a2_2] 89 (0, 0))) := ⟨h3_⟩
         have n4_ : Aside0 (w39.heap[gb220]? = some (.cells #[.int .i64 0, .int .i64 0, .slice none 0 0] 40 (0, 0))) := ⟨h4_⟩
         have n5_ : Aside0 (w39.heap[gb240]? = some (.cells #[.int .i64 0, .int .i64 0, .slice none 0 0] 40 (0, 0))) := ⟨h5_⟩
         have n6_ : Aside0 (w.heap.size ≤ gb240) := ⟨h6_⟩
         have n7_ : Aside0 (w.heap.size ≤ gb240) := ⟨h7_⟩
         have n8_ : Aside0 (gb218 ≠ gb240) := ⟨h8_⟩
         have n9_ : Aside0 (gb240 ≠ gb218) := ⟨h9_⟩
         have n10_ : Aside0 (gb219 ≠ gb240) := ⟨h10_⟩
         have n11_ : Aside0 (gb240 ≠ gb219) := ⟨h11_⟩
         have n12_ : Aside0 (gb220 ≠ gb240) := ⟨h12_⟩
         have n13_ : Aside0 (gb240 ≠ gb220) := ⟨h13_⟩
         have n14_ : Aside0 (Below w.heap.size w w39) := ⟨h14_⟩
         clear BK218
         clear BK219
         clear BK220
         clear HB
         clear h0_ h1_ h2_ h3_ h4_ h5_ h6_ h7_ h8_ h9_ h10_ h11_ h12_ h13_ h14_
         have HO236 := n0_
         have HO239 := n1_
         have BK218 := n2_
         have BK219 := n3_
         have BK220 := n4_
         have BK240 := n5_
         have GW240 := n6_
         have GE240 := n7_
         have NB218_240 := n8_
         have NB240_218 := n9_
         have NB219_240 := n10_
         have NB240_219 := n11_
         have NB220_240 := n12_
         have NB240_220 := n13_
         have HB := n14_
         clear n0_ n1_ n2_ n3_ n4_ n5_ n6_ n7_ n8_ n9_ n10_ n11_ n12_ n13_ n14_
         have hHeld : w39.cell? ⟨gb218, 0, none⟩ = some (.int .i64 a0_0) ∧ w39.cell? ⟨gb218, 1, none⟩ = some (.int .i64 a0_1) ∧ w39.cell? ⟨gb218, 2, none⟩ = some (.slice A0_2 l0_2.length c0_2) ∧ w39.cell? ⟨gb219, 0, none⟩ = some (.int .i64 a2_0) ∧ w39.cell? ⟨gb219, 1, none⟩ = some (.int .i64 a2_1) ∧ w39.cell? ⟨gb219, 2, none⟩ = some (.string a2_2) := hS_
         obtain ⟨Ao40, co40, eo40⟩ := Kd.R_slice HO239.out
         (first | subst eo40 | (injection eo40 with f1_ f2_ f3_; have f4_ := f1_.symm; have f5_ := f3_.symm; clear f1_ f2_ f3_; subst f4_; subst f5_))
         refine norm_ (a' := ?_) ?_ ?_
         rotate_left
         ·simp only [putAll, Act.put, zA, zB, zC]
          rfl
         refine one_ (i := 19) (N := none) #[true, true, true, true, true, true, true, true, true, true, true, true, true, true, true, true, true, true, true, true] rfl rfl (one_of HT_.out (by kernel_rfl)) (by decide) (fun K hK => ?_)
         have hs41 : w39.cell? ⟨gb240, 0, none⟩ = some (.int .i64 0) := bc BK240 0
         have hfs41 := blk_frozen BK240.out 0
         have hns41_0 := NB218_240.out
         have hns41_1 := NB219_240.out
         have hns41_2 := NB220_240.out
         have hms41_0 := NB240_218.out
         have hms41_1 := NB240_219.out
         have hms41_2 := NB240_220.out
         have hs42 : w39.cell? ⟨gb240, 1, none⟩ = some (.int .i64 0) := bc BK240 1
         have hfs42 := blk_frozen BK240.out 1
         have hns42_0 := NB218_240.out
         have hns42_1 := NB219_240.out
         have hns42_2 := NB220_240.out
         have hms42_0 := NB240_218.out
         have hms42_1 := NB240_219.out
         have hms42_2 := NB240_220.out
         have hs43 : w39.cell? ⟨gb240, 2, none⟩ = some (.slice none 0 0) := bc BK240 2
         have hfs43 := blk_frozen BK240.out 2
         have hns43_0 := NB218_240.out
         have hns43_1 := NB219_240.out
         have hns43_2 := NB220_240.out
         have hms43_0 := NB240_218.out
         have hms43_1 := NB240_219.out
         have hms43_2 := NB240_220.out
         refine skip_ (w1 := ?_) (by rfl) rfl ?_ ?_
         rotate_left
         ·go_simp
          rfl
         refine hK.out _ _ ⟨((cell_far (p := ⟨gb240, _, none⟩) NB218_240.out _).trans (((cell_far (p := ⟨gb240, _, none⟩) NB218_240.out _).trans (((cell_far (p := ⟨gb240, _, none⟩) NB218_240.out _).trans (hHeld.1)))))), ((cell_far (p := ⟨gb240, _, none⟩) NB218_240.out _).trans (((cell_far (p := ⟨gb240, _, none⟩) NB218_240.out _).trans (((cell_far (p := ⟨gb240, _, none⟩) NB218_240.out _).trans (hHeld.2.1)))))), ((cell_far (p := ⟨gb240, _, none⟩) NB218_240.out _).trans (((cell_far (p := ⟨gb240, _, none⟩) NB218_240.out _).trans (((cell_far (p := ⟨gb240, _, none⟩) NB218_240.out _).trans (hHeld.2.2.1)))))), ((cell_far (p := ⟨gb240, _, none⟩) NB219_240.out _).trans (((cell_far (p := ⟨gb240, _, none⟩) NB219_240.out _).trans (((cell_far (p := ⟨gb240, _, none⟩) NB219_240.out _).trans (hHeld.2.2.2.1)))))), ((cell_far (p := ⟨gb240, _, none⟩) NB219_240.out _).trans (((cell_far (p := ⟨gb240, _, none⟩) NB219_240.out _).trans (((cell_far (p := ⟨gb240, _, none⟩) NB219_240.out _).trans (hHeld.2.2.2.2.1)))))), ((cell_far (p := ⟨gb240, _, none⟩) NB219_240.out _).trans (((cell_far (p := ⟨gb240, _, none⟩) NB219_240.out _).trans (((cell_far (p := ⟨gb240, _, none⟩) NB219_240.out _).trans (hHeld.2.2.2.2.2))))))⟩ (fun hHeld => ?_)
         clear hK K
         refine done_ (done_of HT_.out (by kernel_rfl)) ?_
         have hnb44 := NB240_218.out
         have hnc44 := NB218_240.out
         have hnb45 := NB240_219.out
         have hnc45 := NB219_240.out
         have hnb46 := NB240_220.out
         have hnc46 := NB220_240.out
         obtain ⟨hcz47_0, hcz47_1, hcz47_2, hfz47_0, hfz47_1, hfz47_2⟩ := bc3 BK240
        ·try go_wp2_with (first | ((with_reducible refine gd 43 rfl ?_); refine gl 32 43 Try.func32 #[.agg #[.int .i64 a0_0, .int .i64 a0_1, .slice Ao40 y237.length co40]] ?_; (with_reducible refine (spec_LogOk.calls kj3 a0_0 a0_1 _ _ y237 false _ ?side1 ?side2 A26.out).mono ?_); (case side1 => refine (Kd.R_reads' (e := 89) (base := w.heap.size) (ok := fun k_ => (some k_ ≠ (v235 : Value).ownBlock ∧ k_ ≠ gb219)) (n := y237.length) (c := co40) ?_).2.2; exact (by (with_reducible repeat (first | apply Kd.R_alloc | apply Kd.R_drewN | apply Kd.R_drew)); exact (Kd.R_mono (Kd.R_far (p := ⟨gb240, 2, none⟩) (Kd.R_far (p := ⟨gb240, 1, none⟩) (Kd.R_far (p := ⟨gb240, 0, none⟩) (Kd.R_types HO239.out BK240.out (by decide)) (fun _ hk => hk.2) (.int .i64 a0_0)) (fun _ hk => hk.2) (.int .i64 a0_1)) (fun _ hk => hk.2) (.slice Ao40 y237.length co40)) (fun _ h_ => h_.1)))); (case side2 => exact (Kd.R_reads' HO239.out).2.1); rintro e w73 ⟨rfl, hb⟩; refine ⟨_, rfl, ?_⟩; have n0_ := Aside0.mk (Kd.R_below (by (with_reducible repeat (first | apply Kd.R_alloc | apply Kd.R_drewN | apply Kd.R_drew)); exact (Kd.R_mono (Kd.R_far (p := ⟨gb240, 2, none⟩) (Kd.R_far (p := ⟨gb240, 1, none⟩) (Kd.R_far (p := ⟨gb240, 0, none⟩) (Kd.R_types HO236.out BK240.out (by decide)) (fun _ hk => hk.2) (.int .i64 a0_0)) (fun _ hk => hk.2) (.int .i64 a0_1)) (fun _ hk => hk.2) (.slice Ao40 y237.length co40)) (fun _ h_ => h_.1))) hb); have n1_ := Aside0.mk (Kd.R_below (by (with_reducible repeat (first | apply Kd.R_alloc | apply Kd.R_drewN | apply Kd.R_drew)); exact (Kd.R_mono (Kd.R_far (p := ⟨gb240, 2, none⟩) (Kd.R_far (p := ⟨gb240, 1, none⟩) (Kd.R_far (p := ⟨gb240, 0, none⟩) (Kd.R_types HO239.out BK240.out (by decide)) (fun _ hk => hk.2) (.int .i64 a0_0)) (fun _ hk => hk.2) (.int .i64 a0_1)) (fun _ hk => hk.2) (.slice Ao40 y237.length co40)) (fun _ h_ => h_.1))) hb); have n2_ := Aside0.mk (blk_below (g := gb218) (o := .cells #[.int .i64 a0_0, .int .i64 a0_1, .slice A0_2 l0_2.length c0_2] 40 (0, 0)) (by refine bk_ ?_; refine blk_far ?_ NB218_240.out _; refine bk_ ?_; refine blk_far ?_ NB218_240.out _; refine bk_ ?_; refine blk_far ?_ NB218_240.out _; refine bk_ ?_; exact BK218.out) hb); have n3_ := Aside0.mk (blk_below (g := gb219) (o := .cells #[.int .i64 a2_0, .int .i64 a2_1, .string a2_2] 89 (0, 0)) (by refine bk_ ?_; refine blk_far ?_ NB219_240.out _; refine bk_ ?_; refine blk_far ?_ NB219_240.out _; refine bk_ ?_; refine blk_far ?_ NB219_240.out _; refine bk_ ?_; exact BK219.out) hb); have n4_ := Aside0.mk (blk_below (g := gb220) (o := .cells #[.int .i64 0, .int .i64 0, .slice none 0 0] 40 (0, 0)) (by refine bk_ ?_; refine blk_far ?_ NB220_240.out _; refine bk_ ?_; refine blk_far ?_ NB220_240.out _; refine bk_ ?_; refine blk_far ?_ NB220_240.out _; refine bk_ ?_; exact BK220.out) hb); have n5_ := Aside0.mk (blk_below (g := gb240) (o := .cells #[.int .i64 a0_0, .int .i64 a0_1, .slice Ao40 y237.length co40] 40 (0, 0)) (by refine bk_ ?_; refine blk_put (cs := #[.int .i64 a0_0, .int .i64 a0_1, .slice none 0 0]) ?_ 2 _ rfl; refine bk_ ?_; refine blk_put (cs := #[.int .i64 a0_0, .int .i64 0, .slice none 0 0]) ?_ 1 _ rfl; refine bk_ ?_; refine blk_put (cs := #[.int .i64 0, .int .i64 0, .slice none 0 0]) ?_ 0 _ rfl; refine bk_ ?_; exact BK240.out) hb); have n6_ := Aside0.mk (below_step (bt HB) hb); clear HO236 HO239 BK218 BK219 BK220 BK240 HB; revert n0_ n1_ n2_ n3_ n4_ n5_ n6_; intro HO236 HO239 BK218 BK219 BK220 BK240 HB; (try clear hb); (try clear hb2); (try clear hk); (try clear hi); have hnb74 := NB220_218.out; have hnc74 := NB218_220.out; have hnb75 := NB220_219.out; have hnc75 := NB219_220.out; obtain ⟨hcz76_0, hcz76_1, hcz76_2, hfz76_0, hfz76_1, hfz76_2⟩ := bc3 BK220))
         refine bodyPost_ret (results_ct rfl _ _ gb220 40 #[.int .i64 0, .int .i64 0, .slice none 0 0] (0, 0) _ rfl (by (with_reducible repeat (first | refine blk_drewN ?_ _ | refine blk_drew ?_ | refine blk_alloc ?_ _)); refine blk_put (cs := #[.int .i64 0, .int .i64 0, .slice none 0 0]) ?_ 2 _ rfl; (with_reducible repeat (first | refine blk_drewN ?_ _ | refine blk_drew ?_ | refine blk_alloc ?_ _)); refine blk_put (cs := #[.int .i64 0, .int .i64 0, .slice none 0 0]) ?_ 1 _ rfl; (with_reducible repeat (first | refine blk_drewN ?_ _ | refine blk_drew ?_ | refine blk_alloc ?_ _)); refine blk_put (cs := #[.int .i64 0, .int .i64 0, .slice none 0 0]) ?_ 0 _ rfl; (with_reducible repeat (first | refine blk_drewN ?_ _ | refine blk_drew ?_ | refine blk_alloc ?_ _)); exact BK220.out) Try.underlying40 rfl (by kernel_rfl)) rfl ?_
         exact ⟨_, by first | rfl | (simp [errW_none, errW_some] <;> rfl) | (simp only [← hji21]; first | rfl | (simp [errW_none, errW_some] <;> rfl)) | (simp [*, errW_none, errW_some] <;> rfl), by first | exact Kd.R_nil _ _ _ _ _ | exact Kd.N_nil _ _ _ _ _ | exact Kd.V_nil _ _ _ _ _ | exact Kd.Q_nil _ _ _ _ _ | exact Kd.S_nil _ _ _ _ _, bt HB⟩
        ·try go_wp2_with (first | ((with_reducible refine gd 43 rfl ?_); refine gl 32 43 Try.func32 #[.agg #[.int .i64 a0_0, .int .i64 a0_1, .slice Ao40 y237.length co40]] ?_; (with_reducible refine (spec_LogOk.calls kj3 a0_0 a0_1 _ _ y237 true _ ?side1 ?side2 A26.out).mono ?_); (case side1 => refine (Kd.R_reads' (e := 89) (base := w.heap.size) (ok := fun k_ => (some k_ ≠ (v235 : Value).ownBlock ∧ k_ ≠ gb219)) (n := y237.length) (c := co40) ?_).2.2; exact (by (with_reducible repeat (first | apply Kd.R_alloc | apply Kd.R_drewN | apply Kd.R_drew)); exact (Kd.R_mono (Kd.R_far (p := ⟨gb240, 2, none⟩) (Kd.R_far (p := ⟨gb240, 1, none⟩) (Kd.R_far (p := ⟨gb240, 0, none⟩) (Kd.R_types HO239.out BK240.out (by decide)) (fun _ hk => hk.2) (.int .i64 a0_0)) (fun _ hk => hk.2) (.int .i64 a0_1)) (fun _ hk => hk.2) (.slice Ao40 y237.length co40)) (fun _ h_ => h_.1)))); (case side2 => exact (Kd.R_reads' HO239.out).2.1); rintro e w48 ⟨rfl, hb⟩; refine ⟨_, rfl, ?_⟩; have n0_ := Aside0.mk (Kd.R_below (by (with_reducible repeat (first | apply Kd.R_alloc | apply Kd.R_drewN | apply Kd.R_drew)); exact (Kd.R_mono (Kd.R_far (p := ⟨gb240, 2, none⟩) (Kd.R_far (p := ⟨gb240, 1, none⟩) (Kd.R_far (p := ⟨gb240, 0, none⟩) (Kd.R_types HO236.out BK240.out (by decide)) (fun _ hk => hk.2) (.int .i64 a0_0)) (fun _ hk => hk.2) (.int .i64 a0_1)) (fun _ hk => hk.2) (.slice Ao40 y237.length co40)) (fun _ h_ => h_.1))) hb); have n1_ := Aside0.mk (Kd.R_below (by (with_reducible repeat (first | apply Kd.R_alloc | apply Kd.R_drewN | apply Kd.R_drew)); exact (Kd.R_mono (Kd.R_far (p := ⟨gb240, 2, none⟩) (Kd.R_far (p := ⟨gb240, 1, none⟩) (Kd.R_far (p := ⟨gb240, 0, none⟩) (Kd.R_types HO239.out BK240.out (by decide)) (fun _ hk => hk.2) (.int .i64 a0_0)) (fun _ hk => hk.2) (.int .i64 a0_1)) (fun _ hk => hk.2) (.slice Ao40 y237.length co40)) (fun _ h_ => h_.1))) hb); have n2_ := Aside0.mk (blk_below (g := gb218) (o := .cells #[.int .i64 a0_0, .int .i64 a0_1, .slice A0_2 l0_2.length c0_2] 40 (0, 0)) (by refine bk_ ?_; refine blk_far ?_ NB218_240.out _; refine bk_ ?_; refine blk_far ?_ NB218_240.out _; refine bk_ ?_; refine blk_far ?_ NB218_240.out _; refine bk_ ?_; exact BK218.out) hb); have n3_ := Aside0.mk (blk_below (g := gb219) (o := .cells #[.int .i64 a2_0, .int .i64 a2_1, .string a2_2] 89 (0, 0)) (by refine bk_ ?_; refine blk_far ?_ NB219_240.out _; refine bk_ ?_; refine blk_far ?_ NB219_240.out _; refine bk_ ?_; refine blk_far ?_ NB219_240.out _; refine bk_ ?_; exact BK219.out) hb); have n4_ := Aside0.mk (blk_below (g := gb220) (o := .cells #[.int .i64 0, .int .i64 0, .slice none 0 0] 40 (0, 0)) (by refine bk_ ?_; refine blk_far ?_ NB220_240.out _; refine bk_ ?_; refine blk_far ?_ NB220_240.out _; refine bk_ ?_; refine blk_far ?_ NB220_240.out _; refine bk_ ?_; exact BK220.out) hb); have n5_ := Aside0.mk (blk_below (g := gb240) (o := .cells #[.int .i64 a0_0, .int .i64 a0_1, .slice Ao40 y237.length co40] 40 (0, 0)) (by refine bk_ ?_; refine blk_put (cs := #[.int .i64 a0_0, .int .i64 a0_1, .slice none 0 0]) ?_ 2 _ rfl; refine bk_ ?_; refine blk_put (cs := #[.int .i64 a0_0, .int .i64 0, .slice none 0 0]) ?_ 1 _ rfl; refine bk_ ?_; refine blk_put (cs := #[.int .i64 0, .int .i64 0, .slice none 0 0]) ?_ 0 _ rfl; refine bk_ ?_; exact BK240.out) hb); have n6_ := Aside0.mk (below_step (bt HB) hb); clear HO236 HO239 BK218 BK219 BK220 BK240 HB; revert n0_ n1_ n2_ n3_ n4_ n5_ n6_; intro HO236 HO239 BK218 BK219 BK220 BK240 HB; (try clear hb); (try clear hb2); (try clear hk); (try clear hi); obtain ⟨hcz49_0, hcz49_1, hcz49_2, hfz49_0, hfz49_1, hfz49_2⟩ := bc3 BK240; have hnb50 := NB220_218.out; have hnc50 := NB218_220.out; have hnb51 := NB220_219.out; have hnc51 := NB219_220.out; obtain ⟨hcz52_0, hcz52_1, hcz52_2, hfz52_0, hfz52_1, hfz52_2⟩ := bc3 BK220))
         refine bodyPost_ret (results_ct rfl _ _ gb220 40 #[.int .i64 a0_0, .int .i64 a0_1, .slice Ao40 y237.length co40] (0, 0) _ rfl (by (with_reducible repeat (first | refine blk_drewN ?_ _ | refine blk_drew ?_ | refine blk_alloc ?_ _)); refine blk_put (cs := #[.int .i64 a0_0, .int .i64 a0_1, .slice none 0 0]) ?_ 2 _ rfl; (with_reducible repeat (first | refine blk_drewN ?_ _ | refine blk_drew ?_ | refine blk_alloc ?_ _)); refine blk_put (cs := #[.int .i64 a0_0, .int .i64 0, .slice none 0 0]) ?_ 1 _ rfl; (with_reducible repeat (first | refine blk_drewN ?_ _ | refine blk_drew ?_ | refine blk_alloc ?_ _)); refine blk_put (cs := #[.int .i64 0, .int .i64 0, .slice none 0 0]) ?_ 0 _ rfl; (with_reducible repeat (first | refine blk_drewN ?_ _ | refine blk_drew ?_ | refine blk_alloc ?_ _)); exact BK220.out) Try.underlying40 rfl (by kernel_rfl)) rfl ?_
         exact ⟨_, by first | rfl | (simp [errW_none, errW_some] <;> rfl) | (simp only [← hji21]; first | rfl | (simp [errW_none, errW_some] <;> rfl)) | (simp [*, errW_none, errW_some] <;> rfl), by (with_reducible repeat (first | apply Kd.R_alloc | apply Kd.R_drewN | apply Kd.R_drew)); exact Kd.R_mono (Kd.R_far (p := ⟨gb220, 2, none⟩) (Kd.R_far (p := ⟨gb220, 1, none⟩) (Kd.R_far (p := ⟨gb220, 0, none⟩) (Kd.R_types HO239.out BK220.out (by decide)) (fun _ hk => hk.2) (.int .i64 a0_0)) (fun _ hk => hk.2) (.int .i64 a0_1)) (fun _ hk => hk.2) (.slice Ao40 y237.length co40)) (fun _ hk => trivial), bt HB⟩
       ·rw [if_neg c25] at H
        exact absurd H (by simp)
      ·rw [if_neg c24] at H
       exact absurd H (by simp)
     ·rw [if_neg c23] at H
      exact absurd H (by simp)
    ·rw [if_neg c22] at H
     exact absurd H (by simp)
end Go.Proofs.Ytghhepailkkneaa.PFnExactReadJournal
