/- What the functions that FnExactLogPut reaches compute, and that the machine's calls compute it. Begun as a text of the kit's print. No condition. -/
import Derived.Test.YtpmdcplmnipdeaaShort
import Derived.Test.YtpmdcplmnipdeaaQFnExactLogPutx0
import Derived.Test.YtpmdcplmnipdeaaQFnExactLogPutx2
import Derived.Test.YtpmdcplmnipdeaaQFnExactLogPutx3
namespace Go.Proofs.Ytpmdcplmnipdeaa.PFnExactLogPut
open Go.RowKit Go.Proofs.YtpmdcplmnipdeaaW.PrintWords Go.Proofs.YtpmdcplmnipdeaaW.PrintLast Go.Proofs.YtpmdcplmnipdeaaW.PrintMore Go.Proofs.YtpmdcplmnipdeaaW.Short
attribute [local go_sem] max2_int min2_int max_two min_two max_three min_three max_four min_four   -- for this text's walks alone
set_option linter.unusedVariables false
set_option linter.unusedSimpArgs false

/-! ### spec_LogPut: function 46 -/
def spec_LogPut.j0 : Nat → Int → Bool → Int → Int → List (S53) → Int → Int → ByteArray → Option (Int × Int × (List (S53)) × Bool)
  | 0, _, _, _, _, _, _, _, _ => none
  | k + 1, x1, x22, x172000, x172001, x172002, x173000, x173001, x173002 => if x22 = true then (some (0, 0, ([] : List (S53)), false)) else ((some (([] : List (S53)) : List (S53))).bind fun y177 => (if 0 ≤ (wrap64 ((wrap64 (x1 - x172000)) - 1)) then (if (wrap64 ((wrap64 (x1 - x172000)) - 1)) ≤ (x172002.length : Int) then ((some (x172002.take ((wrap64 ((wrap64 (x1 - x172000)) - 1)) : Int).toNat : List (S53))).bind fun y180 => (if y177.length + y180.length < 4398046511104 then ((some (y177 ++ y180 : List (S53))).bind fun y184 => ((some (([(⟨x173000, x173001, x173002⟩ : S53)] : List (S53)) : List (S53))).bind fun y187 => (if y184.length + y187.length < 4398046511104 then ((some (y184 ++ y187 : List (S53))).bind fun y190 => ((spec_LogOk.f k x172000 x172001 y190).bind fun t194 => (if t194 = true then (some (x172000, x172001, y190, true)) else (some (0, 0, ([] : List (S53)), false))))) else (none)))) else (none))) else (none)) else (none)))
def spec_LogPut.f (k : Nat) (a0_0 : Int) (a0_1 : Int) (l0_2 : List (S53)) (a1 : Int) (a2_0 : Int) (a2_1 : Int) (a2_2 : ByteArray) : Option (Int × Int × (List (S53)) × Bool) := (spec_LogOk.f k a0_0 a0_1 l0_2).bind fun t174 => (if t174 = true then ((spec_l06Last.f a0_0 a0_1 l0_2).bind fun t175 => ((spec_l01In.f a1 (wrap64 (a0_0 + 1)) (wrap64 (t175 + 1))).bind fun t176 => (spec_LogPut.j0 k a1 (!t176) a0_0 a0_1 l0_2 a2_0 a2_1 a2_2))) else (spec_LogPut.j0 k a1 true a0_0 a0_1 l0_2 a2_0 a2_1 a2_2))
theorem spec_LogPut.mono_l : ∀ k, (∀ y0 y1 y2 y3 y4 y5 y6 y7, LeO (spec_LogPut.j0 k y0 y1 y2 y3 y4 y5 y6 y7) (spec_LogPut.j0 (k + 1) y0 y1 y2 y3 y4 y5 y6 y7))
  | 0 => fun _ _ _ _ _ _ _ _ r h => by simp [spec_LogPut.j0] at h
  | k + 1 => by
    have ih0 := spec_LogPut.mono_l k
    · intro y0 y1 y2 y3 y4 y5 y6 y7
      unfold spec_LogPut.j0
      repeat' first
      | (with_reducible exact ih0 _ _ _ _ _ _ _ _)
      | (with_reducible exact spec_LogOk.mono _ _ _ _)
      | (with_reducible exact LeO.refl _)
      | (with_reducible exact LeO.none _)
      | (with_reducible refine LeO.ite ?_ ?_)
      | (with_reducible refine LeO.bind ?_ (fun _ => ?_))
      | exact ih0 _ _ _ _ _ _ _ _
      | exact spec_LogOk.mono _ _ _ _
      | exact LeO.none _
      | refine LeO.ite ?_ ?_
      | refine LeO.bind ?_ (fun _ => ?_)
theorem spec_LogPut.mono : ∀ a0 a1 a2 a3 a4 a5 a6 k, LeO (spec_LogPut.f k a0 a1 a2 a3 a4 a5 a6) (spec_LogPut.f (k + 1) a0 a1 a2 a3 a4 a5 a6) := by
  intro a0 a1 a2 a3 a4 a5 a6 k
  have ih0 := spec_LogPut.mono_l k
  unfold spec_LogPut.f
  repeat' first
      | (with_reducible exact ih0 _ _ _ _ _ _ _ _)
      | (with_reducible exact spec_LogOk.mono _ _ _ _)
      | (with_reducible exact LeO.refl _)
      | (with_reducible exact LeO.none _)
      | (with_reducible refine LeO.ite ?_ ?_)
      | (with_reducible refine LeO.bind ?_ (fun _ => ?_))
      | exact ih0 _ _ _ _ _ _ _ _
      | exact spec_LogOk.mono _ _ _ _
      | exact LeO.none _
      | refine LeO.ite ?_ ?_
      | refine LeO.bind ?_ (fun _ => ?_)
def spec_LogPut.T1 : Bool × List (List Nat × List Nat) := (true, [([], []), ([0], [0]), ([1], [1]), ([2, 1], [2]), ([3], [3]), ([3], [3]), ([5, 3], [3, 5]), ([6, 3], [3, 6]), ([3], [3]), ([8, 3, 3], [3, 8]), ([9, 3], [3, 9]), ([4, 7, 10, 9, 3], [3, 4, 7, 10]), ([11, 3], [3, 11]), ([3, 12], [3, 12])])
def spec_LogPut.B1 : List Nat := [0, 1, 3, 7, 15, 15, 47, 111, 15, 271, 783, 2047, 4095, 8191]
theorem spec_LogPut.tab1 : rtab .any (opsOf Try.f46 1) = spec_LogPut.T1 := by kernel_rfl
theorem spec_LogPut.bits1 : waitsOk spec_LogPut.T1.2 spec_LogPut.B1 = true := by kernel_rfl
def spec_LogPut.T3 : Bool × List (List Nat × List Nat) := (true, [([], []), ([0], [0]), ([], []), ([2], [2]), ([], []), ([], []), ([5], [5]), ([], []), ([], []), ([8], [8]), ([7, 9], [7, 9]), ([10], [10]), ([6, 11], [6, 11]), ([4, 12], [4, 12]), ([], []), ([14], [14]), ([13, 15, 13], [13, 15]), ([1, 3, 16], [1, 3, 16]), ([], []), ([18, 17, 16, 0, 1, 2, 3, 4, 5, 6, 7, 8, 9, 10, 11, 12, 13, 14, 15, 16, 17, 18], [17, 18])])
def spec_LogPut.B3 : List Nat := [0, 1, 0, 4, 0, 0, 32, 0, 0, 256, 896, 1920, 4064, 8176, 0, 16384, 65520, 131071, 0, 524287]
theorem spec_LogPut.tab3 : rtab .any (opsOf Try.f46 3) = spec_LogPut.T3 := by kernel_rfl
theorem spec_LogPut.bits3 : waitsOk spec_LogPut.T3.2 spec_LogPut.B3 = true := by kernel_rfl
set_option maxHeartbeats 80000000 in
set_option maxRecDepth 100000 in
theorem spec_LogPut.calls (k : Nat) (a0_0 : Int) (a0_1 : Int) (A0_2 : Option Addr) (c0_2 : Nat) (l0_2 : List (S53)) (a1 : Int) (a2_0 : Int) (a2_1 : Int) (a2_2 : ByteArray) (r1 : Int) (r2 : Int) (r3 : List (S53)) (r4 : Bool) (w : World) (hr0_2 : Kd.C k53 w A0_2 l0_2.length l0_2) (hc0_2 : l0_2.length ≤ c0_2) (h : spec_LogPut.f k a0_0 a0_1 l0_2 a1 a2_0 a2_1 a2_2 = some (r1, r2, r3, r4)) :
  Calls Try.prog 46 #[.agg #[.int .i64 a0_0, .int .i64 a0_1, .slice A0_2 l0_2.length c0_2], .int .i64 a1, .agg #[.int .i64 a2_0, .int .i64 a2_1, .string a2_2]] w fun e w' => ∃ v2_ : Value, e = .returned (.tuple #[.agg #[.int .i64 r1, .int .i64 r2, v2_], .bool r4]) ∧ Kd.R k53 53 w' w.heap.size (fun _ => True) v2_ r3 ∧ Below w.heap.size w w' := by
 have hu40 := Try.underlying40
 have hu53 := Try.underlying53
 have HR0_2 := Aside0.mk hr0_2
 have HC0_2 := Aside0.mk hc0_2
 clear hr0_2 hc0_2
 have HB := Aside0.mk (Below.refl w.heap.size w)
 have H : ((spec_LogOk.f k a0_0 a0_1 l0_2).bind fun t174 => (if t174 = true then ((spec_l06Last.f a0_0 a0_1 l0_2).bind fun t175 => ((spec_l01In.f a1 (wrap64 (a0_0 + 1)) (wrap64 (t175 + 1))).bind fun t176 => (spec_LogPut.j0 k a1 (!t176) a0_0 a0_1 l0_2 a2_0 a2_1 a2_2))) else (spec_LogPut.j0 k a1 true a0_0 a0_1 l0_2 a2_0 a2_1 a2_2))) = some (r1, r2, r3, r4) := h
 clear h
 have HC4 := Aside0.mk H
 clear H
 go_enter Try.func46, Try.ntmps46
 go_upto_region 1 with (first | ((with_reducible refine gate_dst (N := 3) rfl ?_); refine box_event ?hg (N := 3) ?hd (cs := #[.int .i64 a0_0, .int .i64 a0_1, .slice A0_2 l0_2.length c0_2]) (t := 40) ?hr ?_; (case hd => rfl); (case hg => rfl); (case hr => first | (go_simp; done) | (go_simp; rfl)); intro gb171 hg w5 hbox hb; have n0_ := Aside0.mk (below_step (bt HB) hb); have n1_ := Aside0.mk (hbox); have n2_ := Aside0.mk ((by rw [hg]; exact (below_size (bt HB)) : w.heap.size ≤ gb171)); have n3_ := Aside0.mk ((by rw [hg]; exact (below_size (bt HB)) : w.heap.size ≤ gb171)); clear HB; revert n0_ n1_ n2_ n3_; intro HB BK171 GW171 GE171; clear hb hbox hg) | ((with_reducible refine gate_dst (N := 5) rfl ?_); refine box_event ?hg (N := 5) ?hd (cs := #[.int .i64 a2_0, .int .i64 a2_1, .string a2_2]) (t := 53) ?hr ?_; (case hd => rfl); (case hg => rfl); (case hr => first | (go_simp; done) | (go_simp; rfl)); intro gb172 hg w6 hbox hb; have n0_ := bb BK171 hb; have n1_ := Aside0.mk (below_step (bt HB) hb); have n2_ := Aside0.mk (hbox); have n3_ := Aside0.mk ((by rw [hg]; exact (below_size (bt HB)) : w.heap.size ≤ gb172)); have n4_ := Aside0.mk ((by rw [hg]; exact (below_size (bt HB)) : w.heap.size ≤ gb172)); have n5_ := Aside0.mk ((by rw [hg]; exact Nat.ne_of_lt (blk_lt (bk BK171)) : gb171 ≠ gb172)); have n6_ := Aside0.mk ((by rw [hg]; exact Nat.ne_of_gt (blk_lt (bk BK171)) : gb172 ≠ gb171)); clear BK171 HB; revert n0_ n1_ n2_ n3_ n4_ n5_ n6_; intro BK171 HB BK172 GW172 GE172 NB171_172 NB172_171; clear hb hbox hg) | ((with_reducible refine gate_dst (N := 6) rfl ?_); refine box_event ?hg (N := 6) ?hd (cs := #[.int .i64 0, .int .i64 0, .slice none 0 0]) (t := 40) ?hr ?_; (case hd => rfl); (case hg => rfl); (case hr => first | (go_simp; done) | (go_simp; rfl)); intro gb173 hg w7 hbox hb; have n0_ := bb BK171 hb; have n1_ := bb BK172 hb; have n2_ := Aside0.mk (below_step (bt HB) hb); have n3_ := Aside0.mk (hbox); have n4_ := Aside0.mk ((by rw [hg]; exact (below_size (bt HB)) : w.heap.size ≤ gb173)); have n5_ := Aside0.mk ((by rw [hg]; exact (below_size (bt HB)) : w.heap.size ≤ gb173)); have n6_ := Aside0.mk ((by rw [hg]; exact Nat.ne_of_lt (blk_lt (bk BK171)) : gb171 ≠ gb173)); have n7_ := Aside0.mk ((by rw [hg]; exact Nat.ne_of_gt (blk_lt (bk BK171)) : gb173 ≠ gb171)); have n8_ := Aside0.mk ((by rw [hg]; exact Nat.ne_of_lt (blk_lt (bk BK172)) : gb172 ≠ gb173)); have n9_ := Aside0.mk ((by rw [hg]; exact Nat.ne_of_gt (blk_lt (bk BK172)) : gb173 ≠ gb172)); clear BK171 BK172 HB; revert n0_ n1_ n2_ n3_ n4_ n5_ n6_ n7_ n8_ n9_; intro BK171 BK172 HB BK173 GW173 GE173 NB171_173 NB173_171 NB172_173 NB173_172; clear hb hbox hg))
 (try simp only [Act.put, zA, zB, zC])
 go_cut [22] (fun v22 wc => ∃ (kq : Nat) (x22_3 : Bool), v22 = .bool x22_3 ∧ Aside0 (spec_LogPut.j0 kq a1 x22_3 a0_0 a0_1 l0_2 a2_0 a2_1 a2_2 = some (r1, r2, r3, r4)) ∧ Aside0 (kq ≤ k) ∧ Aside0 (wc.heap[gb171]? = some (.cells #[.int .i64 a0_0, .int .i64 a0_1, (.slice A0_2 l0_2.length c0_2)] 40 (0, 0))) ∧ Aside0 (wc.heap[gb172]? = some (.cells #[.int .i64 a2_0, .int .i64 a2_1, .string a2_2] 53 (0, 0))) ∧ Aside0 (wc.heap[gb173]? = some (.cells #[.int .i64 0, .int .i64 0, (.slice none 0 0)] 40 (0, 0))) ∧ Aside0 (Below w.heap.size w wc))
 case first =>
  have H := HC4.out
  clear HC4
  replace H := Option.bind_eq_some_iff.mp H
  obtain ⟨t174, A80, H⟩ := H
  replace H : (if t174 = true then ((spec_l06Last.f a0_0 a0_1 l0_2).bind fun t175 => ((spec_l01In.f a1 (wrap64 (a0_0 + 1)) (wrap64 (t175 + 1))).bind fun t176 => (spec_LogPut.j0 k a1 (!t176) a0_0 a0_1 l0_2 a2_0 a2_1 a2_2))) else (spec_LogPut.j0 k a1 true a0_0 a0_1 l0_2 a2_0 a2_1 a2_2)) = some (r1, r2, r3, r4) := H
  have A8 := Aside0.mk A80
  clear A80
  by_cases c9 : t174 = true
  ·subst c9
   have H1 : ((spec_l06Last.f a0_0 a0_1 l0_2).bind fun t175 => ((spec_l01In.f a1 (wrap64 (a0_0 + 1)) (wrap64 (t175 + 1))).bind fun t176 => (spec_LogPut.j0 k a1 (!t176) a0_0 a0_1 l0_2 a2_0 a2_1 a2_2))) = some (r1, r2, r3, r4) := by rw [if_pos rfl] at H; exact H
   clear H
   have H := H1
   clear H1
   replace H := Option.bind_eq_some_iff.mp H
   obtain ⟨t175, A100, H⟩ := H
   replace H : ((spec_l01In.f a1 (wrap64 (a0_0 + 1)) (wrap64 (t175 + 1))).bind fun t176 => (spec_LogPut.j0 k a1 (!t176) a0_0 a0_1 l0_2 a2_0 a2_1 a2_2)) = some (r1, r2, r3, r4) := H
   have A10 := Aside0.mk A100
   clear A100
   replace H := Option.bind_eq_some_iff.mp H
   obtain ⟨t176, A110, H⟩ := H
   replace H : (spec_LogPut.j0 k a1 (!t176) a0_0 a0_1 l0_2 a2_0 a2_1 a2_2) = some (r1, r2, r3, r4) := H
   have A11 := Aside0.mk A110
   clear A110
   have H' := Aside0.mk H
   clear H
   try go_wp2
   have n0_ := Aside0.mk (blk_drew BK171.out)
   have n1_ := Aside0.mk (blk_drew BK172.out)
   have n2_ := Aside0.mk (blk_drew BK173.out)
   have n3_ := Aside0.mk (below_drew1 HB.out)
   clear BK171 BK172 BK173 HB
   revert n0_ n1_ n2_ n3_
   intro BK171 BK172 BK173 HB
   refine start_ (n := 14) (S := fun w' => w'.cell? ⟨gb171, 0, none⟩ = some (.int .i64 a0_0) ∧ w'.cell? ⟨gb171, 1, none⟩ = some (.int .i64 a0_1) ∧ w'.cell? ⟨gb171, 2, none⟩ = some (.slice A0_2 l0_2.length c0_2)) (ds := []) #[false, false, false, false, false, false, false, false, false, false, false, false, false, false] (by kernel_rfl) rfl rfl ⟨bc BK171 0, bc BK171 1, bc BK171 2⟩ (fun hHeld => ?_); refine with_tabW spec_LogPut.tab1 spec_LogPut.bits1 (fun HT_ HW_ => ?_)
   generalize w7.drew = w12 at BK171 BK172 BK173 HB hHeld ⊢
   refine take_ (i := 0) (N := some 9) (v := ?_) (a' := ?_) #[true, false, false, false, false, false, false, false, false, false, false, false, false, false] rfl rfl (take_ofW HT_.out HW_.out (by kernel_rfl)) (fun _ _ _ h => h) (Or.inl ⟨by rfl, ?_⟩) hHeld ?_ ?_
   rotate_left
   ·rintro w' ⟨s0, s1, s2⟩
    go_simp
    with_reducible rfl
   rotate_left
   ·simp only [Act.put, zA, zB, zC, i64_w, i32_w]
    rfl
   refine one_ (i := 1) (N := some 10) #[true, true, false, false, false, false, false, false, false, false, false, false, false, false] rfl rfl (one_of HT_.out (by kernel_rfl)) (by decide) (fun K hK => ?_)
   refine goes_ Try.func18 (by kernel_rfl) rfl #[.agg #[.int .i64 a0_0, .int .i64 a0_1, .slice A0_2 l0_2.length c0_2]] (by rfl) rfl rfl (by (try simp only [List.map_toArray, List.map_cons, List.map_nil]); first | done | rfl | (simp only [List.length_drop, List.length_take]; rfl)) ?_
   with_reducible refine (spec_LogOk.calls k a0_0 a0_1 _ _ l0_2 true _ ?side1 ?side2 A8.out).mono ?_
   (case side1 => repeat (first | exact (Kd.C_below HR0_2.out HB.out) | (with_reducible refine Kd.C_alloc ?_ _) | (with_reducible refine Kd.C_drewN ?_ _) | (with_reducible refine Kd.C_drew ?_)))
   (case side2 => exact HC0_2.out)
   rintro e w13 ⟨rfl, hb⟩
   refine ⟨_, rfl, ?_⟩
   have n0_ := bb BK171 hb
   have n1_ := bb BK172 hb
   have n2_ := bb BK173 hb
   have n3_ := Aside0.mk (below_step (bt HB) hb)
   clear BK171 BK172 BK173 HB
   revert n0_ n1_ n2_ n3_
   intro BK171 BK172 BK173 HB
   (try clear hb)
   (try clear hb2)
   (try clear hk)
   (try clear hi)
   refine hK.out _ _ ⟨bc BK171 0, bc BK171 1, bc BK171 2⟩ (fun hHeld => ?_)
   clear hK K
   refine norm_ (a' := ?_) ?_ ?_
   rotate_left
   ·show Act.put _ (some 10) _ = _
    simp only [Act.put, zA, zB, zC, i64_w, i32_w]
    rfl
   refine pure_ (i := 2) (N := some 11) (v := ?_) (a' := ?_) #[true, true, true, false, false, false, false, false, false, false, false, false, false, false] rfl rfl (any_of HT_.out (by kernel_rfl)) (fun _ _ _ h => h) (Or.inl ⟨by rfl, ?_⟩) ?_ ?_
   rotate_left
   ·intro w'
    go_simp
    with_reducible rfl
   rotate_left
   ·simp only [Act.put, zA, zB, zC, i64_w, i32_w]
    rfl
   refine pure_ (i := 3) (N := some 12) (v := ?_) (a' := ?_) #[true, true, true, true, false, false, false, false, false, false, false, false, false, false] rfl rfl (any_of HT_.out (by kernel_rfl)) (fun _ _ _ h => h) (Or.inl ⟨by rfl, ?_⟩) ?_ ?_
   rotate_left
   ·intro w'
    go_simp
    with_reducible rfl
   rotate_left
   ·simp only [Act.put, zA, zB, zC, i64_w, i32_w]
    rfl
   refine pure_ (i := 4) (N := some 13) (v := ?_) (a' := ?_) #[true, true, true, true, true, false, false, false, false, false, false, false, false, false] rfl rfl (any_of HT_.out (by kernel_rfl)) (fun _ _ _ h => h) (Or.inl ⟨by rfl, ?_⟩) ?_ ?_
   rotate_left
   ·intro w'
    go_simp
    with_reducible rfl
   rotate_left
   ·simp only [Act.put, zA, zB, zC, i64_w, i32_w]
    rfl
   refine pure_ (i := 5) (N := some 14) (v := ?_) (a' := ?_) #[true, true, true, true, true, true, false, false, false, false, false, false, false, false] rfl rfl (any_of HT_.out (by kernel_rfl)) (fun _ _ _ h => h) (Or.inl ⟨by rfl, ?_⟩) ?_ ?_
   rotate_left
   ·intro w'
    go_simp
    with_reducible rfl
   rotate_left
   ·simp only [Act.put, zA, zB, zC, i64_w, i32_w]
    rfl
   refine take_ (i := 6) (N := some 15) (v := ?_) (a' := ?_) #[true, true, true, true, true, true, true, false, false, false, false, false, false, false] rfl rfl (take_ofW HT_.out HW_.out (by kernel_rfl)) (fun _ _ _ h => h) (Or.inl ⟨by rfl, ?_⟩) hHeld ?_ ?_
   rotate_left
   ·rintro w' ⟨s0, s1, s2⟩
    go_simp
    with_reducible rfl
   rotate_left
   ·simp only [Act.put, zA, zB, zC, i64_w, i32_w]
    rfl
   refine pure_ (i := 7) (N := some 16) (v := ?_) (a' := ?_) #[true, true, true, true, true, true, true, true, false, false, false, false, false, false] rfl rfl (any_of HT_.out (by kernel_rfl)) (fun _ _ _ h => h) (Or.inl ⟨by rfl, ?_⟩) ?_ ?_
   rotate_left
   ·intro w'
    go_simp
    with_reducible rfl
   rotate_left
   ·simp only [Act.put, zA, zB, zC, i64_w, i32_w]
    rfl
   refine take_ (i := 8) (N := some 17) (v := ?_) (a' := ?_) #[true, true, true, true, true, true, true, true, true, false, false, false, false, false] rfl rfl (take_ofW HT_.out HW_.out (by kernel_rfl)) (fun _ _ _ h => h) (Or.inl ⟨by rfl, ?_⟩) hHeld ?_ ?_
   rotate_left
   ·rintro w' ⟨s0, s1, s2⟩
    go_simp
    with_reducible rfl
   rotate_left
   ·simp only [Act.put, zA, zB, zC, i64_w, i32_w]
    rfl
   refine one_ (i := 9) (N := some 18) #[true, true, true, true, true, true, true, true, true, true, false, false, false, false] rfl rfl (one_of HT_.out (by kernel_rfl)) (by decide) (fun K hK => ?_)
   refine goes_ Try.func92 (by kernel_rfl) rfl #[.agg #[.int .i64 a0_0, .int .i64 a0_1, .slice A0_2 l0_2.length c0_2]] (by rfl) rfl rfl (by (try simp only [List.map_toArray, List.map_cons, List.map_nil]); first | done | rfl | (simp only [List.length_drop, List.length_take]; rfl)) ?_
   with_reducible refine (spec_l06Last.calls a0_0 a0_1 _ _ l0_2 t175 _ ?side1 ?side2 A10.out).mono ?_
   (case side1 => repeat (first | exact (Kd.C_below HR0_2.out HB.out) | (with_reducible refine Kd.C_alloc ?_ _) | (with_reducible refine Kd.C_drewN ?_ _) | (with_reducible refine Kd.C_drew ?_)))
   (case side2 => exact HC0_2.out)
   rintro e w14 ⟨rfl, hb⟩
   refine ⟨_, rfl, ?_⟩
   have n0_ := bb BK171 hb
   have n1_ := bb BK172 hb
   have n2_ := bb BK173 hb
   have n3_ := Aside0.mk (below_step (bt HB) hb)
   clear BK171 BK172 BK173 HB
   revert n0_ n1_ n2_ n3_
   intro BK171 BK172 BK173 HB
   (try clear hb)
   (try clear hb2)
   (try clear hk)
   (try clear hi)
   refine hK.out _ _ ⟨bc BK171 0, bc BK171 1, bc BK171 2⟩ (fun hHeld => ?_)
   clear hK K
   refine norm_ (a' := ?_) ?_ ?_
   rotate_left
   ·show Act.put _ (some 18) _ = _
    simp only [Act.put, zA, zB, zC, i64_w, i32_w]
    rfl
   refine pure_ (i := 10) (N := some 19) (v := ?_) (a' := ?_) #[true, true, true, true, true, true, true, true, true, true, true, false, false, false] rfl rfl (any_of HT_.out (by kernel_rfl)) (fun _ _ _ h => h) (Or.inl ⟨by rfl, ?_⟩) ?_ ?_
   rotate_left
   ·intro w'
    go_simp
    with_reducible rfl
   rotate_left
   ·simp only [Act.put, zA, zB, zC, i64_w, i32_w]
    rfl
   refine one_ (i := 11) (N := some 20) #[true, true, true, true, true, true, true, true, true, true, true, true, false, false] rfl rfl (one_of HT_.out (by kernel_rfl)) (by decide) (fun K hK => ?_)
   refine goes_ Try.func63 (by kernel_rfl) rfl #[.int .i64 a1, .int .i64 (wrap64 (a0_0 + 1)), .int .i64 (wrap64 (t175 + 1))] (by rfl) rfl rfl (by (try simp only [List.map_toArray, List.map_cons, List.map_nil]); first | done | rfl | (simp only [List.length_drop, List.length_take]; rfl)) ?_
   with_reducible refine (spec_l01In.calls a1 (wrap64 (a0_0 + 1)) (wrap64 (t175 + 1)) t176 _ A11.out).mono ?_
   rintro e w' ⟨rfl, ⟨nd, rfl⟩⟩
   refine ⟨_, rfl, ?_⟩
   refine hK.out _ _ ⟨bc BK171 0, bc BK171 1, bc BK171 2⟩ (fun hHeld => ?_)
   clear hK K
   refine norm_ (a' := ?_) ?_ ?_
   rotate_left
   ·show Act.put _ (some 20) _ = _
    simp only [Act.put, zA, zB, zC, i64_w, i32_w]
    rfl
   refine pure_ (i := 12) (N := some 21) (v := ?_) (a' := ?_) #[true, true, true, true, true, true, true, true, true, true, true, true, true, false] rfl rfl (any_of HT_.out (by kernel_rfl)) (fun _ _ _ h => h) (Or.inl ⟨by rfl, ?_⟩) ?_ ?_
   rotate_left
   ·intro w'
    go_simp
    with_reducible rfl
   rotate_left
   ·simp only [Act.put, zA, zB, zC, i64_w, i32_w]
    rfl
   refine pure_ (i := 13) (N := some 22) (v := ?_) (a' := ?_) #[true, true, true, true, true, true, true, true, true, true, true, true, true, true] rfl rfl (any_of HT_.out (by kernel_rfl)) (fun _ _ _ h => h) (Or.inl ⟨by rfl, ?_⟩) ?_ ?_
   rotate_left
   ·intro w'
    go_simp
    with_reducible rfl
   rotate_left
   ·simp only [Act.put, zA, zB, zC, i64_w, i32_w]
    rfl
   refine done_ (done_of HT_.out (by kernel_rfl)) ?_
   try go_wp2
   go_meet
   case rel => exact ⟨_, (!t176), (by first | rfl | (simp; done) | (simp [*]; done)), H', ⟨by first | omega | exact Nat.le_refl _⟩, ⟨by refine bk_ ?_; exact BK171.out⟩, ⟨by refine bk_ ?_; exact BK172.out⟩, ⟨by refine bk_ ?_; exact BK173.out⟩, ⟨bt HB⟩⟩
  ·replace c9 := Bool.eq_false_iff.mpr c9
   subst c9
   have H1 : (spec_LogPut.j0 k a1 true a0_0 a0_1 l0_2 a2_0 a2_1 a2_2) = some (r1, r2, r3, r4) := by rw [if_neg (show ¬ (false = true) by decide)] at H; exact H
   clear H
   have H := H1
   clear H1
   have H' := Aside0.mk H
   clear H
   try go_wp2
   have n0_ := Aside0.mk (blk_drew BK171.out)
   have n1_ := Aside0.mk (blk_drew BK172.out)
   have n2_ := Aside0.mk (blk_drew BK173.out)
   have n3_ := Aside0.mk (below_drew1 HB.out)
   clear BK171 BK172 BK173 HB
   revert n0_ n1_ n2_ n3_
   intro BK171 BK172 BK173 HB
   refine start_ (n := 14) (S := fun w' => w'.cell? ⟨gb171, 0, none⟩ = some (.int .i64 a0_0) ∧ w'.cell? ⟨gb171, 1, none⟩ = some (.int .i64 a0_1) ∧ w'.cell? ⟨gb171, 2, none⟩ = some (.slice A0_2 l0_2.length c0_2)) (ds := []) #[false, false, false, false, false, false, false, false, false, false, false, false, false, false] (by kernel_rfl) rfl rfl ⟨bc BK171 0, bc BK171 1, bc BK171 2⟩ (fun hHeld => ?_); refine with_tabW spec_LogPut.tab1 spec_LogPut.bits1 (fun HT_ HW_ => ?_)
   generalize w7.drew = w15 at BK171 BK172 BK173 HB hHeld ⊢
   refine take_ (i := 0) (N := some 9) (v := ?_) (a' := ?_) #[true, false, false, false, false, false, false, false, false, false, false, false, false, false] rfl rfl (take_ofW HT_.out HW_.out (by kernel_rfl)) (fun _ _ _ h => h) (Or.inl ⟨by rfl, ?_⟩) hHeld ?_ ?_
   rotate_left
   ·rintro w' ⟨s0, s1, s2⟩
    go_simp
    with_reducible rfl
   rotate_left
   ·simp only [Act.put, zA, zB, zC, i64_w, i32_w]
    rfl
   refine one_ (i := 1) (N := some 10) #[true, true, false, false, false, false, false, false, false, false, false, false, false, false] rfl rfl (one_of HT_.out (by kernel_rfl)) (by decide) (fun K hK => ?_)
   refine goes_ Try.func18 (by kernel_rfl) rfl #[.agg #[.int .i64 a0_0, .int .i64 a0_1, .slice A0_2 l0_2.length c0_2]] (by rfl) rfl rfl (by (try simp only [List.map_toArray, List.map_cons, List.map_nil]); first | done | rfl | (simp only [List.length_drop, List.length_take]; rfl)) ?_
   with_reducible refine (spec_LogOk.calls k a0_0 a0_1 _ _ l0_2 false _ ?side1 ?side2 A8.out).mono ?_
   (case side1 => repeat (first | exact (Kd.C_below HR0_2.out HB.out) | (with_reducible refine Kd.C_alloc ?_ _) | (with_reducible refine Kd.C_drewN ?_ _) | (with_reducible refine Kd.C_drew ?_)))
   (case side2 => exact HC0_2.out)
   rintro e w16 ⟨rfl, hb⟩
   refine ⟨_, rfl, ?_⟩
   have n0_ := bb BK171 hb
   have n1_ := bb BK172 hb
   have n2_ := bb BK173 hb
   have n3_ := Aside0.mk (below_step (bt HB) hb)
   clear BK171 BK172 BK173 HB
   revert n0_ n1_ n2_ n3_
   intro BK171 BK172 BK173 HB
   (try clear hb)
   (try clear hb2)
   (try clear hk)
   (try clear hi)
   refine hK.out _ _ ⟨bc BK171 0, bc BK171 1, bc BK171 2⟩ (fun hHeld => ?_)
   clear hK K
   refine norm_ (a' := ?_) ?_ ?_
   rotate_left
   ·show Act.put _ (some 10) _ = _
    simp only [Act.put, zA, zB, zC, i64_w, i32_w]
    rfl
   refine pure_ (i := 2) (N := some 11) (v := ?_) (a' := ?_) #[true, true, true, false, false, false, false, false, false, false, false, false, false, false] rfl rfl (any_of HT_.out (by kernel_rfl)) (fun _ _ _ h => h) (Or.inl ⟨by rfl, ?_⟩) ?_ ?_
   rotate_left
   ·intro w'
    go_simp
    with_reducible rfl
   rotate_left
   ·simp only [Act.put, zA, zB, zC, i64_w, i32_w]
    rfl
   refine pure_ (i := 3) (N := some 12) (v := ?_) (a' := ?_) #[true, true, true, true, false, false, false, false, false, false, false, false, false, false] rfl rfl (any_of HT_.out (by kernel_rfl)) (fun _ _ _ h => h) (Or.inl ⟨by rfl, ?_⟩) ?_ ?_
   rotate_left
   ·intro w'
    go_simp
    with_reducible rfl
   rotate_left
   ·simp only [Act.put, zA, zB, zC, i64_w, i32_w]
    rfl
   refine pure_ (i := 4) (N := some 13) (v := undef) (a' := ?_) #[true, true, true, true, true, false, false, false, false, false, false, false, false, false] rfl rfl (any_of HT_.out (by kernel_rfl)) (fun _ _ _ h => h) (Or.inr ⟨by rfl, rfl⟩) ?_ ?_
   rotate_left
   ·simp only [Act.put, zA, zB, zC, i64_w, i32_w]
    rfl
   refine pure_ (i := 5) (N := some 14) (v := undef) (a' := ?_) #[true, true, true, true, true, true, false, false, false, false, false, false, false, false] rfl rfl (any_of HT_.out (by kernel_rfl)) (fun _ _ _ h => h) (Or.inr ⟨by rfl, rfl⟩) ?_ ?_
   rotate_left
   ·simp only [Act.put, zA, zB, zC, i64_w, i32_w]
    rfl
   refine pure_ (i := 6) (N := some 15) (v := undef) (a' := ?_) #[true, true, true, true, true, true, true, false, false, false, false, false, false, false] rfl rfl (any_of HT_.out (by kernel_rfl)) (fun _ _ _ h => h) (Or.inr ⟨by rfl, rfl⟩) ?_ ?_
   rotate_left
   ·simp only [Act.put, zA, zB, zC, i64_w, i32_w]
    rfl
   refine pure_ (i := 7) (N := some 16) (v := undef) (a' := ?_) #[true, true, true, true, true, true, true, true, false, false, false, false, false, false] rfl rfl (any_of HT_.out (by kernel_rfl)) (fun _ _ _ h => h) (Or.inr ⟨by rfl, rfl⟩) ?_ ?_
   rotate_left
   ·simp only [Act.put, zA, zB, zC, i64_w, i32_w]
    rfl
   refine pure_ (i := 8) (N := some 17) (v := undef) (a' := ?_) #[true, true, true, true, true, true, true, true, true, false, false, false, false, false] rfl rfl (any_of HT_.out (by kernel_rfl)) (fun _ _ _ h => h) (Or.inr ⟨by rfl, rfl⟩) ?_ ?_
   rotate_left
   ·simp only [Act.put, zA, zB, zC, i64_w, i32_w]
    rfl
   refine pure_ (i := 9) (N := some 18) (v := undef) (a' := ?_) #[true, true, true, true, true, true, true, true, true, true, false, false, false, false] rfl rfl (any_of HT_.out (by kernel_rfl)) (fun _ _ _ h => h) (Or.inr ⟨by rfl, rfl⟩) ?_ ?_
   rotate_left
   ·simp only [Act.put, zA, zB, zC, i64_w, i32_w]
    rfl
   refine pure_ (i := 10) (N := some 19) (v := undef) (a' := ?_) #[true, true, true, true, true, true, true, true, true, true, true, false, false, false] rfl rfl (any_of HT_.out (by kernel_rfl)) (fun _ _ _ h => h) (Or.inr ⟨by rfl, rfl⟩) ?_ ?_
   rotate_left
   ·simp only [Act.put, zA, zB, zC, i64_w, i32_w]
    rfl
   refine pure_ (i := 11) (N := some 20) (v := undef) (a' := ?_) #[true, true, true, true, true, true, true, true, true, true, true, true, false, false] rfl rfl (any_of HT_.out (by kernel_rfl)) (fun _ _ _ h => h) (Or.inr ⟨by rfl, rfl⟩) ?_ ?_
   rotate_left
   ·simp only [Act.put, zA, zB, zC, i64_w, i32_w]
    rfl
   refine pure_ (i := 12) (N := some 21) (v := undef) (a' := ?_) #[true, true, true, true, true, true, true, true, true, true, true, true, true, false] rfl rfl (any_of HT_.out (by kernel_rfl)) (fun _ _ _ h => h) (Or.inr ⟨by rfl, rfl⟩) ?_ ?_
   rotate_left
   ·simp only [Act.put, zA, zB, zC, i64_w, i32_w]
    rfl
   refine pure_ (i := 13) (N := some 22) (v := ?_) (a' := ?_) #[true, true, true, true, true, true, true, true, true, true, true, true, true, true] rfl rfl (any_of HT_.out (by kernel_rfl)) (fun _ _ _ h => h) (Or.inl ⟨by rfl, ?_⟩) ?_ ?_
   rotate_left
   ·intro w'
    go_simp
    with_reducible rfl
   rotate_left
   ·simp only [Act.put, zA, zB, zC, i64_w, i32_w]
    rfl
   refine done_ (done_of HT_.out (by kernel_rfl)) ?_
   try go_wp2
   go_meet
   case rel => exact ⟨_, (true), (by first | rfl | (simp; done) | (simp [*]; done)), H', ⟨by first | omega | exact Nat.le_refl _⟩, ⟨by refine bk_ ?_; exact BK171.out⟩, ⟨by refine bk_ ?_; exact BK172.out⟩, ⟨by refine bk_ ?_; exact BK173.out⟩, ⟨bt HB⟩⟩
 case rest =>
  clear HC4
  try clear c1
  try clear p2
  try clear c4
  try clear c6
  try clear p6
  try clear c9
  obtain ⟨kq, x22_3, rfl, HA, HJ3, BK171, BK172, BK173, HB⟩ := hcut
  cases kq with
  | zero => exact absurd HA.out (by simp [spec_LogPut.j0])
  | succ kj3 =>
   have H := HA.out
   clear HA
   simp only [spec_LogPut.j0] at H
   by_cases c17 : x22_3 = true
   ·subst c17
    have H1 : (some (0, 0, ([] : List (S53)), false)) = some (r1, r2, r3, r4) := by rw [if_pos rfl] at H; exact H
    clear H
    have H := H1
    clear H1
    simp only [Option.some.injEq, Prod.mk.injEq] at H
    obtain ⟨rfl, rfl, rfl, rfl⟩ := H
    have hnb18 := NB173_171.out
    have hnc18 := NB171_173.out
    have hnb19 := NB173_172.out
    have hnc19 := NB172_173.out
    have hcz20_0 : wc.cell? ⟨gb173, 0, none⟩ = some (.int .i64 0) := bc BK173 0
    have hcz20_1 : wc.cell? ⟨gb173, 1, none⟩ = some (.int .i64 0) := bc BK173 1
    have hcz20_2 : wc.cell? ⟨gb173, 2, none⟩ = some (.slice none 0 0) := bc BK173 2
    have hfz20_0 := blk_frozen BK173.out 0
    have hfz20_1 := blk_frozen BK173.out 1
    have hfz20_2 := blk_frozen BK173.out 2
    go_wp2
    refine bodyPost_ret (results_ct rfl _ _ gb173 40 #[.int .i64 0, .int .i64 0, .slice none 0 0] (0, 0) _ rfl (by (with_reducible repeat (first | refine blk_drewN ?_ _ | refine blk_drew ?_ | refine blk_alloc ?_ _)); refine blk_put (cs := #[.int .i64 0, .int .i64 0, .slice none 0 0]) ?_ 2 _ rfl; (with_reducible repeat (first | refine blk_drewN ?_ _ | refine blk_drew ?_ | refine blk_alloc ?_ _)); refine blk_put (cs := #[.int .i64 0, .int .i64 0, .slice none 0 0]) ?_ 1 _ rfl; (with_reducible repeat (first | refine blk_drewN ?_ _ | refine blk_drew ?_ | refine blk_alloc ?_ _)); refine blk_put (cs := #[.int .i64 0, .int .i64 0, .slice none 0 0]) ?_ 0 _ rfl; (with_reducible repeat (first | refine blk_drewN ?_ _ | refine blk_drew ?_ | refine blk_alloc ?_ _)); exact BK173.out) Try.underlying40 rfl (by kernel_rfl)) rfl ?_
    exact ⟨_, by first | rfl | (simp [errW_none, errW_some] <;> rfl) | (simp [*, errW_none, errW_some] <;> rfl), by first | exact Kd.R_nil _ _ _ _ _ | exact Kd.N_nil _ _ _ _ _ | exact Kd.V_nil _ _ _ _ _ | exact Kd.Q_nil _ _ _ _ _ | exact Kd.S_nil _ _ _ _ _, bt HB⟩
   ·replace c17 := Bool.eq_false_iff.mpr c17
    subst c17
    have H1 : ((some (([] : List (S53)) : List (S53))).bind fun y177 => (if 0 ≤ (wrap64 ((wrap64 (a1 - a0_0)) - 1)) then (if (wrap64 ((wrap64 (a1 - a0_0)) - 1)) ≤ (l0_2.length : Int) then ((some (l0_2.take ((wrap64 ((wrap64 (a1 - a0_0)) - 1)) : Int).toNat : List (S53))).bind fun y180 => (if y177.length + y180.length < 4398046511104 then ((some (y177 ++ y180 : List (S53))).bind fun y184 => ((some (([(⟨a2_0, a2_1, a2_2⟩ : S53)] : List (S53)) : List (S53))).bind fun y187 => (if y184.length + y187.length < 4398046511104 then ((some (y184 ++ y187 : List (S53))).bind fun y190 => ((spec_LogOk.f kj3 a0_0 a0_1 y190).bind fun t194 => (if t194 = true then (some (a0_0, a0_1, y190, true)) else (some (0, 0, ([] : List (S53)), false))))) else (none)))) else (none))) else (none)) else (none))) = some (r1, r2, r3, r4) := by rw [if_neg (show ¬ (false = true) by decide)] at H; exact H
    clear H
    have H := H1
    clear H1
    obtain ⟨y177, hy177⟩ : ∃ y_ : List (S53), y_ = (([] : List (S53))) := ⟨_, rfl⟩
    replace H : (if 0 ≤ (wrap64 ((wrap64 (a1 - a0_0)) - 1)) then (if (wrap64 ((wrap64 (a1 - a0_0)) - 1)) ≤ (l0_2.length : Int) then ((some (l0_2.take ((wrap64 ((wrap64 (a1 - a0_0)) - 1)) : Int).toNat : List (S53))).bind fun y180 => (if y177.length + y180.length < 4398046511104 then ((some (y177 ++ y180 : List (S53))).bind fun y184 => ((some (([(⟨a2_0, a2_1, a2_2⟩ : S53)] : List (S53)) : List (S53))).bind fun y187 => (if y184.length + y187.length < 4398046511104 then ((some (y184 ++ y187 : List (S53))).bind fun y190 => ((spec_LogOk.f kj3 a0_0 a0_1 y190).bind fun t194 => (if t194 = true then (some (a0_0, a0_1, y190, true)) else (some (0, 0, ([] : List (S53)), false))))) else (none)))) else (none))) else (none)) else (none)) = some (r1, r2, r3, r4) := by first | (rw [hy177]; with_reducible exact H) | (have H2_ := (Option.bind_some _ _).symm.trans H; rw [hy177]; with_reducible exact H2_) | (have H2_ := (Option.bind_some _ _).symm.trans H; with_reducible exact H2_) | with_reducible exact H | (rw [hy177]; exact H) | exact H
    have Ny177 := Aside0.mk hy177
    clear hy177
    obtain ⟨ji21, hji21⟩ : ∃ j_ : Int, (wrap64 ((wrap64 (a1 - a0_0)) - 1)) = j_ := ⟨_, rfl⟩
    replace H : (if 0 ≤ (ji21) then (if (ji21) ≤ (l0_2.length : Int) then ((some (l0_2.take ((ji21) : Int).toNat : List (S53))).bind fun y180 => (if y177.length + y180.length < 4398046511104 then ((some (y177 ++ y180 : List (S53))).bind fun y184 => ((some (([(⟨a2_0, a2_1, a2_2⟩ : S53)] : List (S53)) : List (S53))).bind fun y187 => (if y184.length + y187.length < 4398046511104 then ((some (y184 ++ y187 : List (S53))).bind fun y190 => ((spec_LogOk.f kj3 a0_0 a0_1 y190).bind fun t194 => (if t194 = true then (some (a0_0, a0_1, y190, true)) else (some (0, 0, ([] : List (S53)), false))))) else (none)))) else (none))) else (none)) else (none)) = some (r1, r2, r3, r4) := by first | (rw [hji21] at H; exact H) | (simp only [hji21] at H ⊢; exact H)
    have hji21w : (IntKind.i64.wrap ((wrap64 (a1 - a0_0)) - 1)) = ji21 := (i64_w _).trans hji21
    by_cases c22 : 0 ≤ (ji21)
    ·rw [if_pos c22] at H
     have c22b0 := eq_true c22
     have c22b1 : decide (0 ≤ (ji21)) = true := decide_eq_true c22
     clear c22
     by_cases c23 : (ji21) ≤ (l0_2.length : Int)
     ·rw [if_pos c23] at H
      have c23b0 := eq_true c23
      have c23b1 : decide ((ji21) ≤ (l0_2.length : Int)) = true := decide_eq_true c23
      clear c23
      obtain ⟨y180, hy180⟩ : ∃ y_ : List (S53), y_ = (l0_2.take ((ji21) : Int).toNat) := ⟨_, rfl⟩
      replace H : (if y177.length + y180.length < 4398046511104 then ((some (y177 ++ y180 : List (S53))).bind fun y184 => ((some (([(⟨a2_0, a2_1, a2_2⟩ : S53)] : List (S53)) : List (S53))).bind fun y187 => (if y184.length + y187.length < 4398046511104 then ((some (y184 ++ y187 : List (S53))).bind fun y190 => ((spec_LogOk.f kj3 a0_0 a0_1 y190).bind fun t194 => (if t194 = true then (some (a0_0, a0_1, y190, true)) else (some (0, 0, ([] : List (S53)), false))))) else (none)))) else (none)) = some (r1, r2, r3, r4) := by first | (rw [hy180]; with_reducible exact H) | (have H2_ := (Option.bind_some _ _).symm.trans H; rw [hy180]; with_reducible exact H2_) | (have H2_ := (Option.bind_some _ _).symm.trans H; with_reducible exact H2_) | with_reducible exact H | (rw [hy180]; exact H) | exact H
      have Ny180 := Aside0.mk hy180
      clear hy180
      by_cases c24 : y177.length + y180.length < 4398046511104
      ·rw [if_pos c24] at H
       have LMc24 := Aside0.mk c24
       clear c24
       obtain ⟨y184, hy184⟩ : ∃ y_ : List (S53), y_ = (y177 ++ y180) := ⟨_, rfl⟩
       replace H : ((some (([(⟨a2_0, a2_1, a2_2⟩ : S53)] : List (S53)) : List (S53))).bind fun y187 => (if y184.length + y187.length < 4398046511104 then ((some (y184 ++ y187 : List (S53))).bind fun y190 => ((spec_LogOk.f kj3 a0_0 a0_1 y190).bind fun t194 => (if t194 = true then (some (a0_0, a0_1, y190, true)) else (some (0, 0, ([] : List (S53)), false))))) else (none))) = some (r1, r2, r3, r4) := by first | (rw [hy184]; with_reducible exact H) | (have H2_ := (Option.bind_some _ _).symm.trans H; rw [hy184]; with_reducible exact H2_) | (have H2_ := (Option.bind_some _ _).symm.trans H; with_reducible exact H2_) | with_reducible exact H | (rw [hy184]; exact H) | exact H
       have Ny184 := Aside0.mk hy184
       clear hy184
       obtain ⟨y187, hy187⟩ : ∃ y_ : List (S53), y_ = (([(⟨a2_0, a2_1, a2_2⟩ : S53)] : List (S53))) := ⟨_, rfl⟩
       replace H : (if y184.length + y187.length < 4398046511104 then ((some (y184 ++ y187 : List (S53))).bind fun y190 => ((spec_LogOk.f kj3 a0_0 a0_1 y190).bind fun t194 => (if t194 = true then (some (a0_0, a0_1, y190, true)) else (some (0, 0, ([] : List (S53)), false))))) else (none)) = some (r1, r2, r3, r4) := by first | (rw [hy187]; with_reducible exact H) | (have H2_ := (Option.bind_some _ _).symm.trans H; rw [hy187]; with_reducible exact H2_) | (have H2_ := (Option.bind_some _ _).symm.trans H; with_reducible exact H2_) | with_reducible exact H | (rw [hy187]; exact H) | exact H
       have Ny187 := Aside0.mk hy187
       clear hy187
       by_cases c25 : y184.length + y187.length < 4398046511104
       ·rw [if_pos c25] at H
        have LMc25 := Aside0.mk c25
        clear c25
        obtain ⟨y190, hy190⟩ : ∃ y_ : List (S53), y_ = (y184 ++ y187) := ⟨_, rfl⟩
        replace H : ((spec_LogOk.f kj3 a0_0 a0_1 y190).bind fun t194 => (if t194 = true then (some (a0_0, a0_1, y190, true)) else (some (0, 0, ([] : List (S53)), false)))) = some (r1, r2, r3, r4) := by first | (rw [hy190]; with_reducible exact H) | (have H2_ := (Option.bind_some _ _).symm.trans H; rw [hy190]; with_reducible exact H2_) | (have H2_ := (Option.bind_some _ _).symm.trans H; with_reducible exact H2_) | with_reducible exact H | (rw [hy190]; exact H) | exact H
        have Ny190 := Aside0.mk hy190
        clear hy190
        replace H := Option.bind_eq_some_iff.mp H
        obtain ⟨t194, A260, H⟩ := H
        replace H : (if t194 = true then (some (a0_0, a0_1, y190, true)) else (some (0, 0, ([] : List (S53)), false))) = some (r1, r2, r3, r4) := H
        have A26 := Aside0.mk A260
        clear A260
        by_cases c27 : t194 = true
        case' pos =>
         subst c27
         have H1 : (some (a0_0, a0_1, y190, true)) = some (r1, r2, r3, r4) := by rw [if_pos rfl] at H; exact H
         clear H
         have H := H1
         clear H1
         simp only [Option.some.injEq, Prod.mk.injEq] at H
         obtain ⟨rfl, rfl, rfl, rfl⟩ := H
        case' neg =>
         replace c27 := Bool.eq_false_iff.mpr c27
         subst c27
         have H1 : (some (0, 0, ([] : List (S53)), false)) = some (r1, r2, r3, r4) := by rw [if_neg (show ¬ (false = true) by decide)] at H; exact H
         clear H
         have H := H1
         clear H1
         simp only [Option.some.injEq, Prod.mk.injEq] at H
         obtain ⟨rfl, rfl, rfl, rfl⟩ := H
        all_goals
         try go_wp2
         have n0_ := Aside0.mk (blk_drew BK171.out)
         have n1_ := Aside0.mk (blk_drew BK172.out)
         have n2_ := Aside0.mk (blk_drew BK173.out)
         have n3_ := Aside0.mk (below_drew1 HB.out)
         clear BK171 BK172 BK173 HB
         revert n0_ n1_ n2_ n3_
         intro BK171 BK172 BK173 HB
         have q29 : ((ji21) : Int) ≤ ((l0_2.length : Int) : Int) := of_decide_eq_true (by first | (with_reducible assumption) | assumption)
         obtain ⟨i029, hi029, _, hsz29, _⟩ := info_parts info53
         have hroom29 : l0_2.length ≤ c0_2 := HC0_2.out
         have hC29 : Kd.C k53 _ A0_2 l0_2.length l0_2 := HR0_2.out
         have hcut29 := cut_to (P := Try.prog) 38 53 .i64 Try.underlying38 hi029 A0_2 l0_2.length c0_2 (ji21) (of_decide_eq_true (by first | (with_reducible assumption) | assumption)) q29 hroom29
         have hr29 := Kd.C_take (m := ((ji21) : Int).toNat) hC29 (by omega)
         have hy29 : y180.length = ((ji21) : Int).toNat := (by rw [Ny180.out, List.length_take]; omega)
         rw [← Ny180.out] at hr29
         rw [← hy29] at hcut29
         have HR183 := Aside0.mk hr29
         have HC183 := Aside0.mk (show y180.length ≤ c0_2 from by omega)
         clear hr29 hC29 hroom29 hi029 hsz29
         have KY29 := Aside0.mk hy29
         clear hy29
         replace q29 := eq_true q29
         refine start_ (n := 20) (S := fun w' => w'.cell? ⟨gb171, 0, none⟩ = some (.int .i64 a0_0) ∧ w'.cell? ⟨gb171, 1, none⟩ = some (.int .i64 a0_1) ∧ w'.cell? ⟨gb171, 2, none⟩ = some (.slice A0_2 l0_2.length c0_2) ∧ w'.cell? ⟨gb172, 0, none⟩ = some (.int .i64 a2_0) ∧ w'.cell? ⟨gb172, 1, none⟩ = some (.int .i64 a2_1) ∧ w'.cell? ⟨gb172, 2, none⟩ = some (.string a2_2)) (ds := []) #[false, false, false, false, false, false, false, false, false, false, false, false, false, false, false, false, false, false, false, false] (by kernel_rfl) rfl rfl ⟨bc BK171 0, bc BK171 1, bc BK171 2, bc BK172 0, bc BK172 1, bc BK172 2⟩ (fun hHeld => ?_); refine with_tabW spec_LogPut.tab3 spec_LogPut.bits3 (fun HT_ HW_ => ?_)
         generalize wc.drew = w28 at BK171 BK172 BK173 HB HR183 hHeld ⊢
         refine pure_ (i := 0) (N := some 24) (v := ?_) (a' := ?_) #[true, false, false, false, false, false, false, false, false, false, false, false, false, false, false, false, false, false, false, false] rfl rfl (any_of HT_.out (by kernel_rfl)) (fun _ _ _ h => h) (Or.inl ⟨by rfl, ?_⟩) ?_ ?_
         rotate_left
         ·intro w'
          go_simp
          with_reducible rfl
         rotate_left
         ·simp only [Act.put, zA, zB, zC, i64_w, i32_w]
          rfl
         refine pure_ (i := 2) (N := some 26) (v := ?_) (a' := ?_) #[true, false, true, false, false, false, false, false, false, false, false, false, false, false, false, false, false, false, false, false] rfl rfl (any_of HT_.out (by kernel_rfl)) (fun _ _ _ h => h) (Or.inl ⟨by rfl, ?_⟩) ?_ ?_
         rotate_left
         ·intro w'
          go_simp
          with_reducible rfl
         rotate_left
         ·simp only [Act.put, zA, zB, zC, i64_w, i32_w]
          rfl
         refine pure_ (i := 5) (N := some 29) (v := ?_) (a' := ?_) #[true, false, true, false, false, true, false, false, false, false, false, false, false, false, false, false, false, false, false, false] rfl rfl (any_of HT_.out (by kernel_rfl)) (fun _ _ _ h => h) (Or.inl ⟨by rfl, ?_⟩) ?_ ?_
         rotate_left
         ·intro w'
          go_simp
          with_reducible rfl
         rotate_left
         ·simp only [Act.put, zA, zB, zC, i64_w, i32_w]
          rfl
         refine pure_ (i := 7) (N := some 31) (v := ?_) (a' := ?_) #[true, false, true, false, false, true, false, true, false, false, false, false, false, false, false, false, false, false, false, false] rfl rfl (any_of HT_.out (by kernel_rfl)) (fun _ _ _ h => h) (Or.inl ⟨by rfl, ?_⟩) ?_ ?_
         rotate_left
         ·intro w'
          go_simp
          with_reducible rfl
         rotate_left
         ·simp only [Act.put, zA, zB, zC, i64_w, i32_w]
          rfl
         refine pure_ (i := 8) (N := some 32) (v := ?_) (a' := ?_) #[true, false, true, false, false, true, false, true, true, false, false, false, false, false, false, false, false, false, false, false] rfl rfl (any_of HT_.out (by kernel_rfl)) (fun _ _ _ h => h) (Or.inl ⟨by rfl, ?_⟩) ?_ ?_
         rotate_left
         ·intro w'
          go_simp
          with_reducible rfl
         rotate_left
         ·simp only [Act.put, zA, zB, zC, i64_w, i32_w]
          rfl
         refine take_ (i := 1) (N := some 25) (v := ?_) (a' := ?_) #[true, true, true, false, false, true, false, true, true, false, false, false, false, false, false, false, false, false, false, false] rfl rfl (take_ofW HT_.out HW_.out (by kernel_rfl)) (fun _ _ _ h => h) (Or.inl ⟨by rfl, ?_⟩) hHeld ?_ ?_
         rotate_left
         ·rintro w' ⟨s0, s1, s2, s3, s4, s5⟩
          go_simp
          with_reducible rfl
         rotate_left
         ·simp only [Act.put, zA, zB, zC, i64_w, i32_w]
          rfl
         refine take_ (i := 3) (N := some 27) (v := ?_) (a' := ?_) #[true, true, true, true, false, true, false, true, true, false, false, false, false, false, false, false, false, false, false, false] rfl rfl (take_ofW HT_.out HW_.out (by kernel_rfl)) (fun _ _ _ h => h) (Or.inl ⟨by rfl, ?_⟩) hHeld ?_ ?_
         rotate_left
         ·rintro w' ⟨s0, s1, s2, s3, s4, s5⟩
          go_simp
          with_reducible rfl
         rotate_left
         ·simp only [Act.put, zA, zB, zC, i64_w, i32_w]
          rfl
         refine take_ (i := 6) (N := some 30) (v := ?_) (a' := ?_) #[true, true, true, true, false, true, true, true, true, false, false, false, false, false, false, false, false, false, false, false] rfl rfl (take_ofW HT_.out HW_.out (by kernel_rfl)) (fun _ _ _ h => h) (Or.inl ⟨by rfl, ?_⟩) hHeld ?_ ?_
         rotate_left
         ·rintro w' ⟨s0, s1, s2, s3, s4, s5⟩
          go_simp
          with_reducible rfl
         rotate_left
         ·simp only [Act.put, zA, zB, zC, i64_w, i32_w]
          rfl
         refine take_ (i := 9) (N := some 33) (v := ?_) (a' := ?_) #[true, true, true, true, false, true, true, true, true, true, false, false, false, false, false, false, false, false, false, false] rfl rfl (take_ofW HT_.out HW_.out (by kernel_rfl)) (fun _ _ _ h => h) (Or.inl ⟨by rfl, ?_⟩) hHeld ?_ ?_
         rotate_left
         ·rintro w' ⟨s0, s1, s2, s3, s4, s5⟩
          go_simp
          with_reducible rfl
         rotate_left
         ·simp only [Act.put, zA, zB, zC, i64_w, i32_w]
          rfl
         refine pure_ (i := 10) (N := some 34) (v := ?_) (a' := ?_) #[true, true, true, true, false, true, true, true, true, true, true, false, false, false, false, false, false, false, false, false] rfl rfl (any_of HT_.out (by kernel_rfl)) (fun _ _ _ h => h) (Or.inl ⟨by rfl, ?_⟩) ?_ ?_
         rotate_left
         ·intro w'
          go_simp
          with_reducible rfl
         rotate_left
         ·simp only [Act.put, zA, zB, zC, i64_w, i32_w]
          rfl
         refine pure_ (i := 11) (N := some 35) (v := ?_) (a' := ?_) #[true, true, true, true, false, true, true, true, true, true, true, true, false, false, false, false, false, false, false, false] rfl rfl (any_of HT_.out (by kernel_rfl)) (fun _ _ _ h => h) (Or.inl ⟨by rfl, ?_⟩) ?_ ?_
         rotate_left
         ·intro w'
          go_simp
          with_reducible rfl
         rotate_left
         ·simp only [Act.put, zA, zB, zC, i64_w, i32_w]
          rfl
         refine pure_ (i := 12) (N := some 36) (v := ?_) (a' := ?_) #[true, true, true, true, false, true, true, true, true, true, true, true, true, false, false, false, false, false, false, false] rfl rfl (any_of HT_.out (by kernel_rfl)) (fun _ _ _ h => h) (Or.inl ⟨by rfl, ?_⟩) ?_ ?_
         rotate_left
         ·intro w'
          go_simp
          with_reducible rfl
         rotate_left
         ·simp only [Act.put, zA, zB, zC, i64_w, i32_w]
          rfl
         refine take_ (i := 14) (N := some 38) (v := ?_) (a' := ?_) #[true, true, true, true, false, true, true, true, true, true, true, true, true, false, true, false, false, false, false, false] rfl rfl (take_ofW HT_.out HW_.out (by kernel_rfl)) (fun _ _ _ h => h) (Or.inl ⟨by rfl, ?_⟩) hHeld ?_ ?_
         rotate_left
         ·rintro w' ⟨s0, s1, s2, s3, s4, s5⟩
          go_simp
          with_reducible rfl
         rotate_left
         ·simp only [Act.put, zA, zB, zC, i64_w, i32_w]
          rfl
         refine join_ (σ := Value × Value × Value × Value × Nat) 1 #[true, true, true, true, true, true, true, true, true, true, true, true, true, true, true, true, true, true, true, false] (fun s_ => [(28, s_.1), (37, s_.2.1), (39, s_.2.2.1), (40, s_.2.2.2.1), (8, .pointer (some ⟨s_.2.2.2.2, 0, none⟩)), (41, .agg #[.int .i64 a0_0, .int .i64 a0_1, s_.2.2.2.1])]) (fun s_ w' => (w'.cell? ⟨gb171, 0, none⟩ = some (.int .i64 a0_0) ∧ w'.cell? ⟨gb171, 1, none⟩ = some (.int .i64 a0_1) ∧ w'.cell? ⟨gb171, 2, none⟩ = some (.slice A0_2 l0_2.length c0_2) ∧ w'.cell? ⟨gb172, 0, none⟩ = some (.int .i64 a2_0) ∧ w'.cell? ⟨gb172, 1, none⟩ = some (.int .i64 a2_1) ∧ w'.cell? ⟨gb172, 2, none⟩ = some (.string a2_2)) ∧ (Kd.R k53 53 w' w.heap.size (fun k_ => some k_ ≠ (s_.2.2.2.1 : Value).ownBlock ∧ k_ ≠ gb172) s_.2.2.1 y187) ∧ (Kd.R k53 53 w' w.heap.size (fun k_ => some k_ ≠ (s_.2.2.1 : Value).ownBlock ∧ k_ ≠ gb172) s_.2.2.2.1 y190) ∧ (w'.heap[gb171]? = some (.cells #[.int .i64 a0_0, .int .i64 a0_1, .slice A0_2 l0_2.length c0_2] 40 (0, 0))) ∧ (w'.heap[gb172]? = some (.cells #[.int .i64 a2_0, .int .i64 a2_1, .string a2_2] 53 (0, 0))) ∧ (w'.heap[gb173]? = some (.cells #[.int .i64 0, .int .i64 0, .slice none 0 0] 40 (0, 0))) ∧ (w'.heap[s_.2.2.2.2]? = some (.cells #[.int .i64 0, .int .i64 0, .slice none 0 0] 40 (0, 0))) ∧ (w.heap.size ≤ s_.2.2.2.2) ∧ (w.heap.size ≤ s_.2.2.2.2) ∧ (gb171 ≠ s_.2.2.2.2) ∧ (s_.2.2.2.2 ≠ gb171) ∧ (gb172 ≠ s_.2.2.2.2) ∧ (s_.2.2.2.2 ≠ gb172) ∧ (gb173 ≠ s_.2.2.2.2) ∧ (s_.2.2.2.2 ≠ gb173) ∧ (Below w.heap.size w w')) ?_ ?_
         rotate_left
         ·intro hJ4_13_15_16_18
          refine join_ (σ := Value × Value × Value × Value) 2 #[true, true, true, true, true, true, true, true, true, true, true, true, true, true, true, true, true, true, false, false] (fun s_ => [(28, s_.1), (37, s_.2.1), (39, s_.2.2.1), (40, s_.2.2.2), (41, .agg #[.int .i64 a0_0, .int .i64 a0_1, s_.2.2.2])]) (fun s_ w' => (w'.cell? ⟨gb171, 0, none⟩ = some (.int .i64 a0_0) ∧ w'.cell? ⟨gb171, 1, none⟩ = some (.int .i64 a0_1) ∧ w'.cell? ⟨gb171, 2, none⟩ = some (.slice A0_2 l0_2.length c0_2) ∧ w'.cell? ⟨gb172, 0, none⟩ = some (.int .i64 a2_0) ∧ w'.cell? ⟨gb172, 1, none⟩ = some (.int .i64 a2_1) ∧ w'.cell? ⟨gb172, 2, none⟩ = some (.string a2_2)) ∧ (Kd.R k53 53 w' w.heap.size (fun k_ => some k_ ≠ (s_.2.2.2 : Value).ownBlock ∧ k_ ≠ gb172) s_.2.2.1 y187) ∧ (Kd.R k53 53 w' w.heap.size (fun k_ => some k_ ≠ (s_.2.2.1 : Value).ownBlock ∧ k_ ≠ gb172) s_.2.2.2 y190) ∧ (w'.heap[gb171]? = some (.cells #[.int .i64 a0_0, .int .i64 a0_1, .slice A0_2 l0_2.length c0_2] 40 (0, 0))) ∧ (w'.heap[gb172]? = some (.cells #[.int .i64 a2_0, .int .i64 a2_1, .string a2_2] 53 (0, 0))) ∧ (w'.heap[gb173]? = some (.cells #[.int .i64 0, .int .i64 0, .slice none 0 0] 40 (0, 0))) ∧ (Below w.heap.size w w')) ?_ ?_
          rotate_left
          ·intro hJ4_13_15_16
           refine join_ (σ := Value × Value × Value × Nat) 3 #[true, true, true, true, true, true, true, true, true, true, true, true, true, true, true, true, false, false, true, false] (fun s_ => [(28, s_.1), (37, s_.2.1), (39, s_.2.2.1), (8, .pointer (some ⟨s_.2.2.2, 0, none⟩))]) (fun s_ w' => (w'.cell? ⟨gb171, 0, none⟩ = some (.int .i64 a0_0) ∧ w'.cell? ⟨gb171, 1, none⟩ = some (.int .i64 a0_1) ∧ w'.cell? ⟨gb171, 2, none⟩ = some (.slice A0_2 l0_2.length c0_2) ∧ w'.cell? ⟨gb172, 0, none⟩ = some (.int .i64 a2_0) ∧ w'.cell? ⟨gb172, 1, none⟩ = some (.int .i64 a2_1) ∧ w'.cell? ⟨gb172, 2, none⟩ = some (.string a2_2)) ∧ (Kd.R k53 53 w' w.heap.size (fun k_ => some k_ ≠ (s_.2.2.1 : Value).ownBlock ∧ k_ ≠ gb172) s_.2.1 y184) ∧ (Kd.R k53 53 w' w.heap.size (fun k_ => some k_ ≠ (s_.2.1 : Value).ownBlock ∧ k_ ≠ gb172) s_.2.2.1 y187) ∧ (w'.heap[gb171]? = some (.cells #[.int .i64 a0_0, .int .i64 a0_1, .slice A0_2 l0_2.length c0_2] 40 (0, 0))) ∧ (w'.heap[gb172]? = some (.cells #[.int .i64 a2_0, .int .i64 a2_1, .string a2_2] 53 (0, 0))) ∧ (w'.heap[gb173]? = some (.cells #[.int .i64 0, .int .i64 0, .slice none 0 0] 40 (0, 0))) ∧ (w'.heap[s_.2.2.2]? = some (.cells #[.int .i64 0, .int .i64 0, .slice none 0 0] 40 (0, 0))) ∧ (w.heap.size ≤ s_.2.2.2) ∧ (w.heap.size ≤ s_.2.2.2) ∧ (gb171 ≠ s_.2.2.2) ∧ (s_.2.2.2 ≠ gb171) ∧ (gb172 ≠ s_.2.2.2) ∧ (s_.2.2.2 ≠ gb172) ∧ (gb173 ≠ s_.2.2.2) ∧ (s_.2.2.2 ≠ gb173) ∧ (Below w.heap.size w w')) ?_ ?_
           rotate_left
           ·intro hJ4_13_15_18
            refine join_ (σ := Value × Value × Value) 4 #[true, true, true, true, true, true, true, true, true, true, true, true, true, true, true, true, false, false, false, false] (fun s_ => [(28, s_.1), (37, s_.2.1), (39, s_.2.2)]) (fun s_ w' => (w'.cell? ⟨gb171, 0, none⟩ = some (.int .i64 a0_0) ∧ w'.cell? ⟨gb171, 1, none⟩ = some (.int .i64 a0_1) ∧ w'.cell? ⟨gb171, 2, none⟩ = some (.slice A0_2 l0_2.length c0_2) ∧ w'.cell? ⟨gb172, 0, none⟩ = some (.int .i64 a2_0) ∧ w'.cell? ⟨gb172, 1, none⟩ = some (.int .i64 a2_1) ∧ w'.cell? ⟨gb172, 2, none⟩ = some (.string a2_2)) ∧ (Kd.R k53 53 w' w.heap.size (fun k_ => some k_ ≠ (s_.2.2 : Value).ownBlock ∧ k_ ≠ gb172) s_.2.1 y184) ∧ (Kd.R k53 53 w' w.heap.size (fun k_ => some k_ ≠ (s_.2.1 : Value).ownBlock ∧ k_ ≠ gb172) s_.2.2 y187) ∧ (w'.heap[gb171]? = some (.cells #[.int .i64 a0_0, .int .i64 a0_1, .slice A0_2 l0_2.length c0_2] 40 (0, 0))) ∧ (w'.heap[gb172]? = some (.cells #[.int .i64 a2_0, .int .i64 a2_1, .string a2_2] 53 (0, 0))) ∧ (w'.heap[gb173]? = some (.cells #[.int .i64 0, .int .i64 0, .slice none 0 0] 40 (0, 0))) ∧ (Below w.heap.size w w')) ?_ ?_
            rotate_left
            ·intro hJ4_13_15
             refine join_ (σ := Value × Value × Nat) 4 #[true, true, true, true, true, true, true, true, true, true, true, true, true, true, true, false, false, false, true, false] (fun s_ => [(28, s_.1), (37, s_.2.1), (8, .pointer (some ⟨s_.2.2, 0, none⟩))]) (fun s_ w' => (w'.cell? ⟨gb171, 0, none⟩ = some (.int .i64 a0_0) ∧ w'.cell? ⟨gb171, 1, none⟩ = some (.int .i64 a0_1) ∧ w'.cell? ⟨gb171, 2, none⟩ = some (.slice A0_2 l0_2.length c0_2) ∧ w'.cell? ⟨gb172, 0, none⟩ = some (.int .i64 a2_0) ∧ w'.cell? ⟨gb172, 1, none⟩ = some (.int .i64 a2_1) ∧ w'.cell? ⟨gb172, 2, none⟩ = some (.string a2_2)) ∧ (Kd.R k53 53 w' w.heap.size (fun k_ => k_ ≠ gb172) s_.2.1 y184) ∧ (w'.heap[gb171]? = some (.cells #[.int .i64 a0_0, .int .i64 a0_1, .slice A0_2 l0_2.length c0_2] 40 (0, 0))) ∧ (w'.heap[gb172]? = some (.cells #[.int .i64 a2_0, .int .i64 a2_1, .string a2_2] 53 (0, 0))) ∧ (w'.heap[gb173]? = some (.cells #[.int .i64 0, .int .i64 0, .slice none 0 0] 40 (0, 0))) ∧ (w'.heap[s_.2.2]? = some (.cells #[.int .i64 0, .int .i64 0, .slice none 0 0] 40 (0, 0))) ∧ (w.heap.size ≤ s_.2.2) ∧ (w.heap.size ≤ s_.2.2) ∧ (gb171 ≠ s_.2.2) ∧ (s_.2.2 ≠ gb171) ∧ (gb172 ≠ s_.2.2) ∧ (s_.2.2 ≠ gb172) ∧ (gb173 ≠ s_.2.2) ∧ (s_.2.2 ≠ gb173) ∧ (Below w.heap.size w w')) ?_ ?_
             rotate_left
             ·intro hJ4_13_18
              refine join_ (σ := Value × Value × Nat) 4 #[true, true, true, true, true, true, true, true, true, true, true, true, true, false, true, true, false, false, true, false] (fun s_ => [(28, s_.1), (39, s_.2.1), (8, .pointer (some ⟨s_.2.2, 0, none⟩))]) (fun s_ w' => (w'.cell? ⟨gb171, 0, none⟩ = some (.int .i64 a0_0) ∧ w'.cell? ⟨gb171, 1, none⟩ = some (.int .i64 a0_1) ∧ w'.cell? ⟨gb171, 2, none⟩ = some (.slice A0_2 l0_2.length c0_2) ∧ w'.cell? ⟨gb172, 0, none⟩ = some (.int .i64 a2_0) ∧ w'.cell? ⟨gb172, 1, none⟩ = some (.int .i64 a2_1) ∧ w'.cell? ⟨gb172, 2, none⟩ = some (.string a2_2)) ∧ (Kd.R k53 53 w' w.heap.size (fun k_ => some k_ ≠ (s_.2.1 : Value).ownBlock ∧ k_ ≠ gb172) s_.1 y177) ∧ (Kd.R k53 53 w' w.heap.size (fun k_ => some k_ ≠ (s_.1 : Value).ownBlock ∧ k_ ≠ gb172) s_.2.1 y187) ∧ (w'.heap[gb171]? = some (.cells #[.int .i64 a0_0, .int .i64 a0_1, .slice A0_2 l0_2.length c0_2] 40 (0, 0))) ∧ (w'.heap[gb172]? = some (.cells #[.int .i64 a2_0, .int .i64 a2_1, .string a2_2] 53 (0, 0))) ∧ (w'.heap[gb173]? = some (.cells #[.int .i64 0, .int .i64 0, .slice none 0 0] 40 (0, 0))) ∧ (w'.heap[s_.2.2]? = some (.cells #[.int .i64 0, .int .i64 0, .slice none 0 0] 40 (0, 0))) ∧ (w.heap.size ≤ s_.2.2) ∧ (w.heap.size ≤ s_.2.2) ∧ (gb171 ≠ s_.2.2) ∧ (s_.2.2 ≠ gb171) ∧ (gb172 ≠ s_.2.2) ∧ (s_.2.2 ≠ gb172) ∧ (gb173 ≠ s_.2.2) ∧ (s_.2.2 ≠ gb173) ∧ (Below w.heap.size w w')) ?_ ?_
              rotate_left
              ·intro hJ4_15_18
               refine join_ (σ := Value × Value) 5 #[true, true, true, true, true, true, true, true, true, true, true, true, true, true, true, false, false, false, false, false] (fun s_ => [(28, s_.1), (37, s_.2)]) (fun s_ w' => (w'.cell? ⟨gb171, 0, none⟩ = some (.int .i64 a0_0) ∧ w'.cell? ⟨gb171, 1, none⟩ = some (.int .i64 a0_1) ∧ w'.cell? ⟨gb171, 2, none⟩ = some (.slice A0_2 l0_2.length c0_2) ∧ w'.cell? ⟨gb172, 0, none⟩ = some (.int .i64 a2_0) ∧ w'.cell? ⟨gb172, 1, none⟩ = some (.int .i64 a2_1) ∧ w'.cell? ⟨gb172, 2, none⟩ = some (.string a2_2)) ∧ (Kd.R k53 53 w' w.heap.size (fun k_ => k_ ≠ gb172) s_.2 y184) ∧ (w'.heap[gb171]? = some (.cells #[.int .i64 a0_0, .int .i64 a0_1, .slice A0_2 l0_2.length c0_2] 40 (0, 0))) ∧ (w'.heap[gb172]? = some (.cells #[.int .i64 a2_0, .int .i64 a2_1, .string a2_2] 53 (0, 0))) ∧ (w'.heap[gb173]? = some (.cells #[.int .i64 0, .int .i64 0, .slice none 0 0] 40 (0, 0))) ∧ (Below w.heap.size w w')) ?_ ?_
               rotate_left
               ·intro hJ4_13
                refine join_ (σ := Value × Value) 5 #[true, true, true, true, true, true, true, true, true, true, true, true, true, false, true, true, false, false, false, false] (fun s_ => [(28, s_.1), (39, s_.2)]) (fun s_ w' => (w'.cell? ⟨gb171, 0, none⟩ = some (.int .i64 a0_0) ∧ w'.cell? ⟨gb171, 1, none⟩ = some (.int .i64 a0_1) ∧ w'.cell? ⟨gb171, 2, none⟩ = some (.slice A0_2 l0_2.length c0_2) ∧ w'.cell? ⟨gb172, 0, none⟩ = some (.int .i64 a2_0) ∧ w'.cell? ⟨gb172, 1, none⟩ = some (.int .i64 a2_1) ∧ w'.cell? ⟨gb172, 2, none⟩ = some (.string a2_2)) ∧ (Kd.R k53 53 w' w.heap.size (fun k_ => some k_ ≠ (s_.2 : Value).ownBlock ∧ k_ ≠ gb172) s_.1 y177) ∧ (Kd.R k53 53 w' w.heap.size (fun k_ => some k_ ≠ (s_.1 : Value).ownBlock ∧ k_ ≠ gb172) s_.2 y187) ∧ (w'.heap[gb171]? = some (.cells #[.int .i64 a0_0, .int .i64 a0_1, .slice A0_2 l0_2.length c0_2] 40 (0, 0))) ∧ (w'.heap[gb172]? = some (.cells #[.int .i64 a2_0, .int .i64 a2_1, .string a2_2] 53 (0, 0))) ∧ (w'.heap[gb173]? = some (.cells #[.int .i64 0, .int .i64 0, .slice none 0 0] 40 (0, 0))) ∧ (Below w.heap.size w w')) ?_ ?_
                rotate_left
                ·intro hJ4_15
                 refine join_ (σ := Value × Nat) 5 #[true, true, true, true, true, true, true, true, true, true, true, true, true, false, true, false, false, false, true, false] (fun s_ => [(28, s_.1), (8, .pointer (some ⟨s_.2, 0, none⟩))]) (fun s_ w' => (w'.cell? ⟨gb171, 0, none⟩ = some (.int .i64 a0_0) ∧ w'.cell? ⟨gb171, 1, none⟩ = some (.int .i64 a0_1) ∧ w'.cell? ⟨gb171, 2, none⟩ = some (.slice A0_2 l0_2.length c0_2) ∧ w'.cell? ⟨gb172, 0, none⟩ = some (.int .i64 a2_0) ∧ w'.cell? ⟨gb172, 1, none⟩ = some (.int .i64 a2_1) ∧ w'.cell? ⟨gb172, 2, none⟩ = some (.string a2_2)) ∧ (Kd.R k53 53 w' w.heap.size (fun k_ => k_ ≠ gb172) s_.1 y177) ∧ (w'.heap[gb171]? = some (.cells #[.int .i64 a0_0, .int .i64 a0_1, .slice A0_2 l0_2.length c0_2] 40 (0, 0))) ∧ (w'.heap[gb172]? = some (.cells #[.int .i64 a2_0, .int .i64 a2_1, .string a2_2] 53 (0, 0))) ∧ (w'.heap[gb173]? = some (.cells #[.int .i64 0, .int .i64 0, .slice none 0 0] 40 (0, 0))) ∧ (w'.heap[s_.2]? = some (.cells #[.int .i64 0, .int .i64 0, .slice none 0 0] 40 (0, 0))) ∧ (w.heap.size ≤ s_.2) ∧ (w.heap.size ≤ s_.2) ∧ (gb171 ≠ s_.2) ∧ (s_.2 ≠ gb171) ∧ (gb172 ≠ s_.2) ∧ (s_.2 ≠ gb172) ∧ (gb173 ≠ s_.2) ∧ (s_.2 ≠ gb173) ∧ (Below w.heap.size w w')) ?_ ?_
                 rotate_left
                 ·intro hJ4_18
                  refine join_ (σ := Value × Nat) 5 #[true, true, true, true, false, true, true, true, true, true, true, true, true, false, true, true, false, false, true, false] (fun s_ => [(39, s_.1), (8, .pointer (some ⟨s_.2, 0, none⟩))]) (fun s_ w' => (w'.cell? ⟨gb171, 0, none⟩ = some (.int .i64 a0_0) ∧ w'.cell? ⟨gb171, 1, none⟩ = some (.int .i64 a0_1) ∧ w'.cell? ⟨gb171, 2, none⟩ = some (.slice A0_2 l0_2.length c0_2) ∧ w'.cell? ⟨gb172, 0, none⟩ = some (.int .i64 a2_0) ∧ w'.cell? ⟨gb172, 1, none⟩ = some (.int .i64 a2_1) ∧ w'.cell? ⟨gb172, 2, none⟩ = some (.string a2_2)) ∧ (Kd.R k53 53 w' w.heap.size (fun k_ => k_ ≠ gb172) s_.1 y187) ∧ (w'.heap[gb171]? = some (.cells #[.int .i64 a0_0, .int .i64 a0_1, .slice A0_2 l0_2.length c0_2] 40 (0, 0))) ∧ (w'.heap[gb172]? = some (.cells #[.int .i64 a2_0, .int .i64 a2_1, .string a2_2] 53 (0, 0))) ∧ (w'.heap[gb173]? = some (.cells #[.int .i64 0, .int .i64 0, .slice none 0 0] 40 (0, 0))) ∧ (w'.heap[s_.2]? = some (.cells #[.int .i64 0, .int .i64 0, .slice none 0 0] 40 (0, 0))) ∧ (w.heap.size ≤ s_.2) ∧ (w.heap.size ≤ s_.2) ∧ (gb171 ≠ s_.2) ∧ (s_.2 ≠ gb171) ∧ (gb172 ≠ s_.2) ∧ (s_.2 ≠ gb172) ∧ (gb173 ≠ s_.2) ∧ (s_.2 ≠ gb173) ∧ (Below w.heap.size w w')) ?_ ?_
                  rotate_left
                  ·intro hJ15_18
                   refine join_ (σ := Value) 6 #[true, true, true, true, true, true, true, true, true, true, true, true, true, false, true, false, false, false, false, false] (fun s_ => [(28, s_)]) (fun s_ w' => (w'.cell? ⟨gb171, 0, none⟩ = some (.int .i64 a0_0) ∧ w'.cell? ⟨gb171, 1, none⟩ = some (.int .i64 a0_1) ∧ w'.cell? ⟨gb171, 2, none⟩ = some (.slice A0_2 l0_2.length c0_2) ∧ w'.cell? ⟨gb172, 0, none⟩ = some (.int .i64 a2_0) ∧ w'.cell? ⟨gb172, 1, none⟩ = some (.int .i64 a2_1) ∧ w'.cell? ⟨gb172, 2, none⟩ = some (.string a2_2)) ∧ (Kd.R k53 53 w' w.heap.size (fun k_ => k_ ≠ gb172) s_ y177) ∧ (w'.heap[gb171]? = some (.cells #[.int .i64 a0_0, .int .i64 a0_1, .slice A0_2 l0_2.length c0_2] 40 (0, 0))) ∧ (w'.heap[gb172]? = some (.cells #[.int .i64 a2_0, .int .i64 a2_1, .string a2_2] 53 (0, 0))) ∧ (w'.heap[gb173]? = some (.cells #[.int .i64 0, .int .i64 0, .slice none 0 0] 40 (0, 0))) ∧ (Below w.heap.size w w')) ?_ ?_
                   rotate_left
                   ·intro hJ4
                    refine join_ (σ := Value) 6 #[true, true, true, true, false, true, true, true, true, true, true, true, true, false, true, true, false, false, false, false] (fun s_ => [(39, s_)]) (fun s_ w' => (w'.cell? ⟨gb171, 0, none⟩ = some (.int .i64 a0_0) ∧ w'.cell? ⟨gb171, 1, none⟩ = some (.int .i64 a0_1) ∧ w'.cell? ⟨gb171, 2, none⟩ = some (.slice A0_2 l0_2.length c0_2) ∧ w'.cell? ⟨gb172, 0, none⟩ = some (.int .i64 a2_0) ∧ w'.cell? ⟨gb172, 1, none⟩ = some (.int .i64 a2_1) ∧ w'.cell? ⟨gb172, 2, none⟩ = some (.string a2_2)) ∧ (Kd.R k53 53 w' w.heap.size (fun k_ => k_ ≠ gb172) s_ y187) ∧ (w'.heap[gb171]? = some (.cells #[.int .i64 a0_0, .int .i64 a0_1, .slice A0_2 l0_2.length c0_2] 40 (0, 0))) ∧ (w'.heap[gb172]? = some (.cells #[.int .i64 a2_0, .int .i64 a2_1, .string a2_2] 53 (0, 0))) ∧ (w'.heap[gb173]? = some (.cells #[.int .i64 0, .int .i64 0, .slice none 0 0] 40 (0, 0))) ∧ (Below w.heap.size w w')) ?_ ?_
                    rotate_left
                    ·intro hJ15
                     refine join_ (σ := Nat) 6 #[true, true, true, true, false, true, true, true, true, true, true, true, true, false, true, false, false, false, true, false] (fun s_ => [(8, .pointer (some ⟨s_, 0, none⟩))]) (fun s_ w' => (w'.cell? ⟨gb171, 0, none⟩ = some (.int .i64 a0_0) ∧ w'.cell? ⟨gb171, 1, none⟩ = some (.int .i64 a0_1) ∧ w'.cell? ⟨gb171, 2, none⟩ = some (.slice A0_2 l0_2.length c0_2) ∧ w'.cell? ⟨gb172, 0, none⟩ = some (.int .i64 a2_0) ∧ w'.cell? ⟨gb172, 1, none⟩ = some (.int .i64 a2_1) ∧ w'.cell? ⟨gb172, 2, none⟩ = some (.string a2_2)) ∧ (w'.heap[gb171]? = some (.cells #[.int .i64 a0_0, .int .i64 a0_1, .slice A0_2 l0_2.length c0_2] 40 (0, 0))) ∧ (w'.heap[gb172]? = some (.cells #[.int .i64 a2_0, .int .i64 a2_1, .string a2_2] 53 (0, 0))) ∧ (w'.heap[gb173]? = some (.cells #[.int .i64 0, .int .i64 0, .slice none 0 0] 40 (0, 0))) ∧ (w'.heap[s_]? = some (.cells #[.int .i64 0, .int .i64 0, .slice none 0 0] 40 (0, 0))) ∧ (w.heap.size ≤ s_) ∧ (w.heap.size ≤ s_) ∧ (gb171 ≠ s_) ∧ (s_ ≠ gb171) ∧ (gb172 ≠ s_) ∧ (s_ ≠ gb172) ∧ (gb173 ≠ s_) ∧ (s_ ≠ gb173) ∧ (Below w.heap.size w w')) ?_ ?_
                     rotate_left
                     ·intro hJ18
                      refine three_ (i := 4) (j := 15) (k := 18) (Ni := some 28) (Nj := some 39) (Nk := some 8) #[true, true, true, true, true, true, true, true, true, true, true, true, true, false, true, false, false, false, false, false] #[true, true, true, true, false, true, true, true, true, true, true, true, true, false, true, true, false, false, false, false] #[true, true, true, true, false, true, true, true, true, true, true, true, true, false, true, false, false, false, true, false] rfl rfl rfl rfl rfl rfl (three_of HT_.out (by kernel_rfl)) (by decide) (by decide) (by decide) (fun K hK => ?_) (fun K hK => ?_) (fun K hK => ?_)
                      ·skip
                       refine Kd.R_lit_step k53 _ 53 ?hg (N := 28) ?hd (xs := ([] : List (S53))) (inner := []) (ok := fun _ => True) (okp := fun _ => True) ?hr ?hp (fun _ hk => hk) trivial (Below.refl _ _) (Nat.le_refl _) (by simp) ?_; (case hd => rfl); (case hg => rfl); (case hr => first | (go_simp; done) | (go_simp; rfl)); (case hp => exact (Reps.none _ _))
                       intro v178 w30 ho31 hb hg_ hnew_
                       clear hg_ hnew_
                       (first | rw [← Ny177.out] at ho31 | (simp only [Int.reduceToNat] at ho31; rw [← Ny177.out] at ho31))
                       have n0_ := Aside0.mk (Kd.R_lower (Kd.R_newB ho31 (g := gb172) (o := .cells #[.int .i64 a2_0, .int .i64 a2_1, .string a2_2] 53 (0, 0)) (bk BK172)) (below_size (bt HB)))
                       have n1_ := bb BK171 hb
                       have n2_ := bb BK172 hb
                       have n3_ := bb BK173 hb
                       have n4_ := Aside0.mk (below_step (bt HB) hb)
                       clear BK171 BK172 BK173 HB
                       revert n0_ n1_ n2_ n3_ n4_
                       intro HO179 BK171 BK172 BK173 HB
                       clear hb ho31
                       refine hK.out _ _ ⟨bc BK171 0, bc BK171 1, bc BK171 2, bc BK172 0, bc BK172 1, bc BK172 2⟩ (fun hHeld => ?_)
                       clear hK K
                       refine norm_ (a' := ?_) ?_ ?_
                       rotate_left
                       ·show Act.put _ (some 28) _ = _
                        simp only [Act.put, zA, zB, zC, i64_w, i32_w]
                        rfl
                       exact norm_ (by first | (simp only [putAll, Act.put, zA, zB, zC]; done) | (simp only [putAll, Act.put, zA, zB, zC]; rfl)) (hJ4 (v178) _ ⟨hHeld, (by (with_reducible repeat (first | apply Kd.R_alloc | apply Kd.R_drewN | apply Kd.R_drew)); exact Kd.R_mono HO179.out (fun _ hk => hk.2)), (bk BK171), (bk BK172), (bk BK173), (bt HB)⟩)
                      ·skip
                       refine Kd.R_lit_step k53 _ 53 ?hg (N := 39) ?hd (xs := ([(⟨a2_0, a2_1, a2_2⟩ : S53)] : List (S53))) (inner := [.int .i64 a2_0, .int .i64 a2_1, .string a2_2]) (ok := fun _ => True) (okp := fun _ => True) ?hr ?hp (fun _ hk => hk) trivial (Below.refl _ _) (Nat.le_refl _) (by simp) ?_; (case hd => rfl); (case hg => rfl); (case hr => first | (go_simp; done) | (go_simp; rfl)); (case hp => exact (Reps.c3 (show Kd.M k53 _ _ _ (⟨a2_0, a2_1, a2_2⟩ : S53) [.int .i64 a2_0, .int .i64 a2_1, .string a2_2] from (k53_mkM _ _ _ (⟨a2_0, a2_1, a2_2⟩ : S53) )) (Reps.none _ _)))
                       intro v188 w30 ho31 hb hg_ hnew_
                       clear hg_ hnew_
                       (first | rw [← Ny187.out] at ho31 | (simp only [Int.reduceToNat] at ho31; rw [← Ny187.out] at ho31))
                       have n0_ := Aside0.mk (Kd.R_lower (Kd.R_newB ho31 (g := gb172) (o := .cells #[.int .i64 a2_0, .int .i64 a2_1, .string a2_2] 53 (0, 0)) (bk BK172)) (below_size (bt HB)))
                       have n1_ := bb BK171 hb
                       have n2_ := bb BK172 hb
                       have n3_ := bb BK173 hb
                       have n4_ := Aside0.mk (below_step (bt HB) hb)
                       clear BK171 BK172 BK173 HB
                       revert n0_ n1_ n2_ n3_ n4_
                       intro HO189 BK171 BK172 BK173 HB
                       clear hb ho31
                       refine hK.out _ _ ⟨bc BK171 0, bc BK171 1, bc BK171 2, bc BK172 0, bc BK172 1, bc BK172 2⟩ (fun hHeld => ?_)
                       clear hK K
                       refine norm_ (a' := ?_) ?_ ?_
                       rotate_left
                       ·show Act.put _ (some 39) _ = _
                        simp only [Act.put, zA, zB, zC, i64_w, i32_w]
                        rfl
                       exact norm_ (by first | (simp only [putAll, Act.put, zA, zB, zC]; done) | (simp only [putAll, Act.put, zA, zB, zC]; rfl)) (hJ15 (v188) _ ⟨hHeld, (by (with_reducible repeat (first | apply Kd.R_alloc | apply Kd.R_drewN | apply Kd.R_drew)); exact Kd.R_mono HO189.out (fun _ hk => hk.2)), (bk BK171), (bk BK172), (bk BK173), (bt HB)⟩)
                      ·skip
                       refine box_step ?hg (N := 8) ?hd (cs := #[.int .i64 0, .int .i64 0, .slice none 0 0]) (t := 40) ?hr ?_; (case hd => rfl); (case hg => rfl); (case hr => first | (go_simp; done) | (go_simp; rfl))
                       intro gb193 hg w30 hbox hb
                       have n0_ := bb BK171 hb
                       have n1_ := bb BK172 hb
                       have n2_ := bb BK173 hb
                       have n3_ := Aside0.mk (below_step (bt HB) hb)
                       have n4_ := Aside0.mk (hbox)
                       have n5_ := Aside0.mk ((by rw [hg]; exact (below_size (bt HB)) : w.heap.size ≤ gb193))
                       have n6_ := Aside0.mk ((by rw [hg]; exact (below_size (bt HB)) : w.heap.size ≤ gb193))
                       have n7_ := Aside0.mk ((by rw [hg]; exact Nat.ne_of_lt (blk_lt (bk BK171)) : gb171 ≠ gb193))
                       have n8_ := Aside0.mk ((by rw [hg]; exact Nat.ne_of_gt (blk_lt (bk BK171)) : gb193 ≠ gb171))
                       have n9_ := Aside0.mk ((by rw [hg]; exact Nat.ne_of_lt (blk_lt (bk BK172)) : gb172 ≠ gb193))
                       have n10_ := Aside0.mk ((by rw [hg]; exact Nat.ne_of_gt (blk_lt (bk BK172)) : gb193 ≠ gb172))
                       have n11_ := Aside0.mk ((by rw [hg]; exact Nat.ne_of_lt (blk_lt (bk BK173)) : gb173 ≠ gb193))
                       have n12_ := Aside0.mk ((by rw [hg]; exact Nat.ne_of_gt (blk_lt (bk BK173)) : gb193 ≠ gb173))
                       clear BK171 BK172 BK173 HB
                       revert n0_ n1_ n2_ n3_ n4_ n5_ n6_ n7_ n8_ n9_ n10_ n11_ n12_
                       intro BK171 BK172 BK173 HB BK193 GW193 GE193 NB171_193 NB193_171 NB172_193 NB193_172 NB173_193 NB193_173
                       clear hb hbox hg
                       refine hK.out _ _ ⟨bc BK171 0, bc BK171 1, bc BK171 2, bc BK172 0, bc BK172 1, bc BK172 2⟩ (fun hHeld => ?_)
                       clear hK K
                       refine norm_ (a' := ?_) ?_ ?_
                       rotate_left
                       ·show Act.put _ (some 8) _ = _
                        simp only [Act.put, zA, zB, zC, i64_w, i32_w]
                        rfl
                       exact norm_ (by first | (simp only [putAll, Act.put, zA, zB, zC]; done) | (simp only [putAll, Act.put, zA, zB, zC]; rfl)) (hJ18 (gb193) _ ⟨hHeld, (bk BK171), (bk BK172), (bk BK173), (bk BK193), GW193.out, GE193.out, NB171_193.out, NB193_171.out, NB172_193.out, NB193_172.out, NB173_193.out, NB193_173.out, (bt HB)⟩)
                     ·skip
                      rintro gb193 w31 ⟨hS_, h0_, h1_, h2_, h3_, h4_, h5_, h6_, h7_, h8_, h9_, h10_, h11_, h12_⟩
                      have n0_ : Aside0 (w31.heap[gb171]? = some (.cells #[.int .i64 a0_0, .int .i64 a0_1, .slice A0_2 l0_2.length c0_2] 40 (0, 0))) := ⟨h0_⟩
                      have n1_ : Aside0 (w31.heap[gb172]? = some (.cells #[.int .i64 a2_0, .int .i64 a2_1, .string a2_2] 53 (0, 0))) := ⟨h1_⟩
                      have n2_ : Aside0 (w31.heap[gb173]? = some (.cells #[.int .i64 0, .int .i64 0, .slice none 0 0] 40 (0, 0))) := ⟨h2_⟩
                      have n3_ : Aside0 (w31.heap[gb193]? = some (.cells #[.int .i64 0, .int .i64 0, .slice none 0 0] 40 (0, 0))) := ⟨h3_⟩
                      have n4_ : Aside0 (w.heap.size ≤ gb193) := ⟨h4_⟩
                      have n5_ : Aside0 (w.heap.size ≤ gb193) := ⟨h5_⟩
                      have n6_ : Aside0 (gb171 ≠ gb193) := ⟨h6_⟩
                      have n7_ : Aside0 (gb193 ≠ gb171) := ⟨h7_⟩
                      have n8_ : Aside0 (gb172 ≠ gb193) := ⟨h8_⟩
                      have n9_ : Aside0 (gb193 ≠ gb172) := ⟨h9_⟩
                      have n10_ : Aside0 (gb173 ≠ gb193) := ⟨h10_⟩
                      have n11_ : Aside0 (gb193 ≠ gb173) := ⟨h11_⟩
                      have n12_ : Aside0 (Below w.heap.size w w31) := ⟨h12_⟩
                      clear BK171
                      clear BK172
                      clear BK173
                      clear HB
                      clear h0_ h1_ h2_ h3_ h4_ h5_ h6_ h7_ h8_ h9_ h10_ h11_ h12_
                      have BK171 := n0_
                      have BK172 := n1_
                      have BK173 := n2_
                      have BK193 := n3_
                      have GW193 := n4_
                      have GE193 := n5_
                      have NB171_193 := n6_
                      have NB193_171 := n7_
                      have NB172_193 := n8_
                      have NB193_172 := n9_
                      have NB173_193 := n10_
                      have NB193_173 := n11_
                      have HB := n12_
                      clear n0_ n1_ n2_ n3_ n4_ n5_ n6_ n7_ n8_ n9_ n10_ n11_ n12_
                      have hHeld : w31.cell? ⟨gb171, 0, none⟩ = some (.int .i64 a0_0) ∧ w31.cell? ⟨gb171, 1, none⟩ = some (.int .i64 a0_1) ∧ w31.cell? ⟨gb171, 2, none⟩ = some (.slice A0_2 l0_2.length c0_2) ∧ w31.cell? ⟨gb172, 0, none⟩ = some (.int .i64 a2_0) ∧ w31.cell? ⟨gb172, 1, none⟩ = some (.int .i64 a2_1) ∧ w31.cell? ⟨gb172, 2, none⟩ = some (.string a2_2) := hS_
                      refine norm_ (a' := ?_) ?_ ?_
                      rotate_left
                      ·simp only [putAll, Act.put, zA, zB, zC]
                       rfl
                      refine two_ (i := 4) (j := 15) (Ni := some 28) (Nj := some 39) #[true, true, true, true, true, true, true, true, true, true, true, true, true, false, true, false, false, false, true, false] #[true, true, true, true, false, true, true, true, true, true, true, true, true, false, true, true, false, false, true, false] rfl rfl rfl rfl (two_of HT_.out (by kernel_rfl)) (by decide) (by decide) (fun K hK => ?_) (fun K hK => ?_)
                      ·skip
                       refine Kd.R_lit_step k53 _ 53 ?hg (N := 28) ?hd (xs := ([] : List (S53))) (inner := []) (ok := fun _ => True) (okp := fun _ => True) ?hr ?hp (fun _ hk => hk) trivial (Below.refl _ _) (Nat.le_refl _) (by simp) ?_; (case hd => rfl); (case hg => rfl); (case hr => first | (go_simp; done) | (go_simp; rfl)); (case hp => exact (Reps.none _ _))
                       intro v178 w32 ho33 hb hg_ hnew_
                       clear hg_ hnew_
                       (first | rw [← Ny177.out] at ho33 | (simp only [Int.reduceToNat] at ho33; rw [← Ny177.out] at ho33))
                       have n0_ := Aside0.mk (Kd.R_lower (Kd.R_newB ho33 (g := gb172) (o := .cells #[.int .i64 a2_0, .int .i64 a2_1, .string a2_2] 53 (0, 0)) (bk BK172)) (below_size (bt HB)))
                       have n1_ := bb BK171 hb
                       have n2_ := bb BK172 hb
                       have n3_ := bb BK173 hb
                       have n4_ := bb BK193 hb
                       have n5_ := Aside0.mk (below_step (bt HB) hb)
                       clear BK171 BK172 BK173 BK193 HB
                       revert n0_ n1_ n2_ n3_ n4_ n5_
                       intro HO179 BK171 BK172 BK173 BK193 HB
                       clear hb ho33
                       refine hK.out _ _ ⟨bc BK171 0, bc BK171 1, bc BK171 2, bc BK172 0, bc BK172 1, bc BK172 2⟩ (fun hHeld => ?_)
                       clear hK K
                       refine norm_ (a' := ?_) ?_ ?_
                       rotate_left
                       ·show Act.put _ (some 28) _ = _
                        simp only [Act.put, zA, zB, zC, i64_w, i32_w]
                        rfl
                       exact norm_ (by first | (simp only [putAll, Act.put, zA, zB, zC]; done) | (simp only [putAll, Act.put, zA, zB, zC]; rfl)) (hJ4_18 (v178, gb193) _ ⟨hHeld, (by (with_reducible repeat (first | apply Kd.R_alloc | apply Kd.R_drewN | apply Kd.R_drew)); exact Kd.R_mono HO179.out (fun _ hk => hk.2)), (bk BK171), (bk BK172), (bk BK173), (bk BK193), GW193.out, GE193.out, NB171_193.out, NB193_171.out, NB172_193.out, NB193_172.out, NB173_193.out, NB193_173.out, (bt HB)⟩)
                      ·skip
                       refine Kd.R_lit_step k53 _ 53 ?hg (N := 39) ?hd (xs := ([(⟨a2_0, a2_1, a2_2⟩ : S53)] : List (S53))) (inner := [.int .i64 a2_0, .int .i64 a2_1, .string a2_2]) (ok := fun _ => True) (okp := fun _ => True) ?hr ?hp (fun _ hk => hk) trivial (Below.refl _ _) (Nat.le_refl _) (by simp) ?_; (case hd => rfl); (case hg => rfl); (case hr => first | (go_simp; done) | (go_simp; rfl)); (case hp => exact (Reps.c3 (show Kd.M k53 _ _ _ (⟨a2_0, a2_1, a2_2⟩ : S53) [.int .i64 a2_0, .int .i64 a2_1, .string a2_2] from (k53_mkM _ _ _ (⟨a2_0, a2_1, a2_2⟩ : S53) )) (Reps.none _ _)))
                       intro v188 w32 ho33 hb hg_ hnew_
                       clear hg_ hnew_
                       (first | rw [← Ny187.out] at ho33 | (simp only [Int.reduceToNat] at ho33; rw [← Ny187.out] at ho33))
                       have n0_ := Aside0.mk (Kd.R_lower (Kd.R_newB ho33 (g := gb172) (o := .cells #[.int .i64 a2_0, .int .i64 a2_1, .string a2_2] 53 (0, 0)) (bk BK172)) (below_size (bt HB)))
                       have n1_ := bb BK171 hb
                       have n2_ := bb BK172 hb
                       have n3_ := bb BK173 hb
                       have n4_ := bb BK193 hb
                       have n5_ := Aside0.mk (below_step (bt HB) hb)
                       clear BK171 BK172 BK173 BK193 HB
                       revert n0_ n1_ n2_ n3_ n4_ n5_
                       intro HO189 BK171 BK172 BK173 BK193 HB
                       clear hb ho33
                       refine hK.out _ _ ⟨bc BK171 0, bc BK171 1, bc BK171 2, bc BK172 0, bc BK172 1, bc BK172 2⟩ (fun hHeld => ?_)
                       clear hK K
                       refine norm_ (a' := ?_) ?_ ?_
                       rotate_left
                       ·show Act.put _ (some 39) _ = _
                        simp only [Act.put, zA, zB, zC, i64_w, i32_w]
                        rfl
                       exact norm_ (by first | (simp only [putAll, Act.put, zA, zB, zC]; done) | (simp only [putAll, Act.put, zA, zB, zC]; rfl)) (hJ15_18 (v188, gb193) _ ⟨hHeld, (by (with_reducible repeat (first | apply Kd.R_alloc | apply Kd.R_drewN | apply Kd.R_drew)); exact Kd.R_mono HO189.out (fun _ hk => hk.2)), (bk BK171), (bk BK172), (bk BK173), (bk BK193), GW193.out, GE193.out, NB171_193.out, NB193_171.out, NB172_193.out, NB193_172.out, NB173_193.out, NB193_173.out, (bt HB)⟩)
                    ·skip
                     rintro v188 w32 ⟨hS_, h0_, h1_, h2_, h3_, h4_⟩
                     have n0_ : Aside0 (Kd.R k53 53 w32 w.heap.size (fun k_ => k_ ≠ gb172) v188 y187) := ⟨h0_⟩
                     have n1_ : Aside0 (w32.heap[gb171]? = some (.cells #[.int .i64 a0_0, .int .i64 a0_1, .slice A0_2 l0_2.length c0_2] 40 (0, 0))) := ⟨h1_⟩
                     have n2_ : Aside0 (w32.heap[gb172]? = some (.cells #[.int .i64 a2_0, .int .i64 a2_1, .string a2_2] 53 (0, 0))) := ⟨h2_⟩
                     have n3_ : Aside0 (w32.heap[gb173]? = some (.cells #[.int .i64 0, .int .i64 0, .slice none 0 0] 40 (0, 0))) := ⟨h3_⟩
                     have n4_ : Aside0 (Below w.heap.size w w32) := ⟨h4_⟩
                     clear BK171
                     clear BK172
                     clear BK173
                     clear HB
                     clear h0_ h1_ h2_ h3_ h4_
                     have HO189 := n0_
                     have BK171 := n1_
                     have BK172 := n2_
                     have BK173 := n3_
                     have HB := n4_
                     clear n0_ n1_ n2_ n3_ n4_
                     have hHeld : w32.cell? ⟨gb171, 0, none⟩ = some (.int .i64 a0_0) ∧ w32.cell? ⟨gb171, 1, none⟩ = some (.int .i64 a0_1) ∧ w32.cell? ⟨gb171, 2, none⟩ = some (.slice A0_2 l0_2.length c0_2) ∧ w32.cell? ⟨gb172, 0, none⟩ = some (.int .i64 a2_0) ∧ w32.cell? ⟨gb172, 1, none⟩ = some (.int .i64 a2_1) ∧ w32.cell? ⟨gb172, 2, none⟩ = some (.string a2_2) := hS_
                     refine norm_ (a' := ?_) ?_ ?_
                     rotate_left
                     ·simp only [putAll, Act.put, zA, zB, zC]
                      rfl
                     refine two_ (i := 4) (j := 18) (Ni := some 28) (Nj := some 8) #[true, true, true, true, true, true, true, true, true, true, true, true, true, false, true, true, false, false, false, false] #[true, true, true, true, false, true, true, true, true, true, true, true, true, false, true, true, false, false, true, false] rfl rfl rfl rfl (two_of HT_.out (by kernel_rfl)) (by decide) (by decide) (fun K hK => ?_) (fun K hK => ?_)
                     ·skip
                      refine Kd.R_lit_step k53 _ 53 ?hg (N := 28) ?hd (xs := ([] : List (S53))) (inner := []) (ok := fun _ => True) (okp := fun _ => True) ?hr ?hp (fun _ hk => hk) trivial (Below.refl _ _) (Nat.le_refl _) (by simp) ?_; (case hd => rfl); (case hg => rfl); (case hr => first | (go_simp; done) | (go_simp; rfl)); (case hp => exact (Reps.none _ _))
                      intro v178 w33 ho34 hb hg_ hnew_
                      clear hg_ hnew_
                      (first | rw [← Ny177.out] at ho34 | (simp only [Int.reduceToNat] at ho34; rw [← Ny177.out] at ho34))
                      have n0_ := Aside0.mk (Kd.R_elder' (rk HO189) (Kd.R_base ho34) hb)
                      have n1_ := Aside0.mk (Kd.R_lower (Kd.R_newB (Kd.R_new' ho34 (Kd.R_lt (rk HO189))) (g := gb172) (o := .cells #[.int .i64 a2_0, .int .i64 a2_1, .string a2_2] 53 (0, 0)) (bk BK172)) (below_size (bt HB)))
                      have n2_ := bb BK171 hb
                      have n3_ := bb BK172 hb
                      have n4_ := bb BK173 hb
                      have n5_ := Aside0.mk (below_step (bt HB) hb)
                      clear HO189 BK171 BK172 BK173 HB
                      revert n0_ n1_ n2_ n3_ n4_ n5_
                      intro HO189 HO179 BK171 BK172 BK173 HB
                      clear hb ho34
                      refine hK.out _ _ ⟨bc BK171 0, bc BK171 1, bc BK171 2, bc BK172 0, bc BK172 1, bc BK172 2⟩ (fun hHeld => ?_)
                      clear hK K
                      refine norm_ (a' := ?_) ?_ ?_
                      rotate_left
                      ·show Act.put _ (some 28) _ = _
                       simp only [Act.put, zA, zB, zC, i64_w, i32_w]
                       rfl
                      exact norm_ (by first | (simp only [putAll, Act.put, zA, zB, zC]; done) | (simp only [putAll, Act.put, zA, zB, zC]; rfl)) (hJ4_15 (v178, v188) _ ⟨hHeld, (by (with_reducible repeat (first | apply Kd.R_alloc | apply Kd.R_drewN | apply Kd.R_drew)); exact Kd.R_mono HO179.out (fun _ hk => ⟨hk.1.2, hk.2⟩)), (by (with_reducible repeat (first | apply Kd.R_alloc | apply Kd.R_drewN | apply Kd.R_drew)); exact Kd.R_mono HO189.out (fun _ hk => ⟨hk.2, hk.1⟩)), (bk BK171), (bk BK172), (bk BK173), (bt HB)⟩)
                     ·skip
                      refine box_step ?hg (N := 8) ?hd (cs := #[.int .i64 0, .int .i64 0, .slice none 0 0]) (t := 40) ?hr ?_; (case hd => rfl); (case hg => rfl); (case hr => first | (go_simp; done) | (go_simp; rfl))
                      intro gb193 hg w33 hbox hb
                      have n0_ := rb HO189 hb
                      have n1_ := bb BK171 hb
                      have n2_ := bb BK172 hb
                      have n3_ := bb BK173 hb
                      have n4_ := Aside0.mk (below_step (bt HB) hb)
                      have n5_ := Aside0.mk (hbox)
                      have n6_ := Aside0.mk ((by rw [hg]; exact (below_size (bt HB)) : w.heap.size ≤ gb193))
                      have n7_ := Aside0.mk ((by rw [hg]; exact (below_size (bt HB)) : w.heap.size ≤ gb193))
                      have n8_ := Aside0.mk ((by rw [hg]; exact Nat.ne_of_lt (blk_lt (bk BK171)) : gb171 ≠ gb193))
                      have n9_ := Aside0.mk ((by rw [hg]; exact Nat.ne_of_gt (blk_lt (bk BK171)) : gb193 ≠ gb171))
                      have n10_ := Aside0.mk ((by rw [hg]; exact Nat.ne_of_lt (blk_lt (bk BK172)) : gb172 ≠ gb193))
                      have n11_ := Aside0.mk ((by rw [hg]; exact Nat.ne_of_gt (blk_lt (bk BK172)) : gb193 ≠ gb172))
                      have n12_ := Aside0.mk ((by rw [hg]; exact Nat.ne_of_lt (blk_lt (bk BK173)) : gb173 ≠ gb193))
                      have n13_ := Aside0.mk ((by rw [hg]; exact Nat.ne_of_gt (blk_lt (bk BK173)) : gb193 ≠ gb173))
                      clear HO189 BK171 BK172 BK173 HB
                      revert n0_ n1_ n2_ n3_ n4_ n5_ n6_ n7_ n8_ n9_ n10_ n11_ n12_ n13_
                      intro HO189 BK171 BK172 BK173 HB BK193 GW193 GE193 NB171_193 NB193_171 NB172_193 NB193_172 NB173_193 NB193_173
                      clear hb hbox hg
                      refine hK.out _ _ ⟨bc BK171 0, bc BK171 1, bc BK171 2, bc BK172 0, bc BK172 1, bc BK172 2⟩ (fun hHeld => ?_)
                      clear hK K
                      refine norm_ (a' := ?_) ?_ ?_
                      rotate_left
                      ·show Act.put _ (some 8) _ = _
                       simp only [Act.put, zA, zB, zC, i64_w, i32_w]
                       rfl
                      exact norm_ (by first | (simp only [putAll, Act.put, zA, zB, zC]; done) | (simp only [putAll, Act.put, zA, zB, zC]; rfl)) (hJ15_18 (v188, gb193) _ ⟨hHeld, (rk HO189), (bk BK171), (bk BK172), (bk BK173), (bk BK193), GW193.out, GE193.out, NB171_193.out, NB193_171.out, NB172_193.out, NB193_172.out, NB173_193.out, NB193_173.out, (bt HB)⟩)
                   ·skip
                    rintro v178 w32 ⟨hS_, h0_, h1_, h2_, h3_, h4_⟩
                    have n0_ : Aside0 (Kd.R k53 53 w32 w.heap.size (fun k_ => k_ ≠ gb172) v178 y177) := ⟨h0_⟩
                    have n1_ : Aside0 (w32.heap[gb171]? = some (.cells #[.int .i64 a0_0, .int .i64 a0_1, .slice A0_2 l0_2.length c0_2] 40 (0, 0))) := ⟨h1_⟩
                    have n2_ : Aside0 (w32.heap[gb172]? = some (.cells #[.int .i64 a2_0, .int .i64 a2_1, .string a2_2] 53 (0, 0))) := ⟨h2_⟩
                    have n3_ : Aside0 (w32.heap[gb173]? = some (.cells #[.int .i64 0, .int .i64 0, .slice none 0 0] 40 (0, 0))) := ⟨h3_⟩
                    have n4_ : Aside0 (Below w.heap.size w w32) := ⟨h4_⟩
                    clear BK171
                    clear BK172
                    clear BK173
                    clear HB
                    clear h0_ h1_ h2_ h3_ h4_
                    have HO179 := n0_
                    have BK171 := n1_
                    have BK172 := n2_
                    have BK173 := n3_
                    have HB := n4_
                    clear n0_ n1_ n2_ n3_ n4_
                    have hHeld : w32.cell? ⟨gb171, 0, none⟩ = some (.int .i64 a0_0) ∧ w32.cell? ⟨gb171, 1, none⟩ = some (.int .i64 a0_1) ∧ w32.cell? ⟨gb171, 2, none⟩ = some (.slice A0_2 l0_2.length c0_2) ∧ w32.cell? ⟨gb172, 0, none⟩ = some (.int .i64 a2_0) ∧ w32.cell? ⟨gb172, 1, none⟩ = some (.int .i64 a2_1) ∧ w32.cell? ⟨gb172, 2, none⟩ = some (.string a2_2) := hS_
                    refine norm_ (a' := ?_) ?_ ?_
                    rotate_left
                    ·simp only [putAll, Act.put, zA, zB, zC]
                     rfl
                    refine three_ (i := 13) (j := 15) (k := 18) (Ni := some 37) (Nj := some 39) (Nk := some 8) #[true, true, true, true, true, true, true, true, true, true, true, true, true, true, true, false, false, false, false, false] #[true, true, true, true, true, true, true, true, true, true, true, true, true, false, true, true, false, false, false, false] #[true, true, true, true, true, true, true, true, true, true, true, true, true, false, true, false, false, false, true, false] rfl rfl rfl rfl rfl rfl (three_of HT_.out (by kernel_rfl)) (by decide) (by decide) (by decide) (fun K hK => ?_) (fun K hK => ?_) (fun K hK => ?_)
                    ·skip
                     refine Kd.R_append_rows_step k53 (w0 := w) w.heap.size (by rfl) (.tmp 28) (.tmp 36) 38 53 (.agg #[(.int .i64 0), (.int .i64 0), (.string ⟨#[]⟩)]) 32 rfl Try.underlying38 info53 rfl (by decide) (by omega) v178 y177 y180 _ _ _ (fun k_ => k_ ≠ gb172) (fun _ => False) rfl rfl ?aO ?aR (fun _ _ h => h) (fun _ h => h.elim) ?aF ?aB ?aS ?aL ?_
                     (case aR => repeat (first | exact (Kd.C_below HR183.out HB.out) | (with_reducible refine Kd.C_alloc ?_ _) | (with_reducible refine Kd.C_drewN ?_ _) | (with_reducible refine Kd.C_drew ?_)))
                     (case aB => exact (bt HB))
                     (case aF => exact (fun k_ hk => Kd.freshB (g := gb172) (o := .cells #[.int .i64 a2_0, .int .i64 a2_1, .string a2_2] 53 (0, 0)) (bk BK172) k_ hk))
                     (case aO => exact (rk HO179))
                     (case aS => exact (below_size (bt HB)))
                     (case aL => have := LMc24.out; omega)
                     intro v185 w33 ho hb hg hat
                     rw [← Ny184.out] at ho
                     have n0_ := Aside0.mk (blk_grown (g := gb171) (o := .cells #[.int .i64 a0_0, .int .i64 a0_1, .slice A0_2 l0_2.length c0_2] 40 (0, 0)) (bk BK171) hg (Kd.R_ne HO179.out BK171.out (by decide)))
                     have n1_ := Aside0.mk (blk_grown (g := gb172) (o := .cells #[.int .i64 a2_0, .int .i64 a2_1, .string a2_2] 53 (0, 0)) (bk BK172) hg (Kd.R_away HO179.out (fun _ hk => hk)))
                     have n2_ := Aside0.mk (blk_grown (g := gb173) (o := .cells #[.int .i64 0, .int .i64 0, .slice none 0 0] 40 (0, 0)) (bk BK173) hg (Kd.R_ne HO179.out BK173.out (by decide)))
                     have n3_ := Aside0.mk (hb)
                     have n4_ := Aside0.mk (ho)
                     clear BK171 BK172 BK173 HB HO179
                     revert n0_ n1_ n2_ n3_ n4_
                     intro BK171 BK172 BK173 HB HO186
                     clear ho hb hg hat
                     refine hK.out _ _ ⟨bc BK171 0, bc BK171 1, bc BK171 2, bc BK172 0, bc BK172 1, bc BK172 2⟩ (fun hHeld => ?_)
                     clear hK K
                     refine norm_ (a' := ?_) ?_ ?_
                     rotate_left
                     ·show Act.put _ (some 37) _ = _
                      simp only [Act.put, zA, zB, zC, i64_w, i32_w]
                      rfl
                     exact norm_ (by first | (simp only [putAll, Act.put, zA, zB, zC]; done) | (simp only [putAll, Act.put, zA, zB, zC]; rfl)) (hJ4_13 (v178, v185) _ ⟨hHeld, (rk HO186), (bk BK171), (bk BK172), (bk BK173), (bt HB)⟩)
                    ·skip
                     refine Kd.R_lit_step k53 _ 53 ?hg (N := 39) ?hd (xs := ([(⟨a2_0, a2_1, a2_2⟩ : S53)] : List (S53))) (inner := [.int .i64 a2_0, .int .i64 a2_1, .string a2_2]) (ok := fun _ => True) (okp := fun _ => True) ?hr ?hp (fun _ hk => hk) trivial (Below.refl _ _) (Nat.le_refl _) (by simp) ?_; (case hd => rfl); (case hg => rfl); (case hr => first | (go_simp; done) | (go_simp; rfl)); (case hp => exact (Reps.c3 (show Kd.M k53 _ _ _ (⟨a2_0, a2_1, a2_2⟩ : S53) [.int .i64 a2_0, .int .i64 a2_1, .string a2_2] from (k53_mkM _ _ _ (⟨a2_0, a2_1, a2_2⟩ : S53) )) (Reps.none _ _)))
                     intro v188 w33 ho34 hb hg_ hnew_
                     clear hg_ hnew_
                     (first | rw [← Ny187.out] at ho34 | (simp only [Int.reduceToNat] at ho34; rw [← Ny187.out] at ho34))
                     have n0_ := Aside0.mk (Kd.R_elder' (rk HO179) (Kd.R_base ho34) hb)
                     have n1_ := Aside0.mk (Kd.R_lower (Kd.R_newB (Kd.R_new' ho34 (Kd.R_lt (rk HO179))) (g := gb172) (o := .cells #[.int .i64 a2_0, .int .i64 a2_1, .string a2_2] 53 (0, 0)) (bk BK172)) (below_size (bt HB)))
                     have n2_ := bb BK171 hb
                     have n3_ := bb BK172 hb
                     have n4_ := bb BK173 hb
                     have n5_ := Aside0.mk (below_step (bt HB) hb)
                     clear HO179 BK171 BK172 BK173 HB
                     revert n0_ n1_ n2_ n3_ n4_ n5_
                     intro HO179 HO189 BK171 BK172 BK173 HB
                     clear hb ho34
                     refine hK.out _ _ ⟨bc BK171 0, bc BK171 1, bc BK171 2, bc BK172 0, bc BK172 1, bc BK172 2⟩ (fun hHeld => ?_)
                     clear hK K
                     refine norm_ (a' := ?_) ?_ ?_
                     rotate_left
                     ·show Act.put _ (some 39) _ = _
                      simp only [Act.put, zA, zB, zC, i64_w, i32_w]
                      rfl
                     exact norm_ (by first | (simp only [putAll, Act.put, zA, zB, zC]; done) | (simp only [putAll, Act.put, zA, zB, zC]; rfl)) (hJ4_15 (v178, v188) _ ⟨hHeld, (by (with_reducible repeat (first | apply Kd.R_alloc | apply Kd.R_drewN | apply Kd.R_drew)); exact Kd.R_mono HO179.out (fun _ hk => ⟨hk.2, hk.1⟩)), (by (with_reducible repeat (first | apply Kd.R_alloc | apply Kd.R_drewN | apply Kd.R_drew)); exact Kd.R_mono HO189.out (fun _ hk => ⟨hk.1.2, hk.2⟩)), (bk BK171), (bk BK172), (bk BK173), (bt HB)⟩)
                    ·skip
                     refine box_step ?hg (N := 8) ?hd (cs := #[.int .i64 0, .int .i64 0, .slice none 0 0]) (t := 40) ?hr ?_; (case hd => rfl); (case hg => rfl); (case hr => first | (go_simp; done) | (go_simp; rfl))
                     intro gb193 hg w33 hbox hb
                     have n0_ := rb HO179 hb
                     have n1_ := bb BK171 hb
                     have n2_ := bb BK172 hb
                     have n3_ := bb BK173 hb
                     have n4_ := Aside0.mk (below_step (bt HB) hb)
                     have n5_ := Aside0.mk (hbox)
                     have n6_ := Aside0.mk ((by rw [hg]; exact (below_size (bt HB)) : w.heap.size ≤ gb193))
                     have n7_ := Aside0.mk ((by rw [hg]; exact (below_size (bt HB)) : w.heap.size ≤ gb193))
                     have n8_ := Aside0.mk ((by rw [hg]; exact Nat.ne_of_lt (blk_lt (bk BK171)) : gb171 ≠ gb193))
                     have n9_ := Aside0.mk ((by rw [hg]; exact Nat.ne_of_gt (blk_lt (bk BK171)) : gb193 ≠ gb171))
                     have n10_ := Aside0.mk ((by rw [hg]; exact Nat.ne_of_lt (blk_lt (bk BK172)) : gb172 ≠ gb193))
                     have n11_ := Aside0.mk ((by rw [hg]; exact Nat.ne_of_gt (blk_lt (bk BK172)) : gb193 ≠ gb172))
                     have n12_ := Aside0.mk ((by rw [hg]; exact Nat.ne_of_lt (blk_lt (bk BK173)) : gb173 ≠ gb193))
                     have n13_ := Aside0.mk ((by rw [hg]; exact Nat.ne_of_gt (blk_lt (bk BK173)) : gb193 ≠ gb173))
                     clear HO179 BK171 BK172 BK173 HB
                     revert n0_ n1_ n2_ n3_ n4_ n5_ n6_ n7_ n8_ n9_ n10_ n11_ n12_ n13_
                     intro HO179 BK171 BK172 BK173 HB BK193 GW193 GE193 NB171_193 NB193_171 NB172_193 NB193_172 NB173_193 NB193_173
                     clear hb hbox hg
                     refine hK.out _ _ ⟨bc BK171 0, bc BK171 1, bc BK171 2, bc BK172 0, bc BK172 1, bc BK172 2⟩ (fun hHeld => ?_)
                     clear hK K
                     refine norm_ (a' := ?_) ?_ ?_
                     rotate_left
                     ·show Act.put _ (some 8) _ = _
                      simp only [Act.put, zA, zB, zC, i64_w, i32_w]
                      rfl
                     exact norm_ (by first | (simp only [putAll, Act.put, zA, zB, zC]; done) | (simp only [putAll, Act.put, zA, zB, zC]; rfl)) (hJ4_18 (v178, gb193) _ ⟨hHeld, (rk HO179), (bk BK171), (bk BK172), (bk BK173), (bk BK193), GW193.out, GE193.out, NB171_193.out, NB193_171.out, NB172_193.out, NB193_172.out, NB173_193.out, NB193_173.out, (bt HB)⟩)
                  ·skip
                   rintro ⟨v188, gb193⟩ w33 ⟨hS_, h0_, h1_, h2_, h3_, h4_, h5_, h6_, h7_, h8_, h9_, h10_, h11_, h12_, h13_⟩
                   have n0_ : Aside0 (Kd.R k53 53 w33 w.heap.size (fun k_ => k_ ≠ gb172) v188 y187) := ⟨h0_⟩
                   have n1_ : Aside0 (w33.heap[gb171]? = some (.cells #[.int .i64 a0_0, .int .i64 a0_1, .slice A0_2 l0_2.length c0_2] 40 (0, 0))) := ⟨h1_⟩
                   have n2_ : Aside0 (w33.heap[gb172]? = some (.cells #[.int .i64 a2_0, .int .i64 a2_1, .string a2_2] 53 (0, 0))) := ⟨h2_⟩
                   have n3_ : Aside0 (w33.heap[gb173]? = some (.cells #[.int .i64 0, .int .i64 0, .slice none 0 0] 40 (0, 0))) := ⟨h3_⟩
                   have n4_ : Aside0 (w33.heap[gb193]? = some (.cells #[.int .i64 0, .int .i64 0, .slice none 0 0] 40 (0, 0))) := ⟨h4_⟩
                   have n5_ : Aside0 (w.heap.size ≤ gb193) := ⟨h5_⟩
                   have n6_ : Aside0 (w.heap.size ≤ gb193) := ⟨h6_⟩
                   have n7_ : Aside0 (gb171 ≠ gb193) := ⟨h7_⟩
                   have n8_ : Aside0 (gb193 ≠ gb171) := ⟨h8_⟩
                   have n9_ : Aside0 (gb172 ≠ gb193) := ⟨h9_⟩
                   have n10_ : Aside0 (gb193 ≠ gb172) := ⟨h10_⟩
                   have n11_ : Aside0 (gb173 ≠ gb193) := ⟨h11_⟩
                   have n12_ : Aside0 (gb193 ≠ gb173) := ⟨h12_⟩
                   have n13_ : Aside0 (Below w.heap.size w w33) := ⟨h13_⟩
                   clear BK171
                   clear BK172
                   clear BK173
                   clear HB
                   clear h0_ h1_ h2_ h3_ h4_ h5_ h6_ h7_ h8_ h9_ h10_ h11_ h12_ h13_
                   have HO189 := n0_
                   have BK171 := n1_
                   have BK172 := n2_
                   have BK173 := n3_
                   have BK193 := n4_
                   have GW193 := n5_
                   have GE193 := n6_
                   have NB171_193 := n7_
                   have NB193_171 := n8_
                   have NB172_193 := n9_
                   have NB193_172 := n10_
                   have NB173_193 := n11_
                   have NB193_173 := n12_
                   have HB := n13_
                   clear n0_ n1_ n2_ n3_ n4_ n5_ n6_ n7_ n8_ n9_ n10_ n11_ n12_ n13_
                   have hHeld : w33.cell? ⟨gb171, 0, none⟩ = some (.int .i64 a0_0) ∧ w33.cell? ⟨gb171, 1, none⟩ = some (.int .i64 a0_1) ∧ w33.cell? ⟨gb171, 2, none⟩ = some (.slice A0_2 l0_2.length c0_2) ∧ w33.cell? ⟨gb172, 0, none⟩ = some (.int .i64 a2_0) ∧ w33.cell? ⟨gb172, 1, none⟩ = some (.int .i64 a2_1) ∧ w33.cell? ⟨gb172, 2, none⟩ = some (.string a2_2) := hS_
                   refine norm_ (a' := ?_) ?_ ?_
                   rotate_left
                   ·simp only [putAll, Act.put, zA, zB, zC]
                    rfl
                   refine one_ (i := 4) (N := some 28) #[true, true, true, true, true, true, true, true, true, true, true, true, true, false, true, true, false, false, true, false] rfl rfl (one_of HT_.out (by kernel_rfl)) (by decide) (fun K hK => ?_)
                   refine Kd.R_lit_step k53 _ 53 ?hg (N := 28) ?hd (xs := ([] : List (S53))) (inner := []) (ok := fun _ => True) (okp := fun _ => True) ?hr ?hp (fun _ hk => hk) trivial (Below.refl _ _) (Nat.le_refl _) (by simp) ?_; (case hd => rfl); (case hg => rfl); (case hr => first | (go_simp; done) | (go_simp; rfl)); (case hp => exact (Reps.none _ _))
                   intro v178 w34 ho35 hb hg_ hnew_
                   clear hg_ hnew_
                   (first | rw [← Ny177.out] at ho35 | (simp only [Int.reduceToNat] at ho35; rw [← Ny177.out] at ho35))
                   have n0_ := Aside0.mk (Kd.R_elder' (rk HO189) (Kd.R_base ho35) hb)
                   have n1_ := Aside0.mk (Kd.R_lower (Kd.R_newB (Kd.R_new' ho35 (Kd.R_lt (rk HO189))) (g := gb172) (o := .cells #[.int .i64 a2_0, .int .i64 a2_1, .string a2_2] 53 (0, 0)) (bk BK172)) (below_size (bt HB)))
                   have n2_ := bb BK171 hb
                   have n3_ := bb BK172 hb
                   have n4_ := bb BK173 hb
                   have n5_ := bb BK193 hb
                   have n6_ := Aside0.mk (below_step (bt HB) hb)
                   clear HO189 BK171 BK172 BK173 BK193 HB
                   revert n0_ n1_ n2_ n3_ n4_ n5_ n6_
                   intro HO189 HO179 BK171 BK172 BK173 BK193 HB
                   clear hb ho35
                   refine hK.out _ _ ⟨bc BK171 0, bc BK171 1, bc BK171 2, bc BK172 0, bc BK172 1, bc BK172 2⟩ (fun hHeld => ?_)
                   clear hK K
                   refine norm_ (a' := ?_) ?_ ?_
                   rotate_left
                   ·show Act.put _ (some 28) _ = _
                    simp only [Act.put, zA, zB, zC, i64_w, i32_w]
                    rfl
                   exact norm_ (by first | (simp only [putAll, Act.put, zA, zB, zC]; done) | (simp only [putAll, Act.put, zA, zB, zC]; rfl)) (hJ4_15_18 (v178, v188, gb193) _ ⟨hHeld, (by (with_reducible repeat (first | apply Kd.R_alloc | apply Kd.R_drewN | apply Kd.R_drew)); exact Kd.R_mono HO179.out (fun _ hk => ⟨hk.1.2, hk.2⟩)), (by (with_reducible repeat (first | apply Kd.R_alloc | apply Kd.R_drewN | apply Kd.R_drew)); exact Kd.R_mono HO189.out (fun _ hk => ⟨hk.2, hk.1⟩)), (bk BK171), (bk BK172), (bk BK173), (bk BK193), GW193.out, GE193.out, NB171_193.out, NB193_171.out, NB172_193.out, NB193_172.out, NB173_193.out, NB193_173.out, (bt HB)⟩)
                 ·skip
                  rintro ⟨v178, gb193⟩ w33 ⟨hS_, h0_, h1_, h2_, h3_, h4_, h5_, h6_, h7_, h8_, h9_, h10_, h11_, h12_, h13_⟩
                  have n0_ : Aside0 (Kd.R k53 53 w33 w.heap.size (fun k_ => k_ ≠ gb172) v178 y177) := ⟨h0_⟩
                  have n1_ : Aside0 (w33.heap[gb171]? = some (.cells #[.int .i64 a0_0, .int .i64 a0_1, .slice A0_2 l0_2.length c0_2] 40 (0, 0))) := ⟨h1_⟩
                  have n2_ : Aside0 (w33.heap[gb172]? = some (.cells #[.int .i64 a2_0, .int .i64 a2_1, .string a2_2] 53 (0, 0))) := ⟨h2_⟩
                  have n3_ : Aside0 (w33.heap[gb173]? = some (.cells #[.int .i64 0, .int .i64 0, .slice none 0 0] 40 (0, 0))) := ⟨h3_⟩
                  have n4_ : Aside0 (w33.heap[gb193]? = some (.cells #[.int .i64 0, .int .i64 0, .slice none 0 0] 40 (0, 0))) := ⟨h4_⟩
                  have n5_ : Aside0 (w.heap.size ≤ gb193) := ⟨h5_⟩
                  have n6_ : Aside0 (w.heap.size ≤ gb193) := ⟨h6_⟩
                  have n7_ : Aside0 (gb171 ≠ gb193) := ⟨h7_⟩
                  have n8_ : Aside0 (gb193 ≠ gb171) := ⟨h8_⟩
                  have n9_ : Aside0 (gb172 ≠ gb193) := ⟨h9_⟩
                  have n10_ : Aside0 (gb193 ≠ gb172) := ⟨h10_⟩
                  have n11_ : Aside0 (gb173 ≠ gb193) := ⟨h11_⟩
                  have n12_ : Aside0 (gb193 ≠ gb173) := ⟨h12_⟩
                  have n13_ : Aside0 (Below w.heap.size w w33) := ⟨h13_⟩
                  clear BK171
                  clear BK172
                  clear BK173
                  clear HB
                  clear h0_ h1_ h2_ h3_ h4_ h5_ h6_ h7_ h8_ h9_ h10_ h11_ h12_ h13_
                  have HO179 := n0_
                  have BK171 := n1_
                  have BK172 := n2_
                  have BK173 := n3_
                  have BK193 := n4_
                  have GW193 := n5_
                  have GE193 := n6_
                  have NB171_193 := n7_
                  have NB193_171 := n8_
                  have NB172_193 := n9_
                  have NB193_172 := n10_
                  have NB173_193 := n11_
                  have NB193_173 := n12_
                  have HB := n13_
                  clear n0_ n1_ n2_ n3_ n4_ n5_ n6_ n7_ n8_ n9_ n10_ n11_ n12_ n13_
                  have hHeld : w33.cell? ⟨gb171, 0, none⟩ = some (.int .i64 a0_0) ∧ w33.cell? ⟨gb171, 1, none⟩ = some (.int .i64 a0_1) ∧ w33.cell? ⟨gb171, 2, none⟩ = some (.slice A0_2 l0_2.length c0_2) ∧ w33.cell? ⟨gb172, 0, none⟩ = some (.int .i64 a2_0) ∧ w33.cell? ⟨gb172, 1, none⟩ = some (.int .i64 a2_1) ∧ w33.cell? ⟨gb172, 2, none⟩ = some (.string a2_2) := hS_
                  refine norm_ (a' := ?_) ?_ ?_
                  rotate_left
                  ·simp only [putAll, Act.put, zA, zB, zC]
                   rfl
                  refine two_ (i := 13) (j := 15) (Ni := some 37) (Nj := some 39) #[true, true, true, true, true, true, true, true, true, true, true, true, true, true, true, false, false, false, true, false] #[true, true, true, true, true, true, true, true, true, true, true, true, true, false, true, true, false, false, true, false] rfl rfl rfl rfl (two_of HT_.out (by kernel_rfl)) (by decide) (by decide) (fun K hK => ?_) (fun K hK => ?_)
                  ·skip
                   refine Kd.R_append_rows_step k53 (w0 := w) w.heap.size (by rfl) (.tmp 28) (.tmp 36) 38 53 (.agg #[(.int .i64 0), (.int .i64 0), (.string ⟨#[]⟩)]) 32 rfl Try.underlying38 info53 rfl (by decide) (by omega) v178 y177 y180 _ _ _ (fun k_ => k_ ≠ gb172) (fun _ => False) rfl rfl ?aO ?aR (fun _ _ h => h) (fun _ h => h.elim) ?aF ?aB ?aS ?aL ?_
                   (case aR => repeat (first | exact (Kd.C_below HR183.out HB.out) | (with_reducible refine Kd.C_alloc ?_ _) | (with_reducible refine Kd.C_drewN ?_ _) | (with_reducible refine Kd.C_drew ?_)))
                   (case aB => exact (bt HB))
                   (case aF => exact (fun k_ hk => Kd.freshB (g := gb172) (o := .cells #[.int .i64 a2_0, .int .i64 a2_1, .string a2_2] 53 (0, 0)) (bk BK172) k_ hk))
                   (case aO => exact (rk HO179))
                   (case aS => exact (below_size (bt HB)))
                   (case aL => have := LMc24.out; omega)
                   intro v185 w34 ho hb hg hat
                   rw [← Ny184.out] at ho
                   have n0_ := Aside0.mk (blk_grown (g := gb171) (o := .cells #[.int .i64 a0_0, .int .i64 a0_1, .slice A0_2 l0_2.length c0_2] 40 (0, 0)) (bk BK171) hg (Kd.R_ne HO179.out BK171.out (by decide)))
                   have n1_ := Aside0.mk (blk_grown (g := gb172) (o := .cells #[.int .i64 a2_0, .int .i64 a2_1, .string a2_2] 53 (0, 0)) (bk BK172) hg (Kd.R_away HO179.out (fun _ hk => hk)))
                   have n2_ := Aside0.mk (blk_grown (g := gb173) (o := .cells #[.int .i64 0, .int .i64 0, .slice none 0 0] 40 (0, 0)) (bk BK173) hg (Kd.R_ne HO179.out BK173.out (by decide)))
                   have n3_ := Aside0.mk (blk_grown (g := gb193) (o := .cells #[.int .i64 0, .int .i64 0, .slice none 0 0] 40 (0, 0)) (bk BK193) hg (Kd.R_ne HO179.out BK193.out (by decide)))
                   have n4_ := Aside0.mk (hb)
                   have n5_ := Aside0.mk (ho)
                   clear BK171 BK172 BK173 BK193 HB HO179
                   revert n0_ n1_ n2_ n3_ n4_ n5_
                   intro BK171 BK172 BK173 BK193 HB HO186
                   clear ho hb hg hat
                   refine hK.out _ _ ⟨bc BK171 0, bc BK171 1, bc BK171 2, bc BK172 0, bc BK172 1, bc BK172 2⟩ (fun hHeld => ?_)
                   clear hK K
                   refine norm_ (a' := ?_) ?_ ?_
                   rotate_left
                   ·show Act.put _ (some 37) _ = _
                    simp only [Act.put, zA, zB, zC, i64_w, i32_w]
                    rfl
                   exact norm_ (by first | (simp only [putAll, Act.put, zA, zB, zC]; done) | (simp only [putAll, Act.put, zA, zB, zC]; rfl)) (hJ4_13_18 (v178, v185, gb193) _ ⟨hHeld, (rk HO186), (bk BK171), (bk BK172), (bk BK173), (bk BK193), GW193.out, GE193.out, NB171_193.out, NB193_171.out, NB172_193.out, NB193_172.out, NB173_193.out, NB193_173.out, (bt HB)⟩)
                  ·skip
                   refine Kd.R_lit_step k53 _ 53 ?hg (N := 39) ?hd (xs := ([(⟨a2_0, a2_1, a2_2⟩ : S53)] : List (S53))) (inner := [.int .i64 a2_0, .int .i64 a2_1, .string a2_2]) (ok := fun _ => True) (okp := fun _ => True) ?hr ?hp (fun _ hk => hk) trivial (Below.refl _ _) (Nat.le_refl _) (by simp) ?_; (case hd => rfl); (case hg => rfl); (case hr => first | (go_simp; done) | (go_simp; rfl)); (case hp => exact (Reps.c3 (show Kd.M k53 _ _ _ (⟨a2_0, a2_1, a2_2⟩ : S53) [.int .i64 a2_0, .int .i64 a2_1, .string a2_2] from (k53_mkM _ _ _ (⟨a2_0, a2_1, a2_2⟩ : S53) )) (Reps.none _ _)))
                   intro v188 w34 ho35 hb hg_ hnew_
                   clear hg_ hnew_
                   (first | rw [← Ny187.out] at ho35 | (simp only [Int.reduceToNat] at ho35; rw [← Ny187.out] at ho35))
                   have n0_ := Aside0.mk (Kd.R_elder' (rk HO179) (Kd.R_base ho35) hb)
                   have n1_ := Aside0.mk (Kd.R_lower (Kd.R_newB (Kd.R_new' ho35 (Kd.R_lt (rk HO179))) (g := gb172) (o := .cells #[.int .i64 a2_0, .int .i64 a2_1, .string a2_2] 53 (0, 0)) (bk BK172)) (below_size (bt HB)))
                   have n2_ := bb BK171 hb
                   have n3_ := bb BK172 hb
                   have n4_ := bb BK173 hb
                   have n5_ := bb BK193 hb
                   have n6_ := Aside0.mk (below_step (bt HB) hb)
                   clear HO179 BK171 BK172 BK173 BK193 HB
                   revert n0_ n1_ n2_ n3_ n4_ n5_ n6_
                   intro HO179 HO189 BK171 BK172 BK173 BK193 HB
                   clear hb ho35
                   refine hK.out _ _ ⟨bc BK171 0, bc BK171 1, bc BK171 2, bc BK172 0, bc BK172 1, bc BK172 2⟩ (fun hHeld => ?_)
                   clear hK K
                   refine norm_ (a' := ?_) ?_ ?_
                   rotate_left
                   ·show Act.put _ (some 39) _ = _
                    simp only [Act.put, zA, zB, zC, i64_w, i32_w]
                    rfl
                   exact norm_ (by first | (simp only [putAll, Act.put, zA, zB, zC]; done) | (simp only [putAll, Act.put, zA, zB, zC]; rfl)) (hJ4_15_18 (v178, v188, gb193) _ ⟨hHeld, (by (with_reducible repeat (first | apply Kd.R_alloc | apply Kd.R_drewN | apply Kd.R_drew)); exact Kd.R_mono HO179.out (fun _ hk => ⟨hk.2, hk.1⟩)), (by (with_reducible repeat (first | apply Kd.R_alloc | apply Kd.R_drewN | apply Kd.R_drew)); exact Kd.R_mono HO189.out (fun _ hk => ⟨hk.1.2, hk.2⟩)), (bk BK171), (bk BK172), (bk BK173), (bk BK193), GW193.out, GE193.out, NB171_193.out, NB193_171.out, NB172_193.out, NB193_172.out, NB173_193.out, NB193_173.out, (bt HB)⟩)
                ·skip
                 rintro ⟨v178, v188⟩ w34 ⟨hS_, h0_, h1_, h2_, h3_, h4_, h5_⟩
                 have n0_ : Aside0 (Kd.R k53 53 w34 w.heap.size (fun k_ => some k_ ≠ (v188 : Value).ownBlock ∧ k_ ≠ gb172) v178 y177) := ⟨h0_⟩
                 have n1_ : Aside0 (Kd.R k53 53 w34 w.heap.size (fun k_ => some k_ ≠ (v178 : Value).ownBlock ∧ k_ ≠ gb172) v188 y187) := ⟨h1_⟩
                 have n2_ : Aside0 (w34.heap[gb171]? = some (.cells #[.int .i64 a0_0, .int .i64 a0_1, .slice A0_2 l0_2.length c0_2] 40 (0, 0))) := ⟨h2_⟩
                 have n3_ : Aside0 (w34.heap[gb172]? = some (.cells #[.int .i64 a2_0, .int .i64 a2_1, .string a2_2] 53 (0, 0))) := ⟨h3_⟩
                 have n4_ : Aside0 (w34.heap[gb173]? = some (.cells #[.int .i64 0, .int .i64 0, .slice none 0 0] 40 (0, 0))) := ⟨h4_⟩
                 have n5_ : Aside0 (Below w.heap.size w w34) := ⟨h5_⟩
                 clear BK171
                 clear BK172
                 clear BK173
                 clear HB
                 clear h0_ h1_ h2_ h3_ h4_ h5_
                 have HO179 := n0_
                 have HO189 := n1_
                 have BK171 := n2_
                 have BK172 := n3_
                 have BK173 := n4_
                 have HB := n5_
                 clear n0_ n1_ n2_ n3_ n4_ n5_
                 have hHeld : w34.cell? ⟨gb171, 0, none⟩ = some (.int .i64 a0_0) ∧ w34.cell? ⟨gb171, 1, none⟩ = some (.int .i64 a0_1) ∧ w34.cell? ⟨gb171, 2, none⟩ = some (.slice A0_2 l0_2.length c0_2) ∧ w34.cell? ⟨gb172, 0, none⟩ = some (.int .i64 a2_0) ∧ w34.cell? ⟨gb172, 1, none⟩ = some (.int .i64 a2_1) ∧ w34.cell? ⟨gb172, 2, none⟩ = some (.string a2_2) := hS_
                 refine norm_ (a' := ?_) ?_ ?_
                 rotate_left
                 ·simp only [putAll, Act.put, zA, zB, zC]
                  rfl
                 refine two_ (i := 13) (j := 18) (Ni := some 37) (Nj := some 8) #[true, true, true, true, true, true, true, true, true, true, true, true, true, true, true, true, false, false, false, false] #[true, true, true, true, true, true, true, true, true, true, true, true, true, false, true, true, false, false, true, false] rfl rfl rfl rfl (two_of HT_.out (by kernel_rfl)) (by decide) (by decide) (fun K hK => ?_) (fun K hK => ?_)
                 ·skip
                  refine Kd.R_append_rows_step k53 (w0 := w) w.heap.size (by rfl) (.tmp 28) (.tmp 36) 38 53 (.agg #[(.int .i64 0), (.int .i64 0), (.string ⟨#[]⟩)]) 32 rfl Try.underlying38 info53 rfl (by decide) (by omega) v178 y177 y180 _ _ _ (fun k_ => some k_ ≠ (v188 : Value).ownBlock ∧ k_ ≠ gb172) (fun _ => False) rfl rfl ?aO ?aR (fun _ _ h => h) (fun _ h => h.elim) ?aF ?aB ?aS ?aL ?_
                  (case aR => repeat (first | exact (Kd.C_below HR183.out HB.out) | (with_reducible refine Kd.C_alloc ?_ _) | (with_reducible refine Kd.C_drewN ?_ _) | (with_reducible refine Kd.C_drew ?_)))
                  (case aB => exact (bt HB))
                  (case aF => exact (fun k_ hk => ⟨Kd.fresh' (Kd.R_lt (rk HO189)) k_ hk, Kd.freshB (g := gb172) (o := .cells #[.int .i64 a2_0, .int .i64 a2_1, .string a2_2] 53 (0, 0)) (bk BK172) k_ hk⟩))
                  (case aO => exact (rk HO179))
                  (case aS => exact (below_size (bt HB)))
                  (case aL => have := LMc24.out; omega)
                  intro v185 w35 ho hb hg hat
                  rw [← Ny184.out] at ho
                  have n0_ := Aside0.mk (blk_grown (g := gb171) (o := .cells #[.int .i64 a0_0, .int .i64 a0_1, .slice A0_2 l0_2.length c0_2] 40 (0, 0)) (bk BK171) hg (Kd.R_ne HO179.out BK171.out (by decide)))
                  have n1_ := Aside0.mk (blk_grown (g := gb172) (o := .cells #[.int .i64 a2_0, .int .i64 a2_1, .string a2_2] 53 (0, 0)) (bk BK172) hg (Kd.R_away HO179.out (fun _ hk => hk.2)))
                  have n2_ := Aside0.mk (blk_grown (g := gb173) (o := .cells #[.int .i64 0, .int .i64 0, .slice none 0 0] 40 (0, 0)) (bk BK173) hg (Kd.R_ne HO179.out BK173.out (by decide)))
                  have n3_ := Aside0.mk (Kd.R_after (ok := (fun k_ => k_ ≠ gb172)) (by (with_reducible repeat (first | apply Kd.R_alloc | apply Kd.R_drewN | apply Kd.R_drew)); exact Kd.R_mono HO189.out (fun _ hk => ⟨hk.2, hk.1⟩)) hg hat)
                  have n4_ := Aside0.mk (hb)
                  have n5_ := Aside0.mk (ho)
                  clear BK171 BK172 BK173 HO189 HB HO179
                  revert n0_ n1_ n2_ n3_ n4_ n5_
                  intro BK171 BK172 BK173 HO189 HB HO186
                  clear ho hb hg hat
                  refine hK.out _ _ ⟨bc BK171 0, bc BK171 1, bc BK171 2, bc BK172 0, bc BK172 1, bc BK172 2⟩ (fun hHeld => ?_)
                  clear hK K
                  refine norm_ (a' := ?_) ?_ ?_
                  rotate_left
                  ·show Act.put _ (some 37) _ = _
                   simp only [Act.put, zA, zB, zC, i64_w, i32_w]
                   rfl
                  exact norm_ (by first | (simp only [putAll, Act.put, zA, zB, zC]; done) | (simp only [putAll, Act.put, zA, zB, zC]; rfl)) (hJ4_13_15 (v178, v185, v188) _ ⟨hHeld, (rk HO186), (by (with_reducible repeat (first | apply Kd.R_alloc | apply Kd.R_drewN | apply Kd.R_drew)); exact Kd.R_mono HO189.out (fun _ hk => ⟨hk.2, hk.1⟩)), (bk BK171), (bk BK172), (bk BK173), (bt HB)⟩)
                 ·skip
                  refine box_step ?hg (N := 8) ?hd (cs := #[.int .i64 0, .int .i64 0, .slice none 0 0]) (t := 40) ?hr ?_; (case hd => rfl); (case hg => rfl); (case hr => first | (go_simp; done) | (go_simp; rfl))
                  intro gb193 hg w35 hbox hb
                  have n0_ := rb HO179 hb
                  have n1_ := rb HO189 hb
                  have n2_ := bb BK171 hb
                  have n3_ := bb BK172 hb
                  have n4_ := bb BK173 hb
                  have n5_ := Aside0.mk (below_step (bt HB) hb)
                  have n6_ := Aside0.mk (hbox)
                  have n7_ := Aside0.mk ((by rw [hg]; exact (below_size (bt HB)) : w.heap.size ≤ gb193))
                  have n8_ := Aside0.mk ((by rw [hg]; exact (below_size (bt HB)) : w.heap.size ≤ gb193))
                  have n9_ := Aside0.mk ((by rw [hg]; exact Nat.ne_of_lt (blk_lt (bk BK171)) : gb171 ≠ gb193))
                  have n10_ := Aside0.mk ((by rw [hg]; exact Nat.ne_of_gt (blk_lt (bk BK171)) : gb193 ≠ gb171))
                  have n11_ := Aside0.mk ((by rw [hg]; exact Nat.ne_of_lt (blk_lt (bk BK172)) : gb172 ≠ gb193))
                  have n12_ := Aside0.mk ((by rw [hg]; exact Nat.ne_of_gt (blk_lt (bk BK172)) : gb193 ≠ gb172))
                  have n13_ := Aside0.mk ((by rw [hg]; exact Nat.ne_of_lt (blk_lt (bk BK173)) : gb173 ≠ gb193))
                  have n14_ := Aside0.mk ((by rw [hg]; exact Nat.ne_of_gt (blk_lt (bk BK173)) : gb193 ≠ gb173))
                  clear HO179 HO189 BK171 BK172 BK173 HB
                  revert n0_ n1_ n2_ n3_ n4_ n5_ n6_ n7_ n8_ n9_ n10_ n11_ n12_ n13_ n14_
                  intro HO179 HO189 BK171 BK172 BK173 HB BK193 GW193 GE193 NB171_193 NB193_171 NB172_193 NB193_172 NB173_193 NB193_173
                  clear hb hbox hg
                  refine hK.out _ _ ⟨bc BK171 0, bc BK171 1, bc BK171 2, bc BK172 0, bc BK172 1, bc BK172 2⟩ (fun hHeld => ?_)
                  clear hK K
                  refine norm_ (a' := ?_) ?_ ?_
                  rotate_left
                  ·show Act.put _ (some 8) _ = _
                   simp only [Act.put, zA, zB, zC, i64_w, i32_w]
                   rfl
                  exact norm_ (by first | (simp only [putAll, Act.put, zA, zB, zC]; done) | (simp only [putAll, Act.put, zA, zB, zC]; rfl)) (hJ4_15_18 (v178, v188, gb193) _ ⟨hHeld, (rk HO179), (rk HO189), (bk BK171), (bk BK172), (bk BK173), (bk BK193), GW193.out, GE193.out, NB171_193.out, NB193_171.out, NB172_193.out, NB193_172.out, NB173_193.out, NB193_173.out, (bt HB)⟩)
               ·skip
                rintro ⟨v178, v185⟩ w33 ⟨hS_, h0_, h1_, h2_, h3_, h4_⟩
                have n0_ : Aside0 (Kd.R k53 53 w33 w.heap.size (fun k_ => k_ ≠ gb172) v185 y184) := ⟨h0_⟩
                have n1_ : Aside0 (w33.heap[gb171]? = some (.cells #[.int .i64 a0_0, .int .i64 a0_1, .slice A0_2 l0_2.length c0_2] 40 (0, 0))) := ⟨h1_⟩
                have n2_ : Aside0 (w33.heap[gb172]? = some (.cells #[.int .i64 a2_0, .int .i64 a2_1, .string a2_2] 53 (0, 0))) := ⟨h2_⟩
                have n3_ : Aside0 (w33.heap[gb173]? = some (.cells #[.int .i64 0, .int .i64 0, .slice none 0 0] 40 (0, 0))) := ⟨h3_⟩
                have n4_ : Aside0 (Below w.heap.size w w33) := ⟨h4_⟩
                clear BK171
                clear BK172
                clear BK173
                clear HB
                clear h0_ h1_ h2_ h3_ h4_
                have HO186 := n0_
                have BK171 := n1_
                have BK172 := n2_
                have BK173 := n3_
                have HB := n4_
                clear n0_ n1_ n2_ n3_ n4_
                have hHeld : w33.cell? ⟨gb171, 0, none⟩ = some (.int .i64 a0_0) ∧ w33.cell? ⟨gb171, 1, none⟩ = some (.int .i64 a0_1) ∧ w33.cell? ⟨gb171, 2, none⟩ = some (.slice A0_2 l0_2.length c0_2) ∧ w33.cell? ⟨gb172, 0, none⟩ = some (.int .i64 a2_0) ∧ w33.cell? ⟨gb172, 1, none⟩ = some (.int .i64 a2_1) ∧ w33.cell? ⟨gb172, 2, none⟩ = some (.string a2_2) := hS_
                refine norm_ (a' := ?_) ?_ ?_
                rotate_left
                ·simp only [putAll, Act.put, zA, zB, zC]
                 rfl
                refine two_ (i := 15) (j := 18) (Ni := some 39) (Nj := some 8) #[true, true, true, true, true, true, true, true, true, true, true, true, true, true, true, true, false, false, false, false] #[true, true, true, true, true, true, true, true, true, true, true, true, true, true, true, false, false, false, true, false] rfl rfl rfl rfl (two_of HT_.out (by kernel_rfl)) (by decide) (by decide) (fun K hK => ?_) (fun K hK => ?_)
                ·skip
                 refine Kd.R_lit_step k53 _ 53 ?hg (N := 39) ?hd (xs := ([(⟨a2_0, a2_1, a2_2⟩ : S53)] : List (S53))) (inner := [.int .i64 a2_0, .int .i64 a2_1, .string a2_2]) (ok := fun _ => True) (okp := fun _ => True) ?hr ?hp (fun _ hk => hk) trivial (Below.refl _ _) (Nat.le_refl _) (by simp) ?_; (case hd => rfl); (case hg => rfl); (case hr => first | (go_simp; done) | (go_simp; rfl)); (case hp => exact (Reps.c3 (show Kd.M k53 _ _ _ (⟨a2_0, a2_1, a2_2⟩ : S53) [.int .i64 a2_0, .int .i64 a2_1, .string a2_2] from (k53_mkM _ _ _ (⟨a2_0, a2_1, a2_2⟩ : S53) )) (Reps.none _ _)))
                 intro v188 w34 ho35 hb hg_ hnew_
                 clear hg_ hnew_
                 (first | rw [← Ny187.out] at ho35 | (simp only [Int.reduceToNat] at ho35; rw [← Ny187.out] at ho35))
                 have n0_ := Aside0.mk (Kd.R_elder' (rk HO186) (Kd.R_base ho35) hb)
                 have n1_ := Aside0.mk (Kd.R_lower (Kd.R_newB (Kd.R_new' ho35 (Kd.R_lt (rk HO186))) (g := gb172) (o := .cells #[.int .i64 a2_0, .int .i64 a2_1, .string a2_2] 53 (0, 0)) (bk BK172)) (below_size (bt HB)))
                 have n2_ := bb BK171 hb
                 have n3_ := bb BK172 hb
                 have n4_ := bb BK173 hb
                 have n5_ := Aside0.mk (below_step (bt HB) hb)
                 clear HO186 BK171 BK172 BK173 HB
                 revert n0_ n1_ n2_ n3_ n4_ n5_
                 intro HO186 HO189 BK171 BK172 BK173 HB
                 clear hb ho35
                 refine hK.out _ _ ⟨bc BK171 0, bc BK171 1, bc BK171 2, bc BK172 0, bc BK172 1, bc BK172 2⟩ (fun hHeld => ?_)
                 clear hK K
                 refine norm_ (a' := ?_) ?_ ?_
                 rotate_left
                 ·show Act.put _ (some 39) _ = _
                  simp only [Act.put, zA, zB, zC, i64_w, i32_w]
                  rfl
                 exact norm_ (by first | (simp only [putAll, Act.put, zA, zB, zC]; done) | (simp only [putAll, Act.put, zA, zB, zC]; rfl)) (hJ4_13_15 (v178, v185, v188) _ ⟨hHeld, (by (with_reducible repeat (first | apply Kd.R_alloc | apply Kd.R_drewN | apply Kd.R_drew)); exact Kd.R_mono HO186.out (fun _ hk => ⟨hk.2, hk.1⟩)), (by (with_reducible repeat (first | apply Kd.R_alloc | apply Kd.R_drewN | apply Kd.R_drew)); exact Kd.R_mono HO189.out (fun _ hk => ⟨hk.1.2, hk.2⟩)), (bk BK171), (bk BK172), (bk BK173), (bt HB)⟩)
                ·skip
                 refine box_step ?hg (N := 8) ?hd (cs := #[.int .i64 0, .int .i64 0, .slice none 0 0]) (t := 40) ?hr ?_; (case hd => rfl); (case hg => rfl); (case hr => first | (go_simp; done) | (go_simp; rfl))
                 intro gb193 hg w34 hbox hb
                 have n0_ := rb HO186 hb
                 have n1_ := bb BK171 hb
                 have n2_ := bb BK172 hb
                 have n3_ := bb BK173 hb
                 have n4_ := Aside0.mk (below_step (bt HB) hb)
                 have n5_ := Aside0.mk (hbox)
                 have n6_ := Aside0.mk ((by rw [hg]; exact (below_size (bt HB)) : w.heap.size ≤ gb193))
                 have n7_ := Aside0.mk ((by rw [hg]; exact (below_size (bt HB)) : w.heap.size ≤ gb193))
                 have n8_ := Aside0.mk ((by rw [hg]; exact Nat.ne_of_lt (blk_lt (bk BK171)) : gb171 ≠ gb193))
                 have n9_ := Aside0.mk ((by rw [hg]; exact Nat.ne_of_gt (blk_lt (bk BK171)) : gb193 ≠ gb171))
                 have n10_ := Aside0.mk ((by rw [hg]; exact Nat.ne_of_lt (blk_lt (bk BK172)) : gb172 ≠ gb193))
                 have n11_ := Aside0.mk ((by rw [hg]; exact Nat.ne_of_gt (blk_lt (bk BK172)) : gb193 ≠ gb172))
                 have n12_ := Aside0.mk ((by rw [hg]; exact Nat.ne_of_lt (blk_lt (bk BK173)) : gb173 ≠ gb193))
                 have n13_ := Aside0.mk ((by rw [hg]; exact Nat.ne_of_gt (blk_lt (bk BK173)) : gb193 ≠ gb173))
                 clear HO186 BK171 BK172 BK173 HB
                 revert n0_ n1_ n2_ n3_ n4_ n5_ n6_ n7_ n8_ n9_ n10_ n11_ n12_ n13_
                 intro HO186 BK171 BK172 BK173 HB BK193 GW193 GE193 NB171_193 NB193_171 NB172_193 NB193_172 NB173_193 NB193_173
                 clear hb hbox hg
                 refine hK.out _ _ ⟨bc BK171 0, bc BK171 1, bc BK171 2, bc BK172 0, bc BK172 1, bc BK172 2⟩ (fun hHeld => ?_)
                 clear hK K
                 refine norm_ (a' := ?_) ?_ ?_
                 rotate_left
                 ·show Act.put _ (some 8) _ = _
                  simp only [Act.put, zA, zB, zC, i64_w, i32_w]
                  rfl
                 exact norm_ (by first | (simp only [putAll, Act.put, zA, zB, zC]; done) | (simp only [putAll, Act.put, zA, zB, zC]; rfl)) (hJ4_13_18 (v178, v185, gb193) _ ⟨hHeld, (rk HO186), (bk BK171), (bk BK172), (bk BK173), (bk BK193), GW193.out, GE193.out, NB171_193.out, NB193_171.out, NB172_193.out, NB193_172.out, NB173_193.out, NB193_173.out, (bt HB)⟩)
              ·skip
               rintro ⟨v178, v188, gb193⟩ w35 ⟨hS_, h0_, h1_, h2_, h3_, h4_, h5_, h6_, h7_, h8_, h9_, h10_, h11_, h12_, h13_, h14_⟩
               have n0_ : Aside0 (Kd.R k53 53 w35 w.heap.size (fun k_ => some k_ ≠ (v188 : Value).ownBlock ∧ k_ ≠ gb172) v178 y177) := ⟨h0_⟩
               have n1_ : Aside0 (Kd.R k53 53 w35 w.heap.size (fun k_ => some k_ ≠ (v178 : Value).ownBlock ∧ k_ ≠ gb172) v188 y187) := ⟨h1_⟩
               have n2_ : Aside0 (w35.heap[gb171]? = some (.cells #[.int .i64 a0_0, .int .i64 a0_1, .slice A0_2 l0_2.length c0_2] 40 (0, 0))) := ⟨h2_⟩
               have n3_ : Aside0 (w35.heap[gb172]? = some (.cells #[.int .i64 a2_0, .int .i64 a2_1, .string a2_2] 53 (0, 0))) := ⟨h3_⟩
               have n4_ : Aside0 (w35.heap[gb173]? = some (.cells #[.int .i64 0, .int .i64 0, .slice none 0 0] 40 (0, 0))) := ⟨h4_⟩
               have n5_ : Aside0 (w35.heap[gb193]? = some (.cells #[.int .i64 0, .int .i64 0, .slice none 0 0] 40 (0, 0))) := ⟨h5_⟩
               have n6_ : Aside0 (w.heap.size ≤ gb193) := ⟨h6_⟩
               have n7_ : Aside0 (w.heap.size ≤ gb193) := ⟨h7_⟩
               have n8_ : Aside0 (gb171 ≠ gb193) := ⟨h8_⟩
               have n9_ : Aside0 (gb193 ≠ gb171) := ⟨h9_⟩
               have n10_ : Aside0 (gb172 ≠ gb193) := ⟨h10_⟩
               have n11_ : Aside0 (gb193 ≠ gb172) := ⟨h11_⟩
               have n12_ : Aside0 (gb173 ≠ gb193) := ⟨h12_⟩
               have n13_ : Aside0 (gb193 ≠ gb173) := ⟨h13_⟩
               have n14_ : Aside0 (Below w.heap.size w w35) := ⟨h14_⟩
               clear BK171
               clear BK172
               clear BK173
               clear HB
               clear h0_ h1_ h2_ h3_ h4_ h5_ h6_ h7_ h8_ h9_ h10_ h11_ h12_ h13_ h14_
               have HO179 := n0_
               have HO189 := n1_
               have BK171 := n2_
               have BK172 := n3_
               have BK173 := n4_
               have BK193 := n5_
               have GW193 := n6_
               have GE193 := n7_
               have NB171_193 := n8_
               have NB193_171 := n9_
               have NB172_193 := n10_
               have NB193_172 := n11_
               have NB173_193 := n12_
               have NB193_173 := n13_
               have HB := n14_
               clear n0_ n1_ n2_ n3_ n4_ n5_ n6_ n7_ n8_ n9_ n10_ n11_ n12_ n13_ n14_
               have hHeld : w35.cell? ⟨gb171, 0, none⟩ = some (.int .i64 a0_0) ∧ w35.cell? ⟨gb171, 1, none⟩ = some (.int .i64 a0_1) ∧ w35.cell? ⟨gb171, 2, none⟩ = some (.slice A0_2 l0_2.length c0_2) ∧ w35.cell? ⟨gb172, 0, none⟩ = some (.int .i64 a2_0) ∧ w35.cell? ⟨gb172, 1, none⟩ = some (.int .i64 a2_1) ∧ w35.cell? ⟨gb172, 2, none⟩ = some (.string a2_2) := hS_
               refine norm_ (a' := ?_) ?_ ?_
               rotate_left
               ·simp only [putAll, Act.put, zA, zB, zC]
                rfl
               refine one_ (i := 13) (N := some 37) #[true, true, true, true, true, true, true, true, true, true, true, true, true, true, true, true, false, false, true, false] rfl rfl (one_of HT_.out (by kernel_rfl)) (by decide) (fun K hK => ?_)
               refine Kd.R_append_rows_step k53 (w0 := w) w.heap.size (by rfl) (.tmp 28) (.tmp 36) 38 53 (.agg #[(.int .i64 0), (.int .i64 0), (.string ⟨#[]⟩)]) 32 rfl Try.underlying38 info53 rfl (by decide) (by omega) v178 y177 y180 _ _ _ (fun k_ => some k_ ≠ (v188 : Value).ownBlock ∧ k_ ≠ gb172) (fun _ => False) rfl rfl ?aO ?aR (fun _ _ h => h) (fun _ h => h.elim) ?aF ?aB ?aS ?aL ?_
               (case aR => repeat (first | exact (Kd.C_below HR183.out HB.out) | (with_reducible refine Kd.C_alloc ?_ _) | (with_reducible refine Kd.C_drewN ?_ _) | (with_reducible refine Kd.C_drew ?_)))
               (case aB => exact (bt HB))
               (case aF => exact (fun k_ hk => ⟨Kd.fresh' (Kd.R_lt (rk HO189)) k_ hk, Kd.freshB (g := gb172) (o := .cells #[.int .i64 a2_0, .int .i64 a2_1, .string a2_2] 53 (0, 0)) (bk BK172) k_ hk⟩))
               (case aO => exact (rk HO179))
               (case aS => exact (below_size (bt HB)))
               (case aL => have := LMc24.out; omega)
               intro v185 w36 ho hb hg hat
               rw [← Ny184.out] at ho
               have n0_ := Aside0.mk (blk_grown (g := gb171) (o := .cells #[.int .i64 a0_0, .int .i64 a0_1, .slice A0_2 l0_2.length c0_2] 40 (0, 0)) (bk BK171) hg (Kd.R_ne HO179.out BK171.out (by decide)))
               have n1_ := Aside0.mk (blk_grown (g := gb172) (o := .cells #[.int .i64 a2_0, .int .i64 a2_1, .string a2_2] 53 (0, 0)) (bk BK172) hg (Kd.R_away HO179.out (fun _ hk => hk.2)))
               have n2_ := Aside0.mk (blk_grown (g := gb173) (o := .cells #[.int .i64 0, .int .i64 0, .slice none 0 0] 40 (0, 0)) (bk BK173) hg (Kd.R_ne HO179.out BK173.out (by decide)))
               have n3_ := Aside0.mk (Kd.R_after (ok := (fun k_ => k_ ≠ gb172)) (by (with_reducible repeat (first | apply Kd.R_alloc | apply Kd.R_drewN | apply Kd.R_drew)); exact Kd.R_mono HO189.out (fun _ hk => ⟨hk.2, hk.1⟩)) hg hat)
               have n4_ := Aside0.mk (blk_grown (g := gb193) (o := .cells #[.int .i64 0, .int .i64 0, .slice none 0 0] 40 (0, 0)) (bk BK193) hg (Kd.R_ne HO179.out BK193.out (by decide)))
               have n5_ := Aside0.mk (hb)
               have n6_ := Aside0.mk (ho)
               clear BK171 BK172 BK173 HO189 BK193 HB HO179
               revert n0_ n1_ n2_ n3_ n4_ n5_ n6_
               intro BK171 BK172 BK173 HO189 BK193 HB HO186
               clear ho hb hg hat
               refine hK.out _ _ ⟨bc BK171 0, bc BK171 1, bc BK171 2, bc BK172 0, bc BK172 1, bc BK172 2⟩ (fun hHeld => ?_)
               clear hK K
               refine norm_ (a' := ?_) ?_ ?_
               rotate_left
               ·show Act.put _ (some 37) _ = _
                simp only [Act.put, zA, zB, zC, i64_w, i32_w]
                rfl
               exact norm_ (by first | (simp only [putAll, Act.put, zA, zB, zC]; done) | (simp only [putAll, Act.put, zA, zB, zC]; rfl)) (hJ4_13_15_18 (v178, v185, v188, gb193) _ ⟨hHeld, (rk HO186), (by (with_reducible repeat (first | apply Kd.R_alloc | apply Kd.R_drewN | apply Kd.R_drew)); exact Kd.R_mono HO189.out (fun _ hk => ⟨hk.2, hk.1⟩)), (bk BK171), (bk BK172), (bk BK173), (bk BK193), GW193.out, GE193.out, NB171_193.out, NB193_171.out, NB172_193.out, NB193_172.out, NB173_193.out, NB193_173.out, (bt HB)⟩)
             ·skip
              rintro ⟨v178, v185, gb193⟩ w34 ⟨hS_, h0_, h1_, h2_, h3_, h4_, h5_, h6_, h7_, h8_, h9_, h10_, h11_, h12_, h13_⟩
              have n0_ : Aside0 (Kd.R k53 53 w34 w.heap.size (fun k_ => k_ ≠ gb172) v185 y184) := ⟨h0_⟩
              have n1_ : Aside0 (w34.heap[gb171]? = some (.cells #[.int .i64 a0_0, .int .i64 a0_1, .slice A0_2 l0_2.length c0_2] 40 (0, 0))) := ⟨h1_⟩
              have n2_ : Aside0 (w34.heap[gb172]? = some (.cells #[.int .i64 a2_0, .int .i64 a2_1, .string a2_2] 53 (0, 0))) := ⟨h2_⟩
              have n3_ : Aside0 (w34.heap[gb173]? = some (.cells #[.int .i64 0, .int .i64 0, .slice none 0 0] 40 (0, 0))) := ⟨h3_⟩
              have n4_ : Aside0 (w34.heap[gb193]? = some (.cells #[.int .i64 0, .int .i64 0, .slice none 0 0] 40 (0, 0))) := ⟨h4_⟩
              have n5_ : Aside0 (w.heap.size ≤ gb193) := ⟨h5_⟩
              have n6_ : Aside0 (w.heap.size ≤ gb193) := ⟨h6_⟩
              have n7_ : Aside0 (gb171 ≠ gb193) := ⟨h7_⟩
              have n8_ : Aside0 (gb193 ≠ gb171) := ⟨h8_⟩
              have n9_ : Aside0 (gb172 ≠ gb193) := ⟨h9_⟩
              have n10_ : Aside0 (gb193 ≠ gb172) := ⟨h10_⟩
              have n11_ : Aside0 (gb173 ≠ gb193) := ⟨h11_⟩
              have n12_ : Aside0 (gb193 ≠ gb173) := ⟨h12_⟩
              have n13_ : Aside0 (Below w.heap.size w w34) := ⟨h13_⟩
              clear BK171
              clear BK172
              clear BK173
              clear HB
              clear h0_ h1_ h2_ h3_ h4_ h5_ h6_ h7_ h8_ h9_ h10_ h11_ h12_ h13_
              have HO186 := n0_
              have BK171 := n1_
              have BK172 := n2_
              have BK173 := n3_
              have BK193 := n4_
              have GW193 := n5_
              have GE193 := n6_
              have NB171_193 := n7_
              have NB193_171 := n8_
              have NB172_193 := n9_
              have NB193_172 := n10_
              have NB173_193 := n11_
              have NB193_173 := n12_
              have HB := n13_
              clear n0_ n1_ n2_ n3_ n4_ n5_ n6_ n7_ n8_ n9_ n10_ n11_ n12_ n13_
              have hHeld : w34.cell? ⟨gb171, 0, none⟩ = some (.int .i64 a0_0) ∧ w34.cell? ⟨gb171, 1, none⟩ = some (.int .i64 a0_1) ∧ w34.cell? ⟨gb171, 2, none⟩ = some (.slice A0_2 l0_2.length c0_2) ∧ w34.cell? ⟨gb172, 0, none⟩ = some (.int .i64 a2_0) ∧ w34.cell? ⟨gb172, 1, none⟩ = some (.int .i64 a2_1) ∧ w34.cell? ⟨gb172, 2, none⟩ = some (.string a2_2) := hS_
              refine norm_ (a' := ?_) ?_ ?_
              rotate_left
              ·simp only [putAll, Act.put, zA, zB, zC]
               rfl
              refine one_ (i := 15) (N := some 39) #[true, true, true, true, true, true, true, true, true, true, true, true, true, true, true, true, false, false, true, false] rfl rfl (one_of HT_.out (by kernel_rfl)) (by decide) (fun K hK => ?_)
              refine Kd.R_lit_step k53 _ 53 ?hg (N := 39) ?hd (xs := ([(⟨a2_0, a2_1, a2_2⟩ : S53)] : List (S53))) (inner := [.int .i64 a2_0, .int .i64 a2_1, .string a2_2]) (ok := fun _ => True) (okp := fun _ => True) ?hr ?hp (fun _ hk => hk) trivial (Below.refl _ _) (Nat.le_refl _) (by simp) ?_; (case hd => rfl); (case hg => rfl); (case hr => first | (go_simp; done) | (go_simp; rfl)); (case hp => exact (Reps.c3 (show Kd.M k53 _ _ _ (⟨a2_0, a2_1, a2_2⟩ : S53) [.int .i64 a2_0, .int .i64 a2_1, .string a2_2] from (k53_mkM _ _ _ (⟨a2_0, a2_1, a2_2⟩ : S53) )) (Reps.none _ _)))
              intro v188 w35 ho36 hb hg_ hnew_
              clear hg_ hnew_
              (first | rw [← Ny187.out] at ho36 | (simp only [Int.reduceToNat] at ho36; rw [← Ny187.out] at ho36))
              have n0_ := Aside0.mk (Kd.R_elder' (rk HO186) (Kd.R_base ho36) hb)
              have n1_ := Aside0.mk (Kd.R_lower (Kd.R_newB (Kd.R_new' ho36 (Kd.R_lt (rk HO186))) (g := gb172) (o := .cells #[.int .i64 a2_0, .int .i64 a2_1, .string a2_2] 53 (0, 0)) (bk BK172)) (below_size (bt HB)))
              have n2_ := bb BK171 hb
              have n3_ := bb BK172 hb
              have n4_ := bb BK173 hb
              have n5_ := bb BK193 hb
              have n6_ := Aside0.mk (below_step (bt HB) hb)
              clear HO186 BK171 BK172 BK173 BK193 HB
              revert n0_ n1_ n2_ n3_ n4_ n5_ n6_
              intro HO186 HO189 BK171 BK172 BK173 BK193 HB
              clear hb ho36
              refine hK.out _ _ ⟨bc BK171 0, bc BK171 1, bc BK171 2, bc BK172 0, bc BK172 1, bc BK172 2⟩ (fun hHeld => ?_)
              clear hK K
              refine norm_ (a' := ?_) ?_ ?_
              rotate_left
              ·show Act.put _ (some 39) _ = _
               simp only [Act.put, zA, zB, zC, i64_w, i32_w]
               rfl
              exact norm_ (by first | (simp only [putAll, Act.put, zA, zB, zC]; done) | (simp only [putAll, Act.put, zA, zB, zC]; rfl)) (hJ4_13_15_18 (v178, v185, v188, gb193) _ ⟨hHeld, (by (with_reducible repeat (first | apply Kd.R_alloc | apply Kd.R_drewN | apply Kd.R_drew)); exact Kd.R_mono HO186.out (fun _ hk => ⟨hk.2, hk.1⟩)), (by (with_reducible repeat (first | apply Kd.R_alloc | apply Kd.R_drewN | apply Kd.R_drew)); exact Kd.R_mono HO189.out (fun _ hk => ⟨hk.1.2, hk.2⟩)), (bk BK171), (bk BK172), (bk BK173), (bk BK193), GW193.out, GE193.out, NB171_193.out, NB193_171.out, NB172_193.out, NB193_172.out, NB173_193.out, NB193_173.out, (bt HB)⟩)
            ·skip
             rintro ⟨v178, v185, v188⟩ w35 ⟨hS_, h0_, h1_, h2_, h3_, h4_, h5_⟩
             have n0_ : Aside0 (Kd.R k53 53 w35 w.heap.size (fun k_ => some k_ ≠ (v188 : Value).ownBlock ∧ k_ ≠ gb172) v185 y184) := ⟨h0_⟩
             have n1_ : Aside0 (Kd.R k53 53 w35 w.heap.size (fun k_ => some k_ ≠ (v185 : Value).ownBlock ∧ k_ ≠ gb172) v188 y187) := ⟨h1_⟩
             have n2_ : Aside0 (w35.heap[gb171]? = some (.cells #[.int .i64 a0_0, .int .i64 a0_1, .slice A0_2 l0_2.length c0_2] 40 (0, 0))) := ⟨h2_⟩
             have n3_ : Aside0 (w35.heap[gb172]? = some (.cells #[.int .i64 a2_0, .int .i64 a2_1, .string a2_2] 53 (0, 0))) := ⟨h3_⟩
             have n4_ : Aside0 (w35.heap[gb173]? = some (.cells #[.int .i64 0, .int .i64 0, .slice none 0 0] 40 (0, 0))) := ⟨h4_⟩
             have n5_ : Aside0 (Below w.heap.size w w35) := ⟨h5_⟩
             clear BK171
             clear BK172
             clear BK173
             clear HB
             clear h0_ h1_ h2_ h3_ h4_ h5_
             have HO186 := n0_
             have HO189 := n1_
             have BK171 := n2_
             have BK172 := n3_
             have BK173 := n4_
             have HB := n5_
             clear n0_ n1_ n2_ n3_ n4_ n5_
             have hHeld : w35.cell? ⟨gb171, 0, none⟩ = some (.int .i64 a0_0) ∧ w35.cell? ⟨gb171, 1, none⟩ = some (.int .i64 a0_1) ∧ w35.cell? ⟨gb171, 2, none⟩ = some (.slice A0_2 l0_2.length c0_2) ∧ w35.cell? ⟨gb172, 0, none⟩ = some (.int .i64 a2_0) ∧ w35.cell? ⟨gb172, 1, none⟩ = some (.int .i64 a2_1) ∧ w35.cell? ⟨gb172, 2, none⟩ = some (.string a2_2) := hS_
             obtain ⟨Ao37, co37, eo37⟩ := Kd.R_slice HO189.out
             (first | subst eo37 | (injection eo37 with f1_ f2_ f3_; have f4_ := f1_.symm; have f5_ := f3_.symm; clear f1_ f2_ f3_; subst f4_; subst f5_))
             refine norm_ (a' := ?_) ?_ ?_
             rotate_left
             ·simp only [putAll, Act.put, zA, zB, zC]
              rfl
             refine two_ (i := 16) (j := 18) (Ni := some 40) (Nj := some 8) #[true, true, true, true, true, true, true, true, true, true, true, true, true, true, true, true, true, false, false, false] #[true, true, true, true, true, true, true, true, true, true, true, true, true, true, true, true, false, false, true, false] rfl rfl rfl rfl (two_of HT_.out (by kernel_rfl)) (by decide) (by decide) (fun K hK => ?_) (fun K hK => ?_)
             ·skip
              refine Kd.R_append_rows_step k53 (w0 := w) w.heap.size (by rfl) (.tmp 37) (.tmp 39) 38 53 (.agg #[(.int .i64 0), (.int .i64 0), (.string ⟨#[]⟩)]) 32 rfl Try.underlying38 info53 rfl (by decide) (by omega) v185 y184 y187 _ _ _ (fun k_ => some k_ ≠ (.slice Ao37 y187.length co37 : Value).ownBlock ∧ k_ ≠ gb172) (fun _ => False) rfl rfl ?aO ?aR (fun _ _ h => h) (fun _ h => h.elim) ?aF ?aB ?aS ?aL ?_
              (case aR => repeat (first | exact (Kd.R_reads' HO189.out).2.2 | (with_reducible refine Kd.C_alloc ?_ _) | (with_reducible refine Kd.C_drewN ?_ _) | (with_reducible refine Kd.C_drew ?_)))
              (case aB => exact (bt HB))
              (case aF => exact (fun k_ hk => ⟨Kd.fresh' (Kd.R_lt (rk HO189)) k_ hk, Kd.freshB (g := gb172) (o := .cells #[.int .i64 a2_0, .int .i64 a2_1, .string a2_2] 53 (0, 0)) (bk BK172) k_ hk⟩))
              (case aO => exact (rk HO186))
              (case aS => exact (below_size (bt HB)))
              (case aL => have := LMc25.out; omega)
              intro v191 w36 ho hb hg hat
              rw [← Ny190.out] at ho
              have n0_ := Aside0.mk (blk_grown (g := gb171) (o := .cells #[.int .i64 a0_0, .int .i64 a0_1, .slice A0_2 l0_2.length c0_2] 40 (0, 0)) (bk BK171) hg (Kd.R_ne HO186.out BK171.out (by decide)))
              have n1_ := Aside0.mk (blk_grown (g := gb172) (o := .cells #[.int .i64 a2_0, .int .i64 a2_1, .string a2_2] 53 (0, 0)) (bk BK172) hg (Kd.R_away HO186.out (fun _ hk => hk.2)))
              have n2_ := Aside0.mk (blk_grown (g := gb173) (o := .cells #[.int .i64 0, .int .i64 0, .slice none 0 0] 40 (0, 0)) (bk BK173) hg (Kd.R_ne HO186.out BK173.out (by decide)))
              have n3_ := Aside0.mk (Kd.R_after (ok := (fun k_ => k_ ≠ gb172)) (by (with_reducible repeat (first | apply Kd.R_alloc | apply Kd.R_drewN | apply Kd.R_drew)); exact Kd.R_mono HO189.out (fun _ hk => ⟨hk.2, hk.1⟩)) hg hat)
              have n4_ := Aside0.mk (hb)
              have n5_ := Aside0.mk (ho)
              clear BK171 BK172 BK173 HO189 HB HO186
              revert n0_ n1_ n2_ n3_ n4_ n5_
              intro BK171 BK172 BK173 HO189 HB HO192
              clear ho hb hg hat
              obtain ⟨Ao38, co38, eo38⟩ := Kd.R_slice HO192.out
              (first | subst eo38 | (injection eo38 with f1_ f2_ f3_; have f4_ := f1_.symm; have f5_ := f3_.symm; clear f1_ f2_ f3_; subst f4_; subst f5_))
              refine hK.out _ _ ⟨bc BK171 0, bc BK171 1, bc BK171 2, bc BK172 0, bc BK172 1, bc BK172 2⟩ (fun hHeld => ?_)
              clear hK K
              refine norm_ (a' := ?_) ?_ ?_
              rotate_left
              ·show Act.put _ (some 40) _ = _
               simp only [Act.put, zA, zB, zC, i64_w, i32_w]
               rfl
              refine pure_ (i := 17) (N := some 41) (v := ?_) (a' := ?_) #[true, true, true, true, true, true, true, true, true, true, true, true, true, true, true, true, true, true, false, false] rfl rfl (any_of HT_.out (by kernel_rfl)) (fun _ _ _ h => h) (Or.inl ⟨by rfl, ?_⟩) ?_ ?_
              rotate_left
              ·intro w'
               go_simp
               with_reducible rfl
              rotate_left
              ·simp only [Act.put, zA, zB, zC, i64_w, i32_w]
               rfl
              exact norm_ (by first | (simp only [putAll, Act.put, zA, zB, zC]; done) | (simp only [putAll, Act.put, zA, zB, zC]; rfl)) (hJ4_13_15_16 (v178, v185, .slice Ao37 y187.length co37, .slice Ao38 y190.length co38) _ ⟨hHeld, (by (with_reducible repeat (first | apply Kd.R_alloc | apply Kd.R_drewN | apply Kd.R_drew)); exact Kd.R_mono HO189.out (fun _ hk => ⟨hk.2, hk.1⟩)), (rk HO192), (bk BK171), (bk BK172), (bk BK173), (bt HB)⟩)
             ·skip
              refine box_step ?hg (N := 8) ?hd (cs := #[.int .i64 0, .int .i64 0, .slice none 0 0]) (t := 40) ?hr ?_; (case hd => rfl); (case hg => rfl); (case hr => first | (go_simp; done) | (go_simp; rfl))
              intro gb193 hg w36 hbox hb
              have n0_ := rb HO186 hb
              have n1_ := rb HO189 hb
              have n2_ := bb BK171 hb
              have n3_ := bb BK172 hb
              have n4_ := bb BK173 hb
              have n5_ := Aside0.mk (below_step (bt HB) hb)
              have n6_ := Aside0.mk (hbox)
              have n7_ := Aside0.mk ((by rw [hg]; exact (below_size (bt HB)) : w.heap.size ≤ gb193))
              have n8_ := Aside0.mk ((by rw [hg]; exact (below_size (bt HB)) : w.heap.size ≤ gb193))
              have n9_ := Aside0.mk ((by rw [hg]; exact Nat.ne_of_lt (blk_lt (bk BK171)) : gb171 ≠ gb193))
              have n10_ := Aside0.mk ((by rw [hg]; exact Nat.ne_of_gt (blk_lt (bk BK171)) : gb193 ≠ gb171))
              have n11_ := Aside0.mk ((by rw [hg]; exact Nat.ne_of_lt (blk_lt (bk BK172)) : gb172 ≠ gb193))
              have n12_ := Aside0.mk ((by rw [hg]; exact Nat.ne_of_gt (blk_lt (bk BK172)) : gb193 ≠ gb172))
              have n13_ := Aside0.mk ((by rw [hg]; exact Nat.ne_of_lt (blk_lt (bk BK173)) : gb173 ≠ gb193))
              have n14_ := Aside0.mk ((by rw [hg]; exact Nat.ne_of_gt (blk_lt (bk BK173)) : gb193 ≠ gb173))
              clear HO186 HO189 BK171 BK172 BK173 HB
              revert n0_ n1_ n2_ n3_ n4_ n5_ n6_ n7_ n8_ n9_ n10_ n11_ n12_ n13_ n14_
              intro HO186 HO189 BK171 BK172 BK173 HB BK193 GW193 GE193 NB171_193 NB193_171 NB172_193 NB193_172 NB173_193 NB193_173
              clear hb hbox hg
              refine hK.out _ _ ⟨bc BK171 0, bc BK171 1, bc BK171 2, bc BK172 0, bc BK172 1, bc BK172 2⟩ (fun hHeld => ?_)
              clear hK K
              refine norm_ (a' := ?_) ?_ ?_
              rotate_left
              ·show Act.put _ (some 8) _ = _
               simp only [Act.put, zA, zB, zC, i64_w, i32_w]
               rfl
              exact norm_ (by first | (simp only [putAll, Act.put, zA, zB, zC]; done) | (simp only [putAll, Act.put, zA, zB, zC]; rfl)) (hJ4_13_15_18 (v178, v185, .slice Ao37 y187.length co37, gb193) _ ⟨hHeld, (rk HO186), (rk HO189), (bk BK171), (bk BK172), (bk BK173), (bk BK193), GW193.out, GE193.out, NB171_193.out, NB193_171.out, NB172_193.out, NB193_172.out, NB173_193.out, NB193_173.out, (bt HB)⟩)
           ·skip
            rintro ⟨v178, v185, v188, gb193⟩ w36 ⟨hS_, h0_, h1_, h2_, h3_, h4_, h5_, h6_, h7_, h8_, h9_, h10_, h11_, h12_, h13_, h14_⟩
            have n0_ : Aside0 (Kd.R k53 53 w36 w.heap.size (fun k_ => some k_ ≠ (v188 : Value).ownBlock ∧ k_ ≠ gb172) v185 y184) := ⟨h0_⟩
            have n1_ : Aside0 (Kd.R k53 53 w36 w.heap.size (fun k_ => some k_ ≠ (v185 : Value).ownBlock ∧ k_ ≠ gb172) v188 y187) := ⟨h1_⟩
            have n2_ : Aside0 (w36.heap[gb171]? = some (.cells #[.int .i64 a0_0, .int .i64 a0_1, .slice A0_2 l0_2.length c0_2] 40 (0, 0))) := ⟨h2_⟩
            have n3_ : Aside0 (w36.heap[gb172]? = some (.cells #[.int .i64 a2_0, .int .i64 a2_1, .string a2_2] 53 (0, 0))) := ⟨h3_⟩
            have n4_ : Aside0 (w36.heap[gb173]? = some (.cells #[.int .i64 0, .int .i64 0, .slice none 0 0] 40 (0, 0))) := ⟨h4_⟩
            have n5_ : Aside0 (w36.heap[gb193]? = some (.cells #[.int .i64 0, .int .i64 0, .slice none 0 0] 40 (0, 0))) := ⟨h5_⟩
            have n6_ : Aside0 (w.heap.size ≤ gb193) := ⟨h6_⟩
            have n7_ : Aside0 (w.heap.size ≤ gb193) := ⟨h7_⟩
            have n8_ : Aside0 (gb171 ≠ gb193) := ⟨h8_⟩
            have n9_ : Aside0 (gb193 ≠ gb171) := ⟨h9_⟩
            have n10_ : Aside0 (gb172 ≠ gb193) := ⟨h10_⟩
            have n11_ : Aside0 (gb193 ≠ gb172) := ⟨h11_⟩
            have n12_ : Aside0 (gb173 ≠ gb193) := ⟨h12_⟩
            have n13_ : Aside0 (gb193 ≠ gb173) := ⟨h13_⟩
            have n14_ : Aside0 (Below w.heap.size w w36) := ⟨h14_⟩
            clear BK171
            clear BK172
            clear BK173
            clear HB
            clear h0_ h1_ h2_ h3_ h4_ h5_ h6_ h7_ h8_ h9_ h10_ h11_ h12_ h13_ h14_
            have HO186 := n0_
            have HO189 := n1_
            have BK171 := n2_
            have BK172 := n3_
            have BK173 := n4_
            have BK193 := n5_
            have GW193 := n6_
            have GE193 := n7_
            have NB171_193 := n8_
            have NB193_171 := n9_
            have NB172_193 := n10_
            have NB193_172 := n11_
            have NB173_193 := n12_
            have NB193_173 := n13_
            have HB := n14_
            clear n0_ n1_ n2_ n3_ n4_ n5_ n6_ n7_ n8_ n9_ n10_ n11_ n12_ n13_ n14_
            have hHeld : w36.cell? ⟨gb171, 0, none⟩ = some (.int .i64 a0_0) ∧ w36.cell? ⟨gb171, 1, none⟩ = some (.int .i64 a0_1) ∧ w36.cell? ⟨gb171, 2, none⟩ = some (.slice A0_2 l0_2.length c0_2) ∧ w36.cell? ⟨gb172, 0, none⟩ = some (.int .i64 a2_0) ∧ w36.cell? ⟨gb172, 1, none⟩ = some (.int .i64 a2_1) ∧ w36.cell? ⟨gb172, 2, none⟩ = some (.string a2_2) := hS_
            obtain ⟨Ao38, co38, eo38⟩ := Kd.R_slice HO189.out
            (first | subst eo38 | (injection eo38 with f1_ f2_ f3_; have f4_ := f1_.symm; have f5_ := f3_.symm; clear f1_ f2_ f3_; subst f4_; subst f5_))
            refine norm_ (a' := ?_) ?_ ?_
            rotate_left
            ·simp only [putAll, Act.put, zA, zB, zC]
             rfl
            refine one_ (i := 16) (N := some 40) #[true, true, true, true, true, true, true, true, true, true, true, true, true, true, true, true, true, false, true, false] rfl rfl (one_of HT_.out (by kernel_rfl)) (by decide) (fun K hK => ?_)
            refine Kd.R_append_rows_step k53 (w0 := w) w.heap.size (by rfl) (.tmp 37) (.tmp 39) 38 53 (.agg #[(.int .i64 0), (.int .i64 0), (.string ⟨#[]⟩)]) 32 rfl Try.underlying38 info53 rfl (by decide) (by omega) v185 y184 y187 _ _ _ (fun k_ => some k_ ≠ (.slice Ao38 y187.length co38 : Value).ownBlock ∧ k_ ≠ gb172) (fun _ => False) rfl rfl ?aO ?aR (fun _ _ h => h) (fun _ h => h.elim) ?aF ?aB ?aS ?aL ?_
            (case aR => repeat (first | exact (Kd.R_reads' HO189.out).2.2 | (with_reducible refine Kd.C_alloc ?_ _) | (with_reducible refine Kd.C_drewN ?_ _) | (with_reducible refine Kd.C_drew ?_)))
            (case aB => exact (bt HB))
            (case aF => exact (fun k_ hk => ⟨Kd.fresh' (Kd.R_lt (rk HO189)) k_ hk, Kd.freshB (g := gb172) (o := .cells #[.int .i64 a2_0, .int .i64 a2_1, .string a2_2] 53 (0, 0)) (bk BK172) k_ hk⟩))
            (case aO => exact (rk HO186))
            (case aS => exact (below_size (bt HB)))
            (case aL => have := LMc25.out; omega)
            intro v191 w37 ho hb hg hat
            rw [← Ny190.out] at ho
            have n0_ := Aside0.mk (blk_grown (g := gb171) (o := .cells #[.int .i64 a0_0, .int .i64 a0_1, .slice A0_2 l0_2.length c0_2] 40 (0, 0)) (bk BK171) hg (Kd.R_ne HO186.out BK171.out (by decide)))
            have n1_ := Aside0.mk (blk_grown (g := gb172) (o := .cells #[.int .i64 a2_0, .int .i64 a2_1, .string a2_2] 53 (0, 0)) (bk BK172) hg (Kd.R_away HO186.out (fun _ hk => hk.2)))
            have n2_ := Aside0.mk (blk_grown (g := gb173) (o := .cells #[.int .i64 0, .int .i64 0, .slice none 0 0] 40 (0, 0)) (bk BK173) hg (Kd.R_ne HO186.out BK173.out (by decide)))
            have n3_ := Aside0.mk (Kd.R_after (ok := (fun k_ => k_ ≠ gb172)) (by (with_reducible repeat (first | apply Kd.R_alloc | apply Kd.R_drewN | apply Kd.R_drew)); exact Kd.R_mono HO189.out (fun _ hk => ⟨hk.2, hk.1⟩)) hg hat)
            have n4_ := Aside0.mk (blk_grown (g := gb193) (o := .cells #[.int .i64 0, .int .i64 0, .slice none 0 0] 40 (0, 0)) (bk BK193) hg (Kd.R_ne HO186.out BK193.out (by decide)))
            have n5_ := Aside0.mk (hb)
            have n6_ := Aside0.mk (ho)
            clear BK171 BK172 BK173 HO189 BK193 HB HO186
            revert n0_ n1_ n2_ n3_ n4_ n5_ n6_
            intro BK171 BK172 BK173 HO189 BK193 HB HO192
            clear ho hb hg hat
            obtain ⟨Ao39, co39, eo39⟩ := Kd.R_slice HO192.out
            (first | subst eo39 | (injection eo39 with f1_ f2_ f3_; have f4_ := f1_.symm; have f5_ := f3_.symm; clear f1_ f2_ f3_; subst f4_; subst f5_))
            refine hK.out _ _ ⟨bc BK171 0, bc BK171 1, bc BK171 2, bc BK172 0, bc BK172 1, bc BK172 2⟩ (fun hHeld => ?_)
            clear hK K
            refine norm_ (a' := ?_) ?_ ?_
            rotate_left
            ·show Act.put _ (some 40) _ = _
             simp only [Act.put, zA, zB, zC, i64_w, i32_w]
             rfl
            refine pure_ (i := 17) (N := some 41) (v := ?_) (a' := ?_) #[true, true, true, true, true, true, true, true, true, true, true, true, true, true, true, true, true, true, true, false] rfl rfl (any_of HT_.out (by kernel_rfl)) (fun _ _ _ h => h) (Or.inl ⟨by rfl, ?_⟩) ?_ ?_
            rotate_left
            ·intro w'
             go_simp
             with_reducible rfl
            rotate_left
            ·simp only [Act.put, zA, zB, zC, i64_w, i32_w]
             rfl
            exact norm_ (by first | (simp only [putAll, Act.put, zA, zB, zC]; done) | (simp only [putAll, Act.put, zA, zB, zC]; rfl)) (hJ4_13_15_16_18 (v178, v185, .slice Ao38 y187.length co38, .slice Ao39 y190.length co39, gb193) _ ⟨hHeld, (by (with_reducible repeat (first | apply Kd.R_alloc | apply Kd.R_drewN | apply Kd.R_drew)); exact Kd.R_mono HO189.out (fun _ hk => ⟨hk.2, hk.1⟩)), (rk HO192), (bk BK171), (bk BK172), (bk BK173), (bk BK193), GW193.out, GE193.out, NB171_193.out, NB193_171.out, NB172_193.out, NB193_172.out, NB173_193.out, NB193_173.out, (bt HB)⟩)
          ·skip
           rintro ⟨v178, v185, v188, v191⟩ w38 ⟨hS_, h0_, h1_, h2_, h3_, h4_, h5_⟩
           have n0_ : Aside0 (Kd.R k53 53 w38 w.heap.size (fun k_ => some k_ ≠ (v191 : Value).ownBlock ∧ k_ ≠ gb172) v188 y187) := ⟨h0_⟩
           have n1_ : Aside0 (Kd.R k53 53 w38 w.heap.size (fun k_ => some k_ ≠ (v188 : Value).ownBlock ∧ k_ ≠ gb172) v191 y190) := ⟨h1_⟩
           have n2_ : Aside0 (w38.heap[gb171]? = some (.cells #[.int .i64 a0_0, .int .i64 a0_1, .slice A0_2 l0_2.length c0_2] 40 (0, 0))) := ⟨h2_⟩
           have n3_ : Aside0 (w38.heap[gb172]? = some (.cells #[.int .i64 a2_0, .int .i64 a2_1, .string a2_2] 53 (0, 0))) := ⟨h3_⟩
           have n4_ : Aside0 (w38.heap[gb173]? = some (.cells #[.int .i64 0, .int .i64 0, .slice none 0 0] 40 (0, 0))) := ⟨h4_⟩
           have n5_ : Aside0 (Below w.heap.size w w38) := ⟨h5_⟩
           clear BK171
           clear BK172
           clear BK173
           clear HB
           clear h0_ h1_ h2_ h3_ h4_ h5_
           have HO189 := n0_
           have HO192 := n1_
           have BK171 := n2_
           have BK172 := n3_
           have BK173 := n4_
           have HB := n5_
           clear n0_ n1_ n2_ n3_ n4_ n5_
           have hHeld : w38.cell? ⟨gb171, 0, none⟩ = some (.int .i64 a0_0) ∧ w38.cell? ⟨gb171, 1, none⟩ = some (.int .i64 a0_1) ∧ w38.cell? ⟨gb171, 2, none⟩ = some (.slice A0_2 l0_2.length c0_2) ∧ w38.cell? ⟨gb172, 0, none⟩ = some (.int .i64 a2_0) ∧ w38.cell? ⟨gb172, 1, none⟩ = some (.int .i64 a2_1) ∧ w38.cell? ⟨gb172, 2, none⟩ = some (.string a2_2) := hS_
           obtain ⟨Ao39, co39, eo39⟩ := Kd.R_slice HO192.out
           (first | subst eo39 | (injection eo39 with f1_ f2_ f3_; have f4_ := f1_.symm; have f5_ := f3_.symm; clear f1_ f2_ f3_; subst f4_; subst f5_))
           refine norm_ (a' := ?_) ?_ ?_
           rotate_left
           ·simp only [putAll, Act.put, zA, zB, zC]
            rfl
           refine one_ (i := 18) (N := some 8) #[true, true, true, true, true, true, true, true, true, true, true, true, true, true, true, true, true, true, true, false] rfl rfl (one_of HT_.out (by kernel_rfl)) (by decide) (fun K hK => ?_)
           refine box_step ?hg (N := 8) ?hd (cs := #[.int .i64 0, .int .i64 0, .slice none 0 0]) (t := 40) ?hr ?_; (case hd => rfl); (case hg => rfl); (case hr => first | (go_simp; done) | (go_simp; rfl))
           intro gb193 hg w40 hbox hb
           have n0_ := rb HO189 hb
           have n1_ := rb HO192 hb
           have n2_ := bb BK171 hb
           have n3_ := bb BK172 hb
           have n4_ := bb BK173 hb
           have n5_ := Aside0.mk (below_step (bt HB) hb)
           have n6_ := Aside0.mk (hbox)
           have n7_ := Aside0.mk ((by rw [hg]; exact (below_size (bt HB)) : w.heap.size ≤ gb193))
           have n8_ := Aside0.mk ((by rw [hg]; exact (below_size (bt HB)) : w.heap.size ≤ gb193))
           have n9_ := Aside0.mk ((by rw [hg]; exact Nat.ne_of_lt (blk_lt (bk BK171)) : gb171 ≠ gb193))
           have n10_ := Aside0.mk ((by rw [hg]; exact Nat.ne_of_gt (blk_lt (bk BK171)) : gb193 ≠ gb171))
           have n11_ := Aside0.mk ((by rw [hg]; exact Nat.ne_of_lt (blk_lt (bk BK172)) : gb172 ≠ gb193))
           have n12_ := Aside0.mk ((by rw [hg]; exact Nat.ne_of_gt (blk_lt (bk BK172)) : gb193 ≠ gb172))
           have n13_ := Aside0.mk ((by rw [hg]; exact Nat.ne_of_lt (blk_lt (bk BK173)) : gb173 ≠ gb193))
           have n14_ := Aside0.mk ((by rw [hg]; exact Nat.ne_of_gt (blk_lt (bk BK173)) : gb193 ≠ gb173))
           clear HO189 HO192 BK171 BK172 BK173 HB
           revert n0_ n1_ n2_ n3_ n4_ n5_ n6_ n7_ n8_ n9_ n10_ n11_ n12_ n13_ n14_
           intro HO189 HO192 BK171 BK172 BK173 HB BK193 GW193 GE193 NB171_193 NB193_171 NB172_193 NB193_172 NB173_193 NB193_173
           clear hb hbox hg
           refine hK.out _ _ ⟨bc BK171 0, bc BK171 1, bc BK171 2, bc BK172 0, bc BK172 1, bc BK172 2⟩ (fun hHeld => ?_)
           clear hK K
           refine norm_ (a' := ?_) ?_ ?_
           rotate_left
           ·show Act.put _ (some 8) _ = _
            simp only [Act.put, zA, zB, zC, i64_w, i32_w]
            rfl
           exact norm_ (by first | (simp only [putAll, Act.put, zA, zB, zC]; done) | (simp only [putAll, Act.put, zA, zB, zC]; rfl)) (hJ4_13_15_16_18 (v178, v185, v188, .slice Ao39 y190.length co39, gb193) _ ⟨hHeld, (rk HO189), (rk HO192), (bk BK171), (bk BK172), (bk BK173), (bk BK193), GW193.out, GE193.out, NB171_193.out, NB193_171.out, NB172_193.out, NB193_172.out, NB173_193.out, NB193_173.out, (bt HB)⟩)
         rintro ⟨v178, v185, v188, v191, gb193⟩ w39 ⟨hS_, h0_, h1_, h2_, h3_, h4_, h5_, h6_, h7_, h8_, h9_, h10_, h11_, h12_, h13_, h14_⟩
         have n0_ : Aside0 (Kd.R k53 53 w39 w.heap.size (fun k_ => some k_ ≠ (v191 : Value).ownBlock ∧ k_ ≠ gb172) v188 y187) := ⟨h0_⟩
         have n1_ : Aside0 (Kd.R k53 53 w39 w.heap.size (fun k_ => some k_ ≠ (v188 : Value).ownBlock ∧ k_ ≠ gb172) v191 y190) := ⟨h1_⟩
         have n2_ : Aside0 (w39.heap[gb171]? = some (.cells #[.int .i64 a0_0, .int .i64 a0_1, .slice A0_2 l0_2.length c0_2] 40 (0, 0))) := ⟨h2_⟩
         have n3_ : Aside0 (w39.heap[gb172]? = some (.cells #[.int .i64 a2_0, .int .i64 a2_1, .string a2_2] 53 (0, 0))) := ⟨h3_⟩
         have n4_ : Aside0 (w39.heap[gb173]? = some (.cells #[.int .i64 0, .int .i64 0, .slice none 0 0] 40 (0, 0))) := ⟨h4_⟩
         have n5_ : Aside0 (w39.heap[gb193]? = some (.cells #[.int .i64 0, .int .i64 0, .slice none 0 0] 40 (0, 0))) := ⟨h5_⟩
         have n6_ : Aside0 (w.heap.size ≤ gb193) := ⟨h6_⟩
         have n7_ : Aside0 (w.heap.size ≤ gb193) := ⟨h7_⟩
         have n8_ : Aside0 (gb171 ≠ gb193) := ⟨h8_⟩
         have n9_ : Aside0 (gb193 ≠ gb171) := ⟨h9_⟩
         have n10_ : Aside0 (gb172 ≠ gb193) := ⟨h10_⟩
         have n11_ : Aside0 (gb193 ≠ gb172) := ⟨h11_⟩
         have n12_ : Aside0 (gb173 ≠ gb193) := ⟨h12_⟩
         have n13_ : Aside0 (gb193 ≠ gb173) := ⟨h13_⟩
         have n14_ : Aside0 (Below w.heap.size w w39) := ⟨h14_⟩
         clear BK171
         clear BK172
         clear BK173
         clear HB
         clear h0_ h1_ h2_ h3_ h4_ h5_ h6_ h7_ h8_ h9_ h10_ h11_ h12_ h13_ h14_
         have HO189 := n0_
         have HO192 := n1_
         have BK171 := n2_
         have BK172 := n3_
         have BK173 := n4_
         have BK193 := n5_
         have GW193 := n6_
         have GE193 := n7_
         have NB171_193 := n8_
         have NB193_171 := n9_
         have NB172_193 := n10_
         have NB193_172 := n11_
         have NB173_193 := n12_
         have NB193_173 := n13_
         have HB := n14_
         clear n0_ n1_ n2_ n3_ n4_ n5_ n6_ n7_ n8_ n9_ n10_ n11_ n12_ n13_ n14_
         have hHeld : w39.cell? ⟨gb171, 0, none⟩ = some (.int .i64 a0_0) ∧ w39.cell? ⟨gb171, 1, none⟩ = some (.int .i64 a0_1) ∧ w39.cell? ⟨gb171, 2, none⟩ = some (.slice A0_2 l0_2.length c0_2) ∧ w39.cell? ⟨gb172, 0, none⟩ = some (.int .i64 a2_0) ∧ w39.cell? ⟨gb172, 1, none⟩ = some (.int .i64 a2_1) ∧ w39.cell? ⟨gb172, 2, none⟩ = some (.string a2_2) := hS_
         obtain ⟨Ao40, co40, eo40⟩ := Kd.R_slice HO192.out
         (first | subst eo40 | (injection eo40 with f1_ f2_ f3_; have f4_ := f1_.symm; have f5_ := f3_.symm; clear f1_ f2_ f3_; subst f4_; subst f5_))
         refine norm_ (a' := ?_) ?_ ?_
         rotate_left
         ·simp only [putAll, Act.put, zA, zB, zC]
          rfl
         refine one_ (i := 19) (N := none) #[true, true, true, true, true, true, true, true, true, true, true, true, true, true, true, true, true, true, true, true] rfl rfl (one_of HT_.out (by kernel_rfl)) (by decide) (fun K hK => ?_)
         have hs41 : w39.cell? ⟨gb193, 0, none⟩ = some (.int .i64 0) := bc BK193 0
         have hfs41 := blk_frozen BK193.out 0
         have hns41_0 := NB171_193.out
         have hns41_1 := NB172_193.out
         have hns41_2 := NB173_193.out
         have hms41_0 := NB193_171.out
         have hms41_1 := NB193_172.out
         have hms41_2 := NB193_173.out
         have hs42 : w39.cell? ⟨gb193, 1, none⟩ = some (.int .i64 0) := bc BK193 1
         have hfs42 := blk_frozen BK193.out 1
         have hns42_0 := NB171_193.out
         have hns42_1 := NB172_193.out
         have hns42_2 := NB173_193.out
         have hms42_0 := NB193_171.out
         have hms42_1 := NB193_172.out
         have hms42_2 := NB193_173.out
         have hs43 : w39.cell? ⟨gb193, 2, none⟩ = some (.slice none 0 0) := bc BK193 2
         have hfs43 := blk_frozen BK193.out 2
         have hns43_0 := NB171_193.out
         have hns43_1 := NB172_193.out
         have hns43_2 := NB173_193.out
         have hms43_0 := NB193_171.out
         have hms43_1 := NB193_172.out
         have hms43_2 := NB193_173.out
         refine skip_ (w1 := ?_) (by rfl) rfl ?_ ?_
         rotate_left
         ·go_simp
          rfl
         refine hK.out _ _ ⟨((cell_far (p := ⟨gb193, _, none⟩) NB171_193.out _).trans (((cell_far (p := ⟨gb193, _, none⟩) NB171_193.out _).trans (((cell_far (p := ⟨gb193, _, none⟩) NB171_193.out _).trans (hHeld.1)))))), ((cell_far (p := ⟨gb193, _, none⟩) NB171_193.out _).trans (((cell_far (p := ⟨gb193, _, none⟩) NB171_193.out _).trans (((cell_far (p := ⟨gb193, _, none⟩) NB171_193.out _).trans (hHeld.2.1)))))), ((cell_far (p := ⟨gb193, _, none⟩) NB171_193.out _).trans (((cell_far (p := ⟨gb193, _, none⟩) NB171_193.out _).trans (((cell_far (p := ⟨gb193, _, none⟩) NB171_193.out _).trans (hHeld.2.2.1)))))), ((cell_far (p := ⟨gb193, _, none⟩) NB172_193.out _).trans (((cell_far (p := ⟨gb193, _, none⟩) NB172_193.out _).trans (((cell_far (p := ⟨gb193, _, none⟩) NB172_193.out _).trans (hHeld.2.2.2.1)))))), ((cell_far (p := ⟨gb193, _, none⟩) NB172_193.out _).trans (((cell_far (p := ⟨gb193, _, none⟩) NB172_193.out _).trans (((cell_far (p := ⟨gb193, _, none⟩) NB172_193.out _).trans (hHeld.2.2.2.2.1)))))), ((cell_far (p := ⟨gb193, _, none⟩) NB172_193.out _).trans (((cell_far (p := ⟨gb193, _, none⟩) NB172_193.out _).trans (((cell_far (p := ⟨gb193, _, none⟩) NB172_193.out _).trans (hHeld.2.2.2.2.2))))))⟩ (fun hHeld => ?_)
         clear hK K
         refine done_ (done_of HT_.out (by kernel_rfl)) ?_
         have hnb44 := NB193_171.out
         have hnc44 := NB171_193.out
         have hnb45 := NB193_172.out
         have hnc45 := NB172_193.out
         have hnb46 := NB193_173.out
         have hnc46 := NB173_193.out
         have hcz47_0 : w39.cell? ⟨gb193, 0, none⟩ = some (.int .i64 0) := bc BK193 0
         have hcz47_1 : w39.cell? ⟨gb193, 1, none⟩ = some (.int .i64 0) := bc BK193 1
         have hcz47_2 : w39.cell? ⟨gb193, 2, none⟩ = some (.slice none 0 0) := bc BK193 2
         have hfz47_0 := blk_frozen BK193.out 0
         have hfz47_1 := blk_frozen BK193.out 1
         have hfz47_2 := blk_frozen BK193.out 2
        ·try go_wp2_with (first | ((with_reducible refine gate_callee (f := 18) rfl ?_); refine goesL_ (some 43) rfl rfl Try.func18 (by kernel_rfl) rfl #[.agg #[.int .i64 a0_0, .int .i64 a0_1, .slice Ao40 y190.length co40]] rfl (by (try simp only [List.map_toArray, List.map_cons, List.map_nil]); first | done | rfl | (simp only [List.length_drop, List.length_take]; rfl)) ?_; (with_reducible refine (spec_LogOk.calls kj3 a0_0 a0_1 _ _ y190 false _ ?side1 ?side2 A26.out).mono ?_); (case side1 => refine (Kd.R_reads' (e := 53) (base := w.heap.size) (ok := fun k_ => (some k_ ≠ (v188 : Value).ownBlock ∧ k_ ≠ gb172)) (n := y190.length) (c := co40) ?_).2.2; exact (by (with_reducible repeat (first | apply Kd.R_alloc | apply Kd.R_drewN | apply Kd.R_drew)); exact (Kd.R_mono (Kd.R_far (p := ⟨gb193, 2, none⟩) (Kd.R_far (p := ⟨gb193, 1, none⟩) (Kd.R_far (p := ⟨gb193, 0, none⟩) (Kd.R_types HO192.out BK193.out (by decide)) (fun _ hk => hk.2) (.int .i64 a0_0)) (fun _ hk => hk.2) (.int .i64 a0_1)) (fun _ hk => hk.2) (.slice Ao40 y190.length co40)) (fun _ h_ => h_.1)))); (case side2 => exact (Kd.R_reads' HO192.out).2.1); rintro e w73 ⟨rfl, hb⟩; refine ⟨_, rfl, ?_⟩; have n0_ := Aside0.mk (Kd.R_below (by (with_reducible repeat (first | apply Kd.R_alloc | apply Kd.R_drewN | apply Kd.R_drew)); exact (Kd.R_mono (Kd.R_far (p := ⟨gb193, 2, none⟩) (Kd.R_far (p := ⟨gb193, 1, none⟩) (Kd.R_far (p := ⟨gb193, 0, none⟩) (Kd.R_types HO189.out BK193.out (by decide)) (fun _ hk => hk.2) (.int .i64 a0_0)) (fun _ hk => hk.2) (.int .i64 a0_1)) (fun _ hk => hk.2) (.slice Ao40 y190.length co40)) (fun _ h_ => h_.1))) hb); have n1_ := Aside0.mk (Kd.R_below (by (with_reducible repeat (first | apply Kd.R_alloc | apply Kd.R_drewN | apply Kd.R_drew)); exact (Kd.R_mono (Kd.R_far (p := ⟨gb193, 2, none⟩) (Kd.R_far (p := ⟨gb193, 1, none⟩) (Kd.R_far (p := ⟨gb193, 0, none⟩) (Kd.R_types HO192.out BK193.out (by decide)) (fun _ hk => hk.2) (.int .i64 a0_0)) (fun _ hk => hk.2) (.int .i64 a0_1)) (fun _ hk => hk.2) (.slice Ao40 y190.length co40)) (fun _ h_ => h_.1))) hb); have n2_ := Aside0.mk (blk_below (g := gb171) (o := .cells #[.int .i64 a0_0, .int .i64 a0_1, .slice A0_2 l0_2.length c0_2] 40 (0, 0)) (by refine bk_ ?_; refine blk_far ?_ NB171_193.out _; refine bk_ ?_; refine blk_far ?_ NB171_193.out _; refine bk_ ?_; refine blk_far ?_ NB171_193.out _; refine bk_ ?_; exact BK171.out) hb); have n3_ := Aside0.mk (blk_below (g := gb172) (o := .cells #[.int .i64 a2_0, .int .i64 a2_1, .string a2_2] 53 (0, 0)) (by refine bk_ ?_; refine blk_far ?_ NB172_193.out _; refine bk_ ?_; refine blk_far ?_ NB172_193.out _; refine bk_ ?_; refine blk_far ?_ NB172_193.out _; refine bk_ ?_; exact BK172.out) hb); have n4_ := Aside0.mk (blk_below (g := gb173) (o := .cells #[.int .i64 0, .int .i64 0, .slice none 0 0] 40 (0, 0)) (by refine bk_ ?_; refine blk_far ?_ NB173_193.out _; refine bk_ ?_; refine blk_far ?_ NB173_193.out _; refine bk_ ?_; refine blk_far ?_ NB173_193.out _; refine bk_ ?_; exact BK173.out) hb); have n5_ := Aside0.mk (blk_below (g := gb193) (o := .cells #[.int .i64 a0_0, .int .i64 a0_1, .slice Ao40 y190.length co40] 40 (0, 0)) (by refine bk_ ?_; refine blk_put (cs := #[.int .i64 a0_0, .int .i64 a0_1, .slice none 0 0]) ?_ 2 _ rfl; refine bk_ ?_; refine blk_put (cs := #[.int .i64 a0_0, .int .i64 0, .slice none 0 0]) ?_ 1 _ rfl; refine bk_ ?_; refine blk_put (cs := #[.int .i64 0, .int .i64 0, .slice none 0 0]) ?_ 0 _ rfl; refine bk_ ?_; exact BK193.out) hb); have n6_ := Aside0.mk (below_step (bt HB) hb); clear HO189 HO192 BK171 BK172 BK173 BK193 HB; revert n0_ n1_ n2_ n3_ n4_ n5_ n6_; intro HO189 HO192 BK171 BK172 BK173 BK193 HB; (try clear hb); (try clear hb2); (try clear hk); (try clear hi); have hnb74 := NB173_171.out; have hnc74 := NB171_173.out; have hnb75 := NB173_172.out; have hnc75 := NB172_173.out; have hcz76_0 : w73.cell? ⟨gb173, 0, none⟩ = some (.int .i64 0) := bc BK173 0; have hcz76_1 : w73.cell? ⟨gb173, 1, none⟩ = some (.int .i64 0) := bc BK173 1; have hcz76_2 : w73.cell? ⟨gb173, 2, none⟩ = some (.slice none 0 0) := bc BK173 2; have hfz76_0 := blk_frozen BK173.out 0; have hfz76_1 := blk_frozen BK173.out 1; have hfz76_2 := blk_frozen BK173.out 2))
         refine bodyPost_ret (results_ct rfl _ _ gb173 40 #[.int .i64 0, .int .i64 0, .slice none 0 0] (0, 0) _ rfl (by (with_reducible repeat (first | refine blk_drewN ?_ _ | refine blk_drew ?_ | refine blk_alloc ?_ _)); refine blk_put (cs := #[.int .i64 0, .int .i64 0, .slice none 0 0]) ?_ 2 _ rfl; (with_reducible repeat (first | refine blk_drewN ?_ _ | refine blk_drew ?_ | refine blk_alloc ?_ _)); refine blk_put (cs := #[.int .i64 0, .int .i64 0, .slice none 0 0]) ?_ 1 _ rfl; (with_reducible repeat (first | refine blk_drewN ?_ _ | refine blk_drew ?_ | refine blk_alloc ?_ _)); refine blk_put (cs := #[.int .i64 0, .int .i64 0, .slice none 0 0]) ?_ 0 _ rfl; (with_reducible repeat (first | refine blk_drewN ?_ _ | refine blk_drew ?_ | refine blk_alloc ?_ _)); exact BK173.out) Try.underlying40 rfl (by kernel_rfl)) rfl ?_
         exact ⟨_, by first | rfl | (simp [errW_none, errW_some] <;> rfl) | (simp only [← hji21]; first | rfl | (simp [errW_none, errW_some] <;> rfl)) | (simp [*, errW_none, errW_some] <;> rfl), by first | exact Kd.R_nil _ _ _ _ _ | exact Kd.N_nil _ _ _ _ _ | exact Kd.V_nil _ _ _ _ _ | exact Kd.Q_nil _ _ _ _ _ | exact Kd.S_nil _ _ _ _ _, bt HB⟩
        ·try go_wp2_with (first | ((with_reducible refine gate_callee (f := 18) rfl ?_); refine goesL_ (some 43) rfl rfl Try.func18 (by kernel_rfl) rfl #[.agg #[.int .i64 a0_0, .int .i64 a0_1, .slice Ao40 y190.length co40]] rfl (by (try simp only [List.map_toArray, List.map_cons, List.map_nil]); first | done | rfl | (simp only [List.length_drop, List.length_take]; rfl)) ?_; (with_reducible refine (spec_LogOk.calls kj3 a0_0 a0_1 _ _ y190 true _ ?side1 ?side2 A26.out).mono ?_); (case side1 => refine (Kd.R_reads' (e := 53) (base := w.heap.size) (ok := fun k_ => (some k_ ≠ (v188 : Value).ownBlock ∧ k_ ≠ gb172)) (n := y190.length) (c := co40) ?_).2.2; exact (by (with_reducible repeat (first | apply Kd.R_alloc | apply Kd.R_drewN | apply Kd.R_drew)); exact (Kd.R_mono (Kd.R_far (p := ⟨gb193, 2, none⟩) (Kd.R_far (p := ⟨gb193, 1, none⟩) (Kd.R_far (p := ⟨gb193, 0, none⟩) (Kd.R_types HO192.out BK193.out (by decide)) (fun _ hk => hk.2) (.int .i64 a0_0)) (fun _ hk => hk.2) (.int .i64 a0_1)) (fun _ hk => hk.2) (.slice Ao40 y190.length co40)) (fun _ h_ => h_.1)))); (case side2 => exact (Kd.R_reads' HO192.out).2.1); rintro e w48 ⟨rfl, hb⟩; refine ⟨_, rfl, ?_⟩; have n0_ := Aside0.mk (Kd.R_below (by (with_reducible repeat (first | apply Kd.R_alloc | apply Kd.R_drewN | apply Kd.R_drew)); exact (Kd.R_mono (Kd.R_far (p := ⟨gb193, 2, none⟩) (Kd.R_far (p := ⟨gb193, 1, none⟩) (Kd.R_far (p := ⟨gb193, 0, none⟩) (Kd.R_types HO189.out BK193.out (by decide)) (fun _ hk => hk.2) (.int .i64 a0_0)) (fun _ hk => hk.2) (.int .i64 a0_1)) (fun _ hk => hk.2) (.slice Ao40 y190.length co40)) (fun _ h_ => h_.1))) hb); have n1_ := Aside0.mk (Kd.R_below (by (with_reducible repeat (first | apply Kd.R_alloc | apply Kd.R_drewN | apply Kd.R_drew)); exact (Kd.R_mono (Kd.R_far (p := ⟨gb193, 2, none⟩) (Kd.R_far (p := ⟨gb193, 1, none⟩) (Kd.R_far (p := ⟨gb193, 0, none⟩) (Kd.R_types HO192.out BK193.out (by decide)) (fun _ hk => hk.2) (.int .i64 a0_0)) (fun _ hk => hk.2) (.int .i64 a0_1)) (fun _ hk => hk.2) (.slice Ao40 y190.length co40)) (fun _ h_ => h_.1))) hb); have n2_ := Aside0.mk (blk_below (g := gb171) (o := .cells #[.int .i64 a0_0, .int .i64 a0_1, .slice A0_2 l0_2.length c0_2] 40 (0, 0)) (by refine bk_ ?_; refine blk_far ?_ NB171_193.out _; refine bk_ ?_; refine blk_far ?_ NB171_193.out _; refine bk_ ?_; refine blk_far ?_ NB171_193.out _; refine bk_ ?_; exact BK171.out) hb); have n3_ := Aside0.mk (blk_below (g := gb172) (o := .cells #[.int .i64 a2_0, .int .i64 a2_1, .string a2_2] 53 (0, 0)) (by refine bk_ ?_; refine blk_far ?_ NB172_193.out _; refine bk_ ?_; refine blk_far ?_ NB172_193.out _; refine bk_ ?_; refine blk_far ?_ NB172_193.out _; refine bk_ ?_; exact BK172.out) hb); have n4_ := Aside0.mk (blk_below (g := gb173) (o := .cells #[.int .i64 0, .int .i64 0, .slice none 0 0] 40 (0, 0)) (by refine bk_ ?_; refine blk_far ?_ NB173_193.out _; refine bk_ ?_; refine blk_far ?_ NB173_193.out _; refine bk_ ?_; refine blk_far ?_ NB173_193.out _; refine bk_ ?_; exact BK173.out) hb); have n5_ := Aside0.mk (blk_below (g := gb193) (o := .cells #[.int .i64 a0_0, .int .i64 a0_1, .slice Ao40 y190.length co40] 40 (0, 0)) (by refine bk_ ?_; refine blk_put (cs := #[.int .i64 a0_0, .int .i64 a0_1, .slice none 0 0]) ?_ 2 _ rfl; refine bk_ ?_; refine blk_put (cs := #[.int .i64 a0_0, .int .i64 0, .slice none 0 0]) ?_ 1 _ rfl; refine bk_ ?_; refine blk_put (cs := #[.int .i64 0, .int .i64 0, .slice none 0 0]) ?_ 0 _ rfl; refine bk_ ?_; exact BK193.out) hb); have n6_ := Aside0.mk (below_step (bt HB) hb); clear HO189 HO192 BK171 BK172 BK173 BK193 HB; revert n0_ n1_ n2_ n3_ n4_ n5_ n6_; intro HO189 HO192 BK171 BK172 BK173 BK193 HB; (try clear hb); (try clear hb2); (try clear hk); (try clear hi); have hcz49_0 : w48.cell? ⟨gb193, 0, none⟩ = some (.int .i64 a0_0) := bc BK193 0; have hcz49_1 : w48.cell? ⟨gb193, 1, none⟩ = some (.int .i64 a0_1) := bc BK193 1; have hcz49_2 : w48.cell? ⟨gb193, 2, none⟩ = some (.slice Ao40 y190.length co40) := bc BK193 2; have hfz49_0 := blk_frozen BK193.out 0; have hfz49_1 := blk_frozen BK193.out 1; have hfz49_2 := blk_frozen BK193.out 2; have hnb50 := NB173_171.out; have hnc50 := NB171_173.out; have hnb51 := NB173_172.out; have hnc51 := NB172_173.out; have hcz52_0 : w48.cell? ⟨gb173, 0, none⟩ = some (.int .i64 0) := bc BK173 0; have hcz52_1 : w48.cell? ⟨gb173, 1, none⟩ = some (.int .i64 0) := bc BK173 1; have hcz52_2 : w48.cell? ⟨gb173, 2, none⟩ = some (.slice none 0 0) := bc BK173 2; have hfz52_0 := blk_frozen BK173.out 0; have hfz52_1 := blk_frozen BK173.out 1; have hfz52_2 := blk_frozen BK173.out 2))
         refine bodyPost_ret (results_ct rfl _ _ gb173 40 #[.int .i64 a0_0, .int .i64 a0_1, .slice Ao40 y190.length co40] (0, 0) _ rfl (by (with_reducible repeat (first | refine blk_drewN ?_ _ | refine blk_drew ?_ | refine blk_alloc ?_ _)); refine blk_put (cs := #[.int .i64 a0_0, .int .i64 a0_1, .slice none 0 0]) ?_ 2 _ rfl; (with_reducible repeat (first | refine blk_drewN ?_ _ | refine blk_drew ?_ | refine blk_alloc ?_ _)); refine blk_put (cs := #[.int .i64 a0_0, .int .i64 0, .slice none 0 0]) ?_ 1 _ rfl; (with_reducible repeat (first | refine blk_drewN ?_ _ | refine blk_drew ?_ | refine blk_alloc ?_ _)); refine blk_put (cs := #[.int .i64 0, .int .i64 0, .slice none 0 0]) ?_ 0 _ rfl; (with_reducible repeat (first | refine blk_drewN ?_ _ | refine blk_drew ?_ | refine blk_alloc ?_ _)); exact BK173.out) Try.underlying40 rfl (by kernel_rfl)) rfl ?_
         exact ⟨_, by first | rfl | (simp [errW_none, errW_some] <;> rfl) | (simp only [← hji21]; first | rfl | (simp [errW_none, errW_some] <;> rfl)) | (simp [*, errW_none, errW_some] <;> rfl), by (with_reducible repeat (first | apply Kd.R_alloc | apply Kd.R_drewN | apply Kd.R_drew)); exact Kd.R_mono (Kd.R_far (p := ⟨gb173, 2, none⟩) (Kd.R_far (p := ⟨gb173, 1, none⟩) (Kd.R_far (p := ⟨gb173, 0, none⟩) (Kd.R_types HO192.out BK173.out (by decide)) (fun _ hk => hk.2) (.int .i64 a0_0)) (fun _ hk => hk.2) (.int .i64 a0_1)) (fun _ hk => hk.2) (.slice Ao40 y190.length co40)) (fun _ hk => trivial), bt HB⟩
       ·rw [if_neg c25] at H
        exact absurd H (by simp)
      ·rw [if_neg c24] at H
       exact absurd H (by simp)
     ·rw [if_neg c23] at H
      exact absurd H (by simp)
    ·rw [if_neg c22] at H
     exact absurd H (by simp)

end Go.Proofs.Ytpmdcplmnipdeaa.PFnExactLogPut
