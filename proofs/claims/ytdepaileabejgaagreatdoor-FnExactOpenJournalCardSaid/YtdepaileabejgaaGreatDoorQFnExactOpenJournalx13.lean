/- Walks. No condition. -/
import Derived.Test.YtdepaileabejgaaGreatDoorQFnExactOpenJournalx12
namespace Go.Proofs.YtdepaileabejgaaGreatDoor.PFnExactOpenJournal
open Go.RowKit Go.Proofs.YtdepaileabejgaaGreatDoorW.PrintWords Go.Proofs.YtdepaileabejgaaGreatDoorW.PrintLast Go.Proofs.YtdepaileabejgaaGreatDoorW.PrintMore Go.Proofs.YtdepaileabejgaaGreatDoorW.Short
attribute [local go_sem] max2_int min2_int max_two min_two max_three min_three max_four min_four
set_option maxHeartbeats 8000000
set_option maxRecDepth 100000
set_option linter.unusedVariables false
set_option linter.unusedSimpArgs false
def spec_l07Anew.f (k : Nat) (a0_0 : Int) (a0_1 : Int) (a0_2 : Int) (a0_3 : Int) (a0_4 : Int) (l0_5 : List (S105)) (a1_0 : Int) (a1_1 : Int) (a1_2 : Int) (a1_3 : Int) (a1_4 : Int) (l1_5 : List (S105)) : Option ((List (S57)) × Int × Int × Int × Int × Int × (List (S105)) × Bool) := (spec_JournalText.f k (wrap64 (a0_0 + 1)) a1_1 a1_2 a1_3 a1_4 l1_5).bind fun bt332 => (if bt332.2 = true then ((spec_JournalName.f k (wrap64 (a0_0 + 1))).bind fun t334 => ((spec_JournalName.f k a0_0).bind fun t335 => ((spec_l07Copy.f (wrap64 (a0_0 + 1)) a1_1 a1_2 a1_3 a1_4 l1_5).bind fun bt339 => (some ((([(⟨1, (⟨#[106, 43]⟩ : ByteArray), bt332.1, (⟨#[]⟩ : ByteArray)⟩ : S57), (⟨2, (⟨#[106, 43]⟩ : ByteArray), (⟨#[]⟩ : ByteArray), (⟨#[]⟩ : ByteArray)⟩ : S57), (⟨3, (⟨#[106, 43]⟩ : ByteArray), (⟨#[]⟩ : ByteArray), t334⟩ : S57), (⟨4, t335, (⟨#[]⟩ : ByteArray), (⟨#[]⟩ : ByteArray)⟩ : S57)] : List (S57))), bt339.1, bt339.2.1, bt339.2.2.1, bt339.2.2.2.1, bt339.2.2.2.2.1, bt339.2.2.2.2.2, true))))) else (some ((([] : List (S57))), 0, 0, 0, 0, 0, ([] : List (S105)), false)))
def spec_l07Anew.T5 : Bool × List (List Nat × List Nat) := (true, [([], []), ([0], [0]), ([], []), ([], []), ([3], [3]), ([4], [4]), ([5], [5]), ([], []), ([7], [7]), ([8, 5], [8]), ([9], [9]), ([1, 2, 6, 10], [1, 2, 6, 10]), ([], []), ([12, 9], [12]), ([11, 13, 0, 1, 2, 3, 4, 5, 6, 7, 8, 9, 10, 11], [11]), ([13, 14, 0, 1, 2, 3, 4, 5, 6, 7, 8, 9, 10, 11, 12, 13, 14], [13]), ([15, 0, 1, 2, 3, 4, 5, 6, 7, 8, 9, 10, 11, 12, 13, 14, 15], [])])
def spec_l07Anew.B5 : List Nat := [0, 1, 0, 0, 8, 24, 56, 0, 128, 440, 952, 2047, 0, 5048, 16383, 32767, 65535]
theorem spec_l07Anew.tab5 : rtab .any (opsOf Tryz.f24 5) = spec_l07Anew.T5 := by kernel_rfl
theorem spec_l07Anew.bits5 : waitsOk spec_l07Anew.T5.2 spec_l07Anew.B5 = true := by kernel_rfl
theorem spec_l07Anew.calls (k : Nat) (a0_0 : Int) (a0_1 : Int) (a0_2 : Int) (a0_3 : Int) (a0_4 : Int) (A0_5 : Option Addr) (c0_5 : Nat) (l0_5 : List (S105)) (a1_0 : Int) (a1_1 : Int) (a1_2 : Int) (a1_3 : Int) (a1_4 : Int) (A1_5 : Option Addr) (c1_5 : Nat) (l1_5 : List (S105)) (r1 : List (S57)) (r2 : Int) (r3 : Int) (r4 : Int) (r5 : Int) (r6 : Int) (r7 : List (S105)) (r8 : Bool) (w : World) (hr0_5 : Kd.C k105 w A0_5 l0_5.length l0_5) (hc0_5 : l0_5.length ≤ c0_5) (hr1_5 : Kd.C k105 w A1_5 l1_5.length l1_5) (hc1_5 : l1_5.length ≤ c1_5) (H : spec_l07Anew.f k a0_0 a0_1 a0_2 a0_3 a0_4 l0_5 a1_0 a1_1 a1_2 a1_3 a1_4 l1_5 = some (r1, r2, r3, r4, r5, r6, r7, r8)) :
 Calls Tryz.prog 24 #[.agg #[.int .i64 a0_0, .int .i64 a0_1, .int .i64 a0_2, .int .i64 a0_3, .int .i64 a0_4, .slice A0_5 l0_5.length c0_5], .agg #[.int .i64 a1_0, .int .i64 a1_1, .int .i64 a1_2, .int .i64 a1_3, .int .i64 a1_4, .slice A1_5 l1_5.length c1_5]] w fun e w' => ∃ v0_ v6_ : Value, e = .returned (.tuple #[v0_, .agg #[.int .i64 r2, .int .i64 r3, .int .i64 r4, .int .i64 r5, .int .i64 r6, v6_], .bool r8]) ∧ Kd.R k57 57 w' w.heap.size (fun _ => True) v0_ r1 ∧ Kd.R k105 105 w' w.heap.size (fun _ => True) v6_ r7 ∧ Below w.heap.size w w' := by
 have hu30 := Tryz.underlying30; have hu28 := Tryz.underlying28; have hu57 := Tryz.underlying57; have HR0_5 := ak hr0_5; have HC0_5 := ak hc0_5; clear hr0_5 hc0_5; have HR1_5 := ak hr1_5; have HC1_5 := ak hc1_5; clear hr1_5 hc1_5; have HB := ak (Below.refl w.heap.size w); unfold spec_l07Anew.f at H; obtain ⟨⟨t332, t333⟩, A3, H⟩ := bo H
 try dsimp only at H
 cases t333; rotate_left; rw [if_pos rfl] at H; obtain ⟨t334, A5, H⟩ := bo H; obtain ⟨t335, A6, H⟩ := bo H; obtain ⟨y336, hy336⟩ : ∃ y_ : List (S57), y_ = (([(⟨1, (⟨#[106, 43]⟩ : ByteArray), t332, (⟨#[]⟩ : ByteArray)⟩ : S57), (⟨2, (⟨#[106, 43]⟩ : ByteArray), (⟨#[]⟩ : ByteArray), (⟨#[]⟩ : ByteArray)⟩ : S57), (⟨3, (⟨#[106, 43]⟩ : ByteArray), (⟨#[]⟩ : ByteArray), t334⟩ : S57), (⟨4, t335, (⟨#[]⟩ : ByteArray), (⟨#[]⟩ : ByteArray)⟩ : S57)] : List (S57))) := ⟨_, rfl⟩
 first | replace H := bs hy336 H | rw [← hy336] at H
 have Ny336 := ak hy336; clear hy336; obtain ⟨⟨t339, t340, t341, t342, t343, t344⟩, A7, H⟩ := bo H
 try dsimp only at H
 obtain ⟨rfl, rfl, rfl, rfl, rfl, rfl, rfl, rfl⟩ := o8 H; rotate_left; rw [if_neg nf] at H; obtain ⟨y347, hy347⟩ : ∃ y_ : List (S57), y_ = (([] : List (S57))) := ⟨_, rfl⟩
 first | replace H := bs hy347 H | rw [← hy347] at H
 have Ny347 := ak hy347; clear hy347; obtain ⟨rfl, rfl, rfl, rfl, rfl, rfl, rfl, rfl⟩ := o8 H
 all_goals
  go_enter Tryz.func24, Tryz.ntmps24
  try go_wp2_with (first | ((with_reducible refine gd 2 rfl ?_); refine bx 2 30 #[.int .i64 a0_0, .int .i64 a0_1, .int .i64 a0_2, .int .i64 a0_3, .int .i64 a0_4, .slice A0_5 l0_5.length c0_5] fun gb328 hg w36 BK328 hb => ?_; have GE328 := ge_ hg HB; replace HB := bs1 HB hb; clear hb hg) | ((with_reducible refine gd 3 rfl ?_); refine bx 3 30 #[.int .i64 a1_0, .int .i64 a1_1, .int .i64 a1_2, .int .i64 a1_3, .int .i64 a1_4, .slice A1_5 l1_5.length c1_5] fun gb329 hg w37 BK329 hb => ?_; have GE329 := ge_ hg HB; replace HB := bs1 HB hb; have NB328_329 := nl_ hg BK328; have NB329_328 := nr_ hg BK328; replace BK328 := bb BK328 hb; clear hb hg) | ((with_reducible refine gd 5 rfl ?_); refine bx 5 30 #[.int .i64 0, .int .i64 0, .int .i64 0, .int .i64 0, .int .i64 0, .slice none 0 0] fun gb330 hg w38 BK330 hb => ?_; have GE330 := ge_ hg HB; replace HB := bs1 HB hb; have NB328_330 := nl_ hg BK328; have NB330_328 := nr_ hg BK328; replace BK328 := bb BK328 hb; have NB329_330 := nl_ hg BK329; have NB330_329 := nr_ hg BK329; replace BK329 := bb BK329 hb; clear hb hg; have := NB328_329.out; have := NB329_328.out; have := NB328_330.out; have := NB330_328.out; obtain ⟨_, _, _, _, _, _, _, _, _, _, _, _⟩ := bc6 BK328; have := NB329_330.out; have := NB330_329.out; obtain ⟨_, _, _, _, _, _, _, _, _, _, _, _⟩ := bc6 BK329) | ((with_reducible refine gd 7 rfl ?_); refine bx 7 30 #[.int .i64 0, .int .i64 0, .int .i64 0, .int .i64 0, .int .i64 0, .slice none 0 0] fun gb331 hg w44 BK331 hb => ?_; have GE331 := ge_ hg HB; replace HB := bs1 HB hb; have NB328_331 := nl_ hg BK328; have NB331_328 := nr_ hg BK328; replace BK328 := bb BK328 hb; have NB329_331 := nl_ hg BK329; have NB331_329 := nr_ hg BK329; replace BK329 := bb BK329 hb; have NB330_331 := nl_ hg BK330; have NB331_330 := nr_ hg BK330; replace BK330 := bb BK330 hb; clear hb hg; have := NB331_328.out; have := NB328_331.out; have := NB331_329.out; have := NB329_331.out; have := NB331_330.out; have := NB330_331.out; obtain ⟨_, _, _, _, _, _, _, _, _, _, _, _⟩ := bc6 BK331) | ((with_reducible refine gd 22 rfl ?_); refine gc 22 Tryz.func50 (spec_JournalText.calls k (wrap64 (a0_0 + 1)) a1_1 a1_2 a1_3 a1_4 _ _ l1_5 t332 _ _ ?s1 ?s2 A3.out) fun w49 hb => ?_; (case s1 => exact Kd.C_below HR1_5.out (bt HB)); (case s2 => exact HC1_5.out); replace BK328 := bbg BK328 hb; replace BK329 := bbg BK329 hb; replace BK330 := bbg BK330 hb; replace BK331 := bbp BK331 hb #[.int .i64 (wrap64 (a0_0 + 1)), .int .i64 a1_1, .int .i64 a1_2, .int .i64 a1_3, .int .i64 a1_4, .slice A1_5 l1_5.length c1_5]; replace HB := bs1 HB hb) | ((with_reducible refine gate_dst (N := 27) rfl ?_); refine Kd.R_lit k57 _ 57 ?hg (N := 27) ?hd (xs := ([] : List (S57))) (inner := []) (ok := fun _ => True) (okp := fun _ => True) ?hr ?hp (fun _ hk => hk) trivial (Below.refl _ _) (Nat.le_refl _) (by simp) ?_; (case hd => rfl); (case hg => rfl); (case hr => first | (go_simp; done) | (go_simp; rfl)); (case hp => exact (Reps.none _ _)); intro v348 w50 ho51 hb hg_ hnew_; clear hg_ hnew_; (first | rw [← Ny347.out] at ho51 | (simp only [Int.reduceToNat] at ho51; rw [← Ny347.out] at ho51)); have HO349 := ak (Kd.R_lower ho51 (below_size (bt HB))); replace BK328 := bb BK328 hb; replace BK329 := bb BK329 hb; replace BK330 := bb BK330 hb; replace BK331 := bb BK331 hb; replace HB := bs1 HB hb; clear hb ho51; obtain ⟨_, _, _, _, _, _, _, _, _, _, _, _⟩ := bc6 BK330))
 ·refine bodyPost_ret (results_list (rs := [.tmp 4, .cell 5 30, .tmp 6]) rfl (by simp) (.tmp (.cell gb330 30 #[.int .i64 0, .int .i64 0, .int .i64 0, .int .i64 0, .int .i64 0, .slice none 0 0] (0, 0) _ rfl (bp BK330) Tryz.underlying30 rfl (by kernel_rfl) (.tmp .nil)))) rfl ?_
  exact ⟨_, _, fe, by (with_reducible repeat (first | apply Kd.R_alloc | apply Kd.R_drewN | apply Kd.R_drew)); exact rfm HO349 BK330, by first | exact Kd.R_nil _ _ _ _ _ | exact Kd.N_nil _ _ _ _ _ | exact Kd.V_nil _ _ _ _ _ | exact Kd.Q_nil _ _ _ _ _ | exact Kd.S_nil _ _ _ _ _, bt HB⟩
 ·replace BK328 := ak (blk_drew BK328.out); replace BK329 := ak (blk_drew BK329.out); replace BK330 := ak (blk_drew BK330.out); replace BK331 := ak (blk_drew BK331.out); replace HB := ak (below_drew1 HB.out)
  refine st 17 (fun w' => True) spec_l07Anew.tab5 spec_l07Anew.bits5 trivial fun hHeld HT_ HW_ => ?_
  generalize w49.drew = w22 at BK328 BK329 BK330 BK331 HB hHeld ⊢
  refine pu HT_ 0 29 ?_; refine pu HT_ 3 32 ?_; refine pu HT_ 7 36 ?_
  refine inv_at [1, 2, 4, 5, 6, 8, 9, 10, 11, 12, 13, 14, 15, 16] (fun a0_ b a w' => ∃ (v337 : Value) (v345 : Value) (m13_ : Value) (m14_ : Value), a = putSel a0_ b [(1, 30, .agg #[.int .i64 1, .string (⟨#[106, 43]⟩ : ByteArray), .string t332, .string (⟨#[]⟩ : ByteArray)]), (2, 31, .agg #[.int .i64 2, .string (⟨#[106, 43]⟩ : ByteArray), .string (⟨#[]⟩ : ByteArray), .string (⟨#[]⟩ : ByteArray)]), (4, 33, .int .i64 (wrap64 (a0_0 + 1))), (5, 34, .string t334), (6, 35, .agg #[.int .i64 3, .string (⟨#[106, 43]⟩ : ByteArray), .string (⟨#[]⟩ : ByteArray), .string t334]), (8, 37, .int .i64 a0_0), (9, 38, .string t335), (10, 39, .agg #[.int .i64 4, .string t335, .string (⟨#[]⟩ : ByteArray), .string (⟨#[]⟩ : ByteArray)]), (11, 40, v337), (12, 41, .agg #[.int .i64 (wrap64 (a0_0 + 1)), .int .i64 a1_1, .int .i64 a1_2, .int .i64 a1_3, .int .i64 a1_4, .slice A1_5 l1_5.length c1_5]), (13, 42, m13_), (14, 4, m14_), (16, 6, .bool true)] ∧ (w'.heap[gb328]? = some (.cells #[.int .i64 a0_0, .int .i64 a0_1, .int .i64 a0_2, .int .i64 a0_3, .int .i64 a0_4, .slice A0_5 l0_5.length c0_5] 30 (0, 0))) ∧ (w'.heap[gb329]? = some (.cells #[.int .i64 a1_0, .int .i64 a1_1, .int .i64 a1_2, .int .i64 a1_3, .int .i64 a1_4, .slice A1_5 l1_5.length c1_5] 30 (0, 0))) ∧ (b 15 = false → w'.heap[gb330]? = some (.cells #[.int .i64 0, .int .i64 0, .int .i64 0, .int .i64 0, .int .i64 0, .slice none 0 0] 30 (0, 0))) ∧ (w'.heap[gb331]? = some (.cells #[.int .i64 (wrap64 (a0_0 + 1)), .int .i64 a1_1, .int .i64 a1_2, .int .i64 a1_3, .int .i64 a1_4, .slice A1_5 l1_5.length c1_5] 30 (0, 0))) ∧ (Below w.heap.size w w') ∧ (b 11 = true → Kd.R k57 57 w' w.heap.size (fun _ => True) v337 y336) ∧ (b 13 = true → Kd.R k105 105 w' w.heap.size (fun _ => True) v345 t344) ∧ (b 15 = true → w'.heap[gb330]? = some (.cells #[.int .i64 t339, .int .i64 t340, .int .i64 t341, .int .i64 t342, .int .i64 t343, v345] 30 (0, 0))) ∧ (b 13 = true → (m13_ : Value) = .agg #[.int .i64 t339, .int .i64 t340, .int .i64 t341, .int .i64 t342, .int .i64 t343, v345]) ∧ (b 14 = true → (m14_ : Value) = v337)) HT_.out HW_.out (by kernel_rfl) (by kernel_rfl) ?_ ?_ ?_
  ·exact ⟨.bool false, .bool false, .bool false, .bool false, by simp only [putSel, Bool.false_eq_true, if_false], BK328.out, BK329.out, fun _ => BK330.out, BK331.out, HB.out, fun h_ => absurd h_ (by decide), fun h_ => absurd h_ (by decide), fun h_ => absurd h_ (by decide), fun h_ => absurd h_ (by decide), fun h_ => absurd h_ (by decide)⟩
  ·skip
   clear BK328 BK329 BK330 BK331 HB; refine steps_cons ?_ ?_
   ·rintro b a w' ⟨v337, v345, m13_, m14_, ha, Q_BK328, Q_BK329, Q_BK330, Q_BK331, Q_HB, Q_HO338, Q_HO346, Q_BK330_e15, Q_X13_, Q_X14_⟩ hb_ hon hoff
    refine ⟨_, rfl, fun K hK => ?_⟩
    have e29 : a.tmps[29]? = some (.string t332) := by rw [ha]; exact (putSel_off rfl).trans rfl
    replace ha := ak ha; have BK328 := ak Q_BK328; have BK329 := ak Q_BK329
    have BK330 := ak (Q_BK330 (hoff 15 (by kernel_rfl)))
    have BK331 := ak Q_BK331; have HB := ak Q_HB
    refine value_ (w1 := w') (v := .agg #[.int .i64 1, .string (⟨#[106, 43]⟩ : ByteArray), .string t332, .string (⟨#[]⟩ : ByteArray)]) (by rfl) rfl ?_ ?_
    ·go_simp
     (try simp only [i64_w])
     try rfl
    refine hK.out _ _ ⟨v337, v345, m13_, m14_, (by rw [ha.out]; exact putSel_upk 0 hb_ rfl rfl rfl), Q_BK328, Q_BK329, Q_BK330, Q_BK331, Q_HB, fun h0_ => absurd ((hoff 11 (by kernel_rfl)).symm.trans h0_) (by decide), Q_HO346, fun h0_ => absurd ((hoff 15 (by kernel_rfl)).symm.trans h0_) (by decide), Q_X13_, fun h0_ => absurd ((hoff 14 (by kernel_rfl)).symm.trans h0_) (by decide)⟩
   refine steps_cons ?_ ?_
   ·rintro b a w' ⟨v337, v345, m13_, m14_, ha, Q_BK328, Q_BK329, Q_BK330, Q_BK331, Q_HB, Q_HO338, Q_HO346, Q_BK330_e15, Q_X13_, Q_X14_⟩ hb_ hon hoff
    refine ⟨_, rfl, fun K hK => ?_⟩
    replace ha := ak ha; have BK328 := ak Q_BK328; have BK329 := ak Q_BK329
    have BK330 := ak (Q_BK330 (hoff 15 (by kernel_rfl)))
    have BK331 := ak Q_BK331; have HB := ak Q_HB
    refine value_ (w1 := w') (v := .agg #[.int .i64 2, .string (⟨#[106, 43]⟩ : ByteArray), .string (⟨#[]⟩ : ByteArray), .string (⟨#[]⟩ : ByteArray)]) (by rfl) rfl ?_ ?_
    ·go_simp
     (try simp only [i64_w])
     try rfl
    refine hK.out _ _ ⟨v337, v345, m13_, m14_, (by rw [ha.out]; exact putSel_upk 1 hb_ rfl rfl rfl), Q_BK328, Q_BK329, Q_BK330, Q_BK331, Q_HB, fun h0_ => absurd ((hoff 11 (by kernel_rfl)).symm.trans h0_) (by decide), Q_HO346, fun h0_ => absurd ((hoff 15 (by kernel_rfl)).symm.trans h0_) (by decide), Q_X13_, fun h0_ => absurd ((hoff 14 (by kernel_rfl)).symm.trans h0_) (by decide)⟩
   refine steps_cons ?_ ?_
   ·rintro b a w' ⟨v337, v345, m13_, m14_, ha, Q_BK328, Q_BK329, Q_BK330, Q_BK331, Q_HB, Q_HO338, Q_HO346, Q_BK330_e15, Q_X13_, Q_X14_⟩ hb_ hon hoff
    refine ⟨_, rfl, fun K hK => ?_⟩
    have e32 : a.tmps[32]? = some (.pointer (some ⟨gb331, 0, none⟩)) := by rw [ha]; exact (putSel_off rfl).trans rfl
    replace ha := ak ha; have BK328 := ak Q_BK328; have BK329 := ak Q_BK329
    have BK330 := ak (Q_BK330 (hoff 15 (by kernel_rfl)))
    have BK331 := ak Q_BK331; have HB := ak Q_HB; have hc0_ : w'.cell? ⟨gb331, 0, none⟩ = some (.int .i64 (wrap64 (a0_0 + 1))) := bc BK331 0; have hc1_ : w'.cell? ⟨gb331, 1, none⟩ = some (.int .i64 a1_1) := bc BK331 1; have hc2_ : w'.cell? ⟨gb331, 2, none⟩ = some (.int .i64 a1_2) := bc BK331 2; have hc3_ : w'.cell? ⟨gb331, 3, none⟩ = some (.int .i64 a1_3) := bc BK331 3; have hc4_ : w'.cell? ⟨gb331, 4, none⟩ = some (.int .i64 a1_4) := bc BK331 4; have hc5_ : w'.cell? ⟨gb331, 5, none⟩ = some (.slice A1_5 l1_5.length c1_5) := bc BK331 5
    refine value_ (w1 := w') (v := .int .i64 (wrap64 (a0_0 + 1))) (by rfl) rfl ?_ ?_
    ·go_simp
     (try simp only [i64_w])
     try rfl
    refine hK.out _ _ ⟨v337, v345, m13_, m14_, (by rw [ha.out]; exact putSel_upk 2 hb_ rfl rfl rfl), Q_BK328, Q_BK329, Q_BK330, Q_BK331, Q_HB, fun h0_ => absurd ((hoff 11 (by kernel_rfl)).symm.trans h0_) (by decide), fun h0_ => absurd ((hoff 13 (by kernel_rfl)).symm.trans h0_) (by decide), fun h0_ => absurd ((hoff 15 (by kernel_rfl)).symm.trans h0_) (by decide), fun h0_ => absurd ((hoff 13 (by kernel_rfl)).symm.trans h0_) (by decide), fun h0_ => absurd ((hoff 14 (by kernel_rfl)).symm.trans h0_) (by decide)⟩
   refine steps_cons ?_ ?_
   ·rintro b a w' ⟨v337, v345, m13_, m14_, ha, Q_BK328, Q_BK329, Q_BK330, Q_BK331, Q_HB, Q_HO338, Q_HO346, Q_BK330_e15, Q_X13_, Q_X14_⟩ hb_ hon hoff
    refine ⟨_, rfl, fun K hK => ?_⟩
    have e33 : a.tmps[33]? = some (.int .i64 (wrap64 (a0_0 + 1))) := by rw [ha]; exact putSel_on (e := (4, 33, .int .i64 (wrap64 (a0_0 + 1)))) 2 rfl rfl (hon 4 (by kernel_rfl)) rfl
    replace ha := ak ha; have BK328 := ak Q_BK328; have BK329 := ak Q_BK329
    have BK330 := ak (Q_BK330 (hoff 15 (by kernel_rfl)))
    have BK331 := ak Q_BK331; have HB := ak Q_HB
    refine goes_ Tryz.func20 (by kernel_rfl) rfl #[.int .i64 (wrap64 (a0_0 + 1))] (by rfl) rfl rfl (by first | (simp only [List.map_toArray, List.map_cons, List.map_nil, Act.eval, Array.getD_eq_getD_getElem?, Option.getD_some, e33]; done) | (simp only [List.map_toArray, List.map_cons, List.map_nil, Act.eval, Array.getD_eq_getD_getElem?, Option.getD_some, e33]; rfl)) ?_
    with_reducible refine (spec_JournalName.calls k (wrap64 (a0_0 + 1)) t334 _ A5.out).mono ?_; rintro e w23 ⟨rfl, hb⟩; refine ⟨_, rfl, ?_⟩; replace BK328 := bb BK328 hb; replace BK329 := bb BK329 hb; replace BK330 := bb BK330 hb; replace BK331 := bb BK331 hb; replace HB := bs1 HB hb
    refine hK.out _ _ ⟨v337, v345, m13_, m14_, (by rw [ha.out]; exact putSel_upk 3 hb_ rfl rfl rfl), (bk BK328), (bk BK329), fun _ => (bk BK330), (bk BK331), (bt HB), fun h0_ => absurd ((hoff 11 (by kernel_rfl)).symm.trans h0_) (by decide), fun h0_ => absurd ((hoff 13 (by kernel_rfl)).symm.trans h0_) (by decide), fun h0_ => absurd ((hoff 15 (by kernel_rfl)).symm.trans h0_) (by decide), fun h0_ => absurd ((hoff 13 (by kernel_rfl)).symm.trans h0_) (by decide), fun h0_ => absurd ((hoff 14 (by kernel_rfl)).symm.trans h0_) (by decide)⟩
   refine steps_cons ?_ ?_
   ·rintro b a w' ⟨v337, v345, m13_, m14_, ha, Q_BK328, Q_BK329, Q_BK330, Q_BK331, Q_HB, Q_HO338, Q_HO346, Q_BK330_e15, Q_X13_, Q_X14_⟩ hb_ hon hoff
    refine ⟨_, rfl, fun K hK => ?_⟩
    have e34 : a.tmps[34]? = some (.string t334) := by rw [ha]; exact putSel_on (e := (5, 34, .string t334)) 3 rfl rfl (hon 5 (by kernel_rfl)) rfl
    replace ha := ak ha; have BK328 := ak Q_BK328; have BK329 := ak Q_BK329
    have BK330 := ak (Q_BK330 (hoff 15 (by kernel_rfl)))
    have BK331 := ak Q_BK331; have HB := ak Q_HB
    refine value_ (w1 := w') (v := .agg #[.int .i64 3, .string (⟨#[106, 43]⟩ : ByteArray), .string (⟨#[]⟩ : ByteArray), .string t334]) (by rfl) rfl ?_ ?_
    ·go_simp
     (try simp only [i64_w])
     try rfl
    refine hK.out _ _ ⟨v337, v345, m13_, m14_, (by rw [ha.out]; exact putSel_upk 4 hb_ rfl rfl rfl), Q_BK328, Q_BK329, Q_BK330, Q_BK331, Q_HB, fun h0_ => absurd ((hoff 11 (by kernel_rfl)).symm.trans h0_) (by decide), Q_HO346, fun h0_ => absurd ((hoff 15 (by kernel_rfl)).symm.trans h0_) (by decide), Q_X13_, fun h0_ => absurd ((hoff 14 (by kernel_rfl)).symm.trans h0_) (by decide)⟩
   refine steps_cons ?_ ?_
   ·rintro b a w' ⟨v337, v345, m13_, m14_, ha, Q_BK328, Q_BK329, Q_BK330, Q_BK331, Q_HB, Q_HO338, Q_HO346, Q_BK330_e15, Q_X13_, Q_X14_⟩ hb_ hon hoff
    refine ⟨_, rfl, fun K hK => ?_⟩
    have e36 : a.tmps[36]? = some (.pointer (some ⟨gb328, 0, none⟩)) := by rw [ha]; exact (putSel_off rfl).trans rfl
    replace ha := ak ha; have BK328 := ak Q_BK328; have BK329 := ak Q_BK329
    have BK330 := ak (Q_BK330 (hoff 15 (by kernel_rfl)))
    have BK331 := ak Q_BK331; have HB := ak Q_HB; have hc0_ : w'.cell? ⟨gb328, 0, none⟩ = some (.int .i64 a0_0) := bc BK328 0; have hc1_ : w'.cell? ⟨gb328, 1, none⟩ = some (.int .i64 a0_1) := bc BK328 1; have hc2_ : w'.cell? ⟨gb328, 2, none⟩ = some (.int .i64 a0_2) := bc BK328 2; have hc3_ : w'.cell? ⟨gb328, 3, none⟩ = some (.int .i64 a0_3) := bc BK328 3; have hc4_ : w'.cell? ⟨gb328, 4, none⟩ = some (.int .i64 a0_4) := bc BK328 4; have hc5_ : w'.cell? ⟨gb328, 5, none⟩ = some (.slice A0_5 l0_5.length c0_5) := bc BK328 5
    refine value_ (w1 := w') (v := .int .i64 a0_0) (by rfl) rfl ?_ ?_
    ·go_simp
     (try simp only [i64_w])
     try rfl
    refine hK.out _ _ ⟨v337, v345, m13_, m14_, (by rw [ha.out]; exact putSel_upk 5 hb_ rfl rfl rfl), Q_BK328, Q_BK329, Q_BK330, Q_BK331, Q_HB, fun h0_ => absurd ((hoff 11 (by kernel_rfl)).symm.trans h0_) (by decide), fun h0_ => absurd ((hoff 13 (by kernel_rfl)).symm.trans h0_) (by decide), fun h0_ => absurd ((hoff 15 (by kernel_rfl)).symm.trans h0_) (by decide), fun h0_ => absurd ((hoff 13 (by kernel_rfl)).symm.trans h0_) (by decide), fun h0_ => absurd ((hoff 14 (by kernel_rfl)).symm.trans h0_) (by decide)⟩
   refine steps_cons ?_ ?_
   ·rintro b a w' ⟨v337, v345, m13_, m14_, ha, Q_BK328, Q_BK329, Q_BK330, Q_BK331, Q_HB, Q_HO338, Q_HO346, Q_BK330_e15, Q_X13_, Q_X14_⟩ hb_ hon hoff
    refine ⟨_, rfl, fun K hK => ?_⟩
    have e37 : a.tmps[37]? = some (.int .i64 a0_0) := by rw [ha]; exact putSel_on (e := (8, 37, .int .i64 a0_0)) 5 rfl rfl (hon 8 (by kernel_rfl)) rfl
    replace ha := ak ha; have BK328 := ak Q_BK328; have BK329 := ak Q_BK329
    have BK330 := ak (Q_BK330 (hoff 15 (by kernel_rfl)))
    have BK331 := ak Q_BK331; have HB := ak Q_HB
    refine goes_ Tryz.func20 (by kernel_rfl) rfl #[.int .i64 a0_0] (by rfl) rfl rfl (by first | (simp only [List.map_toArray, List.map_cons, List.map_nil, Act.eval, Array.getD_eq_getD_getElem?, Option.getD_some, e37]; done) | (simp only [List.map_toArray, List.map_cons, List.map_nil, Act.eval, Array.getD_eq_getD_getElem?, Option.getD_some, e37]; rfl)) ?_
    with_reducible refine (spec_JournalName.calls k a0_0 t335 _ A6.out).mono ?_; rintro e w25 ⟨rfl, hb⟩; refine ⟨_, rfl, ?_⟩; replace BK328 := bb BK328 hb; replace BK329 := bb BK329 hb; replace BK330 := bb BK330 hb; replace BK331 := bb BK331 hb; replace HB := bs1 HB hb
    refine hK.out _ _ ⟨v337, v345, m13_, m14_, (by rw [ha.out]; exact putSel_upk 6 hb_ rfl rfl rfl), (bk BK328), (bk BK329), fun _ => (bk BK330), (bk BK331), (bt HB), fun h0_ => absurd ((hoff 11 (by kernel_rfl)).symm.trans h0_) (by decide), fun h0_ => absurd ((hoff 13 (by kernel_rfl)).symm.trans h0_) (by decide), fun h0_ => absurd ((hoff 15 (by kernel_rfl)).symm.trans h0_) (by decide), fun h0_ => absurd ((hoff 13 (by kernel_rfl)).symm.trans h0_) (by decide), fun h0_ => absurd ((hoff 14 (by kernel_rfl)).symm.trans h0_) (by decide)⟩
   refine steps_cons ?_ ?_
   ·rintro b a w' ⟨v337, v345, m13_, m14_, ha, Q_BK328, Q_BK329, Q_BK330, Q_BK331, Q_HB, Q_HO338, Q_HO346, Q_BK330_e15, Q_X13_, Q_X14_⟩ hb_ hon hoff
    refine ⟨_, rfl, fun K hK => ?_⟩
    have e38 : a.tmps[38]? = some (.string t335) := by rw [ha]; exact putSel_on (e := (9, 38, .string t335)) 6 rfl rfl (hon 9 (by kernel_rfl)) rfl
    replace ha := ak ha; have BK328 := ak Q_BK328; have BK329 := ak Q_BK329
    have BK330 := ak (Q_BK330 (hoff 15 (by kernel_rfl)))
    have BK331 := ak Q_BK331; have HB := ak Q_HB
    refine value_ (w1 := w') (v := .agg #[.int .i64 4, .string t335, .string (⟨#[]⟩ : ByteArray), .string (⟨#[]⟩ : ByteArray)]) (by rfl) rfl ?_ ?_
    ·go_simp
     (try simp only [i64_w])
     try rfl
    refine hK.out _ _ ⟨v337, v345, m13_, m14_, (by rw [ha.out]; exact putSel_upk 7 hb_ rfl rfl rfl), Q_BK328, Q_BK329, Q_BK330, Q_BK331, Q_HB, fun h0_ => absurd ((hoff 11 (by kernel_rfl)).symm.trans h0_) (by decide), Q_HO346, fun h0_ => absurd ((hoff 15 (by kernel_rfl)).symm.trans h0_) (by decide), Q_X13_, fun h0_ => absurd ((hoff 14 (by kernel_rfl)).symm.trans h0_) (by decide)⟩
   refine steps_cons ?_ ?_
   ·rintro b a w' ⟨v337, v345, m13_, m14_, ha, Q_BK328, Q_BK329, Q_BK330, Q_BK331, Q_HB, Q_HO338, Q_HO346, Q_BK330_e15, Q_X13_, Q_X14_⟩ hb_ hon hoff
    refine ⟨_, rfl, fun K hK => ?_⟩
    have e30 : a.tmps[30]? = some (.agg #[.int .i64 1, .string (⟨#[106, 43]⟩ : ByteArray), .string t332, .string (⟨#[]⟩ : ByteArray)]) := by rw [ha]; exact putSel_on (e := (1, 30, .agg #[.int .i64 1, .string (⟨#[106, 43]⟩ : ByteArray), .string t332, .string (⟨#[]⟩ : ByteArray)])) 0 rfl rfl (hon 1 (by kernel_rfl)) rfl
    have e31 : a.tmps[31]? = some (.agg #[.int .i64 2, .string (⟨#[106, 43]⟩ : ByteArray), .string (⟨#[]⟩ : ByteArray), .string (⟨#[]⟩ : ByteArray)]) := by rw [ha]; exact putSel_on (e := (2, 31, .agg #[.int .i64 2, .string (⟨#[106, 43]⟩ : ByteArray), .string (⟨#[]⟩ : ByteArray), .string (⟨#[]⟩ : ByteArray)])) 1 rfl rfl (hon 2 (by kernel_rfl)) rfl
    have e35 : a.tmps[35]? = some (.agg #[.int .i64 3, .string (⟨#[106, 43]⟩ : ByteArray), .string (⟨#[]⟩ : ByteArray), .string t334]) := by rw [ha]; exact putSel_on (e := (6, 35, .agg #[.int .i64 3, .string (⟨#[106, 43]⟩ : ByteArray), .string (⟨#[]⟩ : ByteArray), .string t334])) 4 rfl rfl (hon 6 (by kernel_rfl)) rfl
    have e39 : a.tmps[39]? = some (.agg #[.int .i64 4, .string t335, .string (⟨#[]⟩ : ByteArray), .string (⟨#[]⟩ : ByteArray)]) := by rw [ha]; exact putSel_on (e := (10, 39, .agg #[.int .i64 4, .string t335, .string (⟨#[]⟩ : ByteArray), .string (⟨#[]⟩ : ByteArray)])) 7 rfl rfl (hon 10 (by kernel_rfl)) rfl
    replace ha := ak ha; have BK328 := ak Q_BK328; have BK329 := ak Q_BK329
    have BK330 := ak (Q_BK330 (hoff 15 (by kernel_rfl)))
    have BK331 := ak Q_BK331; have HB := ak Q_HB
    refine Kd.R_lit_step k57 _ 57 ?hg (N := 40) ?hd (xs := ([(⟨1, (⟨#[106, 43]⟩ : ByteArray), t332, (⟨#[]⟩ : ByteArray)⟩ : S57), (⟨2, (⟨#[106, 43]⟩ : ByteArray), (⟨#[]⟩ : ByteArray), (⟨#[]⟩ : ByteArray)⟩ : S57), (⟨3, (⟨#[106, 43]⟩ : ByteArray), (⟨#[]⟩ : ByteArray), t334⟩ : S57), (⟨4, t335, (⟨#[]⟩ : ByteArray), (⟨#[]⟩ : ByteArray)⟩ : S57)] : List (S57))) (inner := [.int .i64 1, .string (⟨#[106, 43]⟩ : ByteArray), .string t332, .string (⟨#[]⟩ : ByteArray), .int .i64 2, .string (⟨#[106, 43]⟩ : ByteArray), .string (⟨#[]⟩ : ByteArray), .string (⟨#[]⟩ : ByteArray), .int .i64 3, .string (⟨#[106, 43]⟩ : ByteArray), .string (⟨#[]⟩ : ByteArray), .string t334, .int .i64 4, .string t335, .string (⟨#[]⟩ : ByteArray), .string (⟨#[]⟩ : ByteArray)]) (ok := fun _ => True) (okp := fun _ => True) ?hr ?hp (fun _ hk => hk) trivial (Below.refl _ _) (Nat.le_refl _) (by simp) ?_; (case hd => rfl); (case hg => rfl); (case hr => first | (go_simp; done) | (go_simp; rfl)); (case hp => exact (Reps.c4 (show Kd.M k57 _ _ _ (⟨1, (⟨#[106, 43]⟩ : ByteArray), t332, (⟨#[]⟩ : ByteArray)⟩ : S57) [.int .i64 1, .string (⟨#[106, 43]⟩ : ByteArray), .string t332, .string (⟨#[]⟩ : ByteArray)] from (k57_mkM _ _ _ (⟨1, (⟨#[106, 43]⟩ : ByteArray), t332, (⟨#[]⟩ : ByteArray)⟩ : S57) )) (Reps.c4 (show Kd.M k57 _ _ _ (⟨2, (⟨#[106, 43]⟩ : ByteArray), (⟨#[]⟩ : ByteArray), (⟨#[]⟩ : ByteArray)⟩ : S57) [.int .i64 2, .string (⟨#[106, 43]⟩ : ByteArray), .string (⟨#[]⟩ : ByteArray), .string (⟨#[]⟩ : ByteArray)] from (k57_mkM _ _ _ (⟨2, (⟨#[106, 43]⟩ : ByteArray), (⟨#[]⟩ : ByteArray), (⟨#[]⟩ : ByteArray)⟩ : S57) )) (Reps.c4 (show Kd.M k57 _ _ _ (⟨3, (⟨#[106, 43]⟩ : ByteArray), (⟨#[]⟩ : ByteArray), t334⟩ : S57) [.int .i64 3, .string (⟨#[106, 43]⟩ : ByteArray), .string (⟨#[]⟩ : ByteArray), .string t334] from (k57_mkM _ _ _ (⟨3, (⟨#[106, 43]⟩ : ByteArray), (⟨#[]⟩ : ByteArray), t334⟩ : S57) )) (Reps.c4 (show Kd.M k57 _ _ _ (⟨4, t335, (⟨#[]⟩ : ByteArray), (⟨#[]⟩ : ByteArray)⟩ : S57) [.int .i64 4, .string t335, .string (⟨#[]⟩ : ByteArray), .string (⟨#[]⟩ : ByteArray)] from (k57_mkM _ _ _ (⟨4, t335, (⟨#[]⟩ : ByteArray), (⟨#[]⟩ : ByteArray)⟩ : S57) )) (Reps.none _ _))))))
    intro v337 w26 ho27 hb hg_ hnew_; clear hg_ hnew_
    (first | rw [← Ny336.out] at ho27 | (simp only [Int.reduceToNat] at ho27; rw [← Ny336.out] at ho27))
    have n0_ := ak (Kd.R_lower ho27 (below_size (bt HB))); have n1_ := bb BK328 hb; have n2_ := bb BK329 hb; have n3_ := bb BK330 hb; have n4_ := bb BK331 hb; have n5_ := ak (below_step (bt HB) hb)
    have z_HO346 := fun (h0_ : b 13 = true) => (show Kd.R k105 105 w26 w.heap.size (fun _ => True) v345 t344 from by first | exact (Kd.R_below (by (with_reducible repeat (first | apply Kd.R_alloc | apply Kd.R_drewN | apply Kd.R_drew)); exact (Q_HO346 h0_)) hb) | exact Kd.R_mono (Kd.R_below (by (with_reducible repeat (first | apply Kd.R_alloc | apply Kd.R_drewN | apply Kd.R_drew)); exact (Q_HO346 h0_)) hb) (fun _ h_ => by first | trivial | exact h_ | exact h_.1))
    clear BK328 BK329 BK330 BK331 HB; revert n0_ n1_ n2_ n3_ n4_ n5_; intro HO338 BK328 BK329 BK330 BK331 HB; clear hb ho27
    refine hK.out _ _ ⟨v337, v345, m13_, m14_, (by rw [ha.out]; exact putSel_upk 8 hb_ rfl rfl rfl), (bk BK328), (bk BK329), fun _ => (bk BK330), (bk BK331), (bt HB), fun _ => (rk HO338), z_HO346, fun h0_ => absurd ((hoff 15 (by kernel_rfl)).symm.trans h0_) (by decide), Q_X13_, fun h0_ => absurd ((hoff 14 (by kernel_rfl)).symm.trans h0_) (by decide)⟩
   refine steps_cons ?_ ?_
   ·rintro b a w' ⟨v337, v345, m13_, m14_, ha, Q_BK328, Q_BK329, Q_BK330, Q_BK331, Q_HB, Q_HO338, Q_HO346, Q_BK330_e15, Q_X13_, Q_X14_⟩ hb_ hon hoff
    refine ⟨_, rfl, fun K hK => ?_⟩
    have e7 : a.tmps[7]? = some (.pointer (some ⟨gb331, 0, none⟩)) := by rw [ha]; exact (putSel_off rfl).trans rfl
    replace ha := ak ha; have BK328 := ak Q_BK328; have BK329 := ak Q_BK329
    have BK330 := ak (Q_BK330 (hoff 15 (by kernel_rfl)))
    have BK331 := ak Q_BK331; have HB := ak Q_HB; have hc0_ : w'.cell? ⟨gb331, 0, none⟩ = some (.int .i64 (wrap64 (a0_0 + 1))) := bc BK331 0; have hc1_ : w'.cell? ⟨gb331, 1, none⟩ = some (.int .i64 a1_1) := bc BK331 1; have hc2_ : w'.cell? ⟨gb331, 2, none⟩ = some (.int .i64 a1_2) := bc BK331 2; have hc3_ : w'.cell? ⟨gb331, 3, none⟩ = some (.int .i64 a1_3) := bc BK331 3; have hc4_ : w'.cell? ⟨gb331, 4, none⟩ = some (.int .i64 a1_4) := bc BK331 4; have hc5_ : w'.cell? ⟨gb331, 5, none⟩ = some (.slice A1_5 l1_5.length c1_5) := bc BK331 5
    refine value_ (w1 := w') (v := .agg #[.int .i64 (wrap64 (a0_0 + 1)), .int .i64 a1_1, .int .i64 a1_2, .int .i64 a1_3, .int .i64 a1_4, .slice A1_5 l1_5.length c1_5]) (by rfl) rfl ?_ ?_
    ·go_simp
     (try simp only [i64_w])
     try rfl
    refine hK.out _ _ ⟨v337, v345, m13_, m14_, (by rw [ha.out]; exact putSel_upk 9 hb_ rfl rfl rfl), Q_BK328, Q_BK329, Q_BK330, Q_BK331, Q_HB, Q_HO338, fun h0_ => absurd ((hoff 13 (by kernel_rfl)).symm.trans h0_) (by decide), fun h0_ => absurd ((hoff 15 (by kernel_rfl)).symm.trans h0_) (by decide), fun h0_ => absurd ((hoff 13 (by kernel_rfl)).symm.trans h0_) (by decide), fun h0_ => absurd ((hoff 14 (by kernel_rfl)).symm.trans h0_) (by decide)⟩
   refine steps_cons ?_ ?_
   ·rintro b a w' ⟨v337, v345, m13_, m14_, ha, Q_BK328, Q_BK329, Q_BK330, Q_BK331, Q_HB, Q_HO338, Q_HO346, Q_BK330_e15, Q_X13_, Q_X14_⟩ hb_ hon hoff
    refine ⟨_, rfl, fun K hK => ?_⟩
    have e41 : a.tmps[41]? = some (.agg #[.int .i64 (wrap64 (a0_0 + 1)), .int .i64 a1_1, .int .i64 a1_2, .int .i64 a1_3, .int .i64 a1_4, .slice A1_5 l1_5.length c1_5]) := by rw [ha]; exact putSel_on (e := (12, 41, .agg #[.int .i64 (wrap64 (a0_0 + 1)), .int .i64 a1_1, .int .i64 a1_2, .int .i64 a1_3, .int .i64 a1_4, .slice A1_5 l1_5.length c1_5])) 9 rfl rfl (hon 12 (by kernel_rfl)) rfl
    replace ha := ak ha; have BK328 := ak Q_BK328; have BK329 := ak Q_BK329
    have BK330 := ak (Q_BK330 (hoff 15 (by kernel_rfl)))
    have BK331 := ak Q_BK331; have HB := ak Q_HB
    refine goes_ Tryz.func23 (by kernel_rfl) rfl #[.agg #[.int .i64 (wrap64 (a0_0 + 1)), .int .i64 a1_1, .int .i64 a1_2, .int .i64 a1_3, .int .i64 a1_4, .slice A1_5 l1_5.length c1_5]] (by rfl) rfl rfl (by first | (simp only [List.map_toArray, List.map_cons, List.map_nil, Act.eval, Array.getD_eq_getD_getElem?, Option.getD_some, e41]; done) | (simp only [List.map_toArray, List.map_cons, List.map_nil, Act.eval, Array.getD_eq_getD_getElem?, Option.getD_some, e41]; rfl)) ?_
    with_reducible refine (spec_l07Copy.calls (wrap64 (a0_0 + 1)) a1_1 a1_2 a1_3 a1_4 _ _ l1_5 t339 t340 t341 t342 t343 t344 _ ?side1 ?side2 A7.out).mono ?_
    (case side1 => exact ca HR1_5 HB)
    (case side2 => exact HC1_5.out)
    rintro e w26 ⟨v345, rfl, ho0, hb⟩; refine ⟨_, rfl, ?_⟩; have n0_ := ak (Kd.R_lower ho0 (below_size (bt HB))); have n1_ := bb BK328 hb; have n2_ := bb BK329 hb; have n3_ := bb BK330 hb; have n4_ := bb BK331 hb; have n5_ := ak (below_step (bt HB) hb)
    have z_HO338 := fun (h0_ : b 11 = true) => (show Kd.R k57 57 w26 w.heap.size (fun _ => True) v337 y336 from by first | exact (Kd.R_below (by (with_reducible repeat (first | apply Kd.R_alloc | apply Kd.R_drewN | apply Kd.R_drew)); exact (Q_HO338 h0_)) hb) | exact Kd.R_mono (Kd.R_below (by (with_reducible repeat (first | apply Kd.R_alloc | apply Kd.R_drewN | apply Kd.R_drew)); exact (Q_HO338 h0_)) hb) (fun _ h_ => by first | trivial | exact h_ | exact h_.1))
    clear BK328 BK329 BK330 BK331 HB; revert n0_ n1_ n2_ n3_ n4_ n5_; intro HO346 BK328 BK329 BK330 BK331 HB
    (try clear ho0)
    refine hK.out _ _ ⟨v337, v345, (.agg #[.int .i64 t339, .int .i64 t340, .int .i64 t341, .int .i64 t342, .int .i64 t343, v345]), m14_, (by rw [ha.out]; exact putSel_upk 10 hb_ rfl rfl rfl), (bk BK328), (bk BK329), fun _ => (bk BK330), (bk BK331), (bt HB), z_HO338, fun _ => (rk HO346), fun h0_ => absurd ((hoff 15 (by kernel_rfl)).symm.trans h0_) (by decide), fun _ => rfl, fun h0_ => absurd ((hoff 14 (by kernel_rfl)).symm.trans h0_) (by decide)⟩
   refine steps_cons ?_ ?_
   ·rintro b a w' ⟨v337, v345, m13_, m14_, ha, Q_BK328, Q_BK329, Q_BK330, Q_BK331, Q_HB, Q_HO338, Q_HO346, Q_BK330_e15, Q_X13_, Q_X14_⟩ hb_ hon hoff
    refine ⟨_, rfl, fun K hK => ?_⟩
    have e40 : a.tmps[40]? = some (v337) := by rw [ha]; exact putSel_on (e := (11, 40, v337)) 8 rfl rfl (hon 11 (by kernel_rfl)) rfl
    replace ha := ak ha; have BK328 := ak Q_BK328; have BK329 := ak Q_BK329
    have BK330 := ak (Q_BK330 (hoff 15 (by kernel_rfl)))
    have BK331 := ak Q_BK331; have HB := ak Q_HB
    have HO338 := ak (Q_HO338 (hon 11 (by kernel_rfl)))
    have HO346 := ak (Q_HO346 (hon 13 (by kernel_rfl)))
    refine value_ (w1 := w') (v := v337) (by rfl) rfl ?_ ?_
    ·go_simp
     (try simp only [i64_w])
     try rfl
    refine hK.out _ _ ⟨v337, v345, m13_, (v337), (by rw [ha.out]; exact putSel_upk 11 hb_ rfl rfl rfl), Q_BK328, Q_BK329, Q_BK330, Q_BK331, Q_HB, Q_HO338, Q_HO346, fun h0_ => absurd ((hoff 15 (by kernel_rfl)).symm.trans h0_) (by decide), Q_X13_, fun _ => rfl⟩
   refine steps_cons ?_ ?_
   ·rintro b a w' ⟨v337, v345, m13_, m14_, ha, Q_BK328, Q_BK329, Q_BK330, Q_BK331, Q_HB, Q_HO338, Q_HO346, Q_BK330_e15, Q_X13_, Q_X14_⟩ hb_ hon hoff
    refine ⟨_, rfl, fun K hK => ?_⟩
    have e5 : a.tmps[5]? = some (.pointer (some ⟨gb330, 0, none⟩)) := by rw [ha]; exact (putSel_off rfl).trans rfl
    have e42 : a.tmps[42]? = some (m13_) := by rw [ha]; exact putSel_on (e := (13, 42, m13_)) 10 rfl rfl (hon 13 (by kernel_rfl)) rfl
    rw [Q_X13_ (hon 13 (by kernel_rfl))] at e42
    replace ha := ak ha; have BK328 := ak Q_BK328; have BK329 := ak Q_BK329; have BK330 := ak (Q_BK330 hb_); have BK331 := ak Q_BK331; have HB := ak Q_HB
    have HO338 := ak (Q_HO338 (hon 11 (by kernel_rfl)))
    have HO346 := ak (Q_HO346 (hon 13 (by kernel_rfl)))
    obtain ⟨Ao34, co34, eo34⟩ := Kd.R_slice HO346.out
    (first | subst eo34 | (injection eo34 with f1_ f2_ f3_; have f4_ := f1_.symm; have f5_ := f3_.symm; clear f1_ f2_ f3_; subst f4_; subst f5_))
    have hs29 : w'.cell? ⟨gb330, 0, none⟩ = some (.int .i64 0) := bc BK330 0; have hfs29 := blk_frozen BK330.out 0; have hns29_0 := NB328_330.out; have hns29_1 := NB329_330.out; have hns29_3 := NB331_330.out; have hms29_0 := NB330_328.out; have hms29_1 := NB330_329.out; have hms29_3 := NB330_331.out; have hs30 : w'.cell? ⟨gb330, 1, none⟩ = some (.int .i64 0) := bc BK330 1; have hfs30 := blk_frozen BK330.out 1; have hns30_0 := NB328_330.out; have hns30_1 := NB329_330.out; have hns30_3 := NB331_330.out; have hms30_0 := NB330_328.out; have hms30_1 := NB330_329.out; have hms30_3 := NB330_331.out; have hs31 : w'.cell? ⟨gb330, 2, none⟩ = some (.int .i64 0) := bc BK330 2; have hfs31 := blk_frozen BK330.out 2; have hns31_0 := NB328_330.out; have hns31_1 := NB329_330.out; have hns31_3 := NB331_330.out; have hms31_0 := NB330_328.out; have hms31_1 := NB330_329.out; have hms31_3 := NB330_331.out; have hs32 : w'.cell? ⟨gb330, 3, none⟩ = some (.int .i64 0) := bc BK330 3; have hfs32 := blk_frozen BK330.out 3; have hns32_0 := NB328_330.out; have hns32_1 := NB329_330.out; have hns32_3 := NB331_330.out; have hms32_0 := NB330_328.out; have hms32_1 := NB330_329.out; have hms32_3 := NB330_331.out; have hs33 : w'.cell? ⟨gb330, 4, none⟩ = some (.int .i64 0) := bc BK330 4; have hfs33 := blk_frozen BK330.out 4; have hns33_0 := NB328_330.out; have hns33_1 := NB329_330.out; have hns33_3 := NB331_330.out; have hms33_0 := NB330_328.out; have hms33_1 := NB330_329.out; have hms33_3 := NB330_331.out; have hs35 : w'.cell? ⟨gb330, 5, none⟩ = some (.slice none 0 0) := bc BK330 5; have hfs35 := blk_frozen BK330.out 5; have hns35_0 := NB328_330.out; have hns35_1 := NB329_330.out; have hns35_3 := NB331_330.out; have hms35_0 := NB330_328.out; have hms35_1 := NB330_329.out; have hms35_3 := NB330_331.out; refine sk ?_
    refine hK.out _ _ ⟨v337, .slice Ao34 t344.length co34, m13_, m14_, (by rw [ha.out]; exact putSel_none (v := undef) rfl), (bg BK328), (bg BK329), fun h0_ => absurd ((up_self b 15).symm.trans h0_) (by decide), (bg BK331), (bt HB), fun _ => (by (with_reducible repeat (first | apply Kd.R_alloc | apply Kd.R_drewN | apply Kd.R_drew)); exact rfm HO338 BK330), fun _ => (by (with_reducible repeat (first | apply Kd.R_alloc | apply Kd.R_drewN | apply Kd.R_drew)); exact rfm HO346 BK330), fun _ => (bp BK330), Q_X13_, Q_X14_⟩
   refine steps_cons ?_ ?_
   ·rintro b a w' ⟨v337, v345, m13_, m14_, ha, Q_BK328, Q_BK329, Q_BK330, Q_BK331, Q_HB, Q_HO338, Q_HO346, Q_BK330_e15, Q_X13_, Q_X14_⟩ hb_ hon hoff
    refine ⟨_, rfl, fun K hK => ?_⟩
    replace ha := ak ha; have BK328 := ak Q_BK328; have BK329 := ak Q_BK329; have BK331 := ak Q_BK331; have HB := ak Q_HB
    have HO338 := ak (Q_HO338 (hon 11 (by kernel_rfl)))
    have HO346 := ak (Q_HO346 (hon 13 (by kernel_rfl)))
    have BK330 := ak (Q_BK330_e15 (hon 15 (by kernel_rfl)))
    refine value_ (w1 := w') (v := .bool true) (by rfl) rfl ?_ ?_
    ·go_simp
     (try simp only [i64_w])
     try rfl
    refine hK.out _ _ ⟨v337, v345, m13_, m14_, (by rw [ha.out]; exact putSel_upk 12 hb_ rfl rfl rfl), Q_BK328, Q_BK329, fun h0_ => absurd ((hon 15 (by kernel_rfl)).symm.trans h0_) (by decide), Q_BK331, Q_HB, Q_HO338, Q_HO346, Q_BK330_e15, Q_X13_, Q_X14_⟩
   exact steps_nil
  rintro b a w35 hall ⟨v337, v345, m13_, m14_, ha, Q_BK328, Q_BK329, Q_BK330, Q_BK331, Q_HB, Q_HO338, Q_HO346, Q_BK330_e15, Q_X13_, Q_X14_⟩; clear BK328 BK329 BK330 BK331 HB
  have hb1_ := hall 1 (by kernel_rfl)
  have hb2_ := hall 2 (by kernel_rfl)
  have hb4_ := hall 4 (by kernel_rfl)
  have hb5_ := hall 5 (by kernel_rfl)
  have hb6_ := hall 6 (by kernel_rfl)
  have hb8_ := hall 8 (by kernel_rfl)
  have hb9_ := hall 9 (by kernel_rfl)
  have hb10_ := hall 10 (by kernel_rfl)
  have hb11_ := hall 11 (by kernel_rfl)
  have hb12_ := hall 12 (by kernel_rfl)
  have hb13_ := hall 13 (by kernel_rfl)
  have hb14_ := hall 14 (by kernel_rfl)
  have hb15_ := hall 15 (by kernel_rfl)
  have hb16_ := hall 16 (by kernel_rfl)
  subst ha; obtain rfl := Q_X13_ hb13_; obtain rfl := Q_X14_ hb14_; simp only [putSel, hb1_, hb2_, hb4_, hb5_, hb6_, hb8_, hb9_, hb10_, hb11_, hb12_, hb13_, hb14_, hb15_, hb16_, if_true, Act.put, zA, zB, zC]; have BK328 := ak Q_BK328; clear Q_BK328; have BK329 := ak Q_BK329; clear Q_BK329; clear Q_BK330; have BK331 := ak Q_BK331; clear Q_BK331; have HB := ak Q_HB; clear Q_HB; have HO338 := ak (Q_HO338 hb11_); clear Q_HO338; have HO346 := ak (Q_HO346 hb13_); clear Q_HO346; have BK330 := ak (Q_BK330_e15 hb15_); clear Q_BK330_e15; clear hall hb1_ hb2_ hb4_ hb5_ hb6_ hb8_ hb9_ hb10_ hb11_ hb12_ hb13_ hb14_ hb15_ hb16_
  try go_wp2
  refine bodyPost_ret (results_list (rs := [.tmp 4, .cell 5 30, .tmp 6]) rfl (by simp) (.tmp (.cell gb330 30 #[.int .i64 t339, .int .i64 t340, .int .i64 t341, .int .i64 t342, .int .i64 t343, v345] (0, 0) _ rfl (bk BK330) Tryz.underlying30 rfl (by kernel_rfl) (.tmp .nil)))) rfl ?_
  exact ⟨_, _, fe, rk HO338, rk HO346, bt HB⟩
end Go.Proofs.YtdepaileabejgaaGreatDoor.PFnExactOpenJournal
