/- Walks. No condition. -/
import Derived.Test.YtdepaileabejgaaGreatDoorQFnExactOpenJournalx24
namespace Go.Proofs.YtdepaileabejgaaGreatDoor.PFnExactOpenJournal
open Go.RowKit Go.Proofs.YtdepaileabejgaaGreatDoorW.PrintWords Go.Proofs.YtdepaileabejgaaGreatDoorW.PrintLast Go.Proofs.YtdepaileabejgaaGreatDoorW.PrintMore Go.Proofs.YtdepaileabejgaaGreatDoorW.Short
attribute [local go_sem] max2_int min2_int max_two min_two max_three min_three max_four min_four
set_option maxHeartbeats 8000000
set_option maxRecDepth 100000
set_option linter.unusedVariables false
set_option linter.unusedSimpArgs false
def impl_EntryText.j0 : Nat → Int → Bool → Int → Int → ByteArray → Option (ByteArray × Bool)
 | 0, _, _, _, _, _ => none
 | k + 1, x0, x13, x652000, x652001, x652002 => if x13 = true then (some ((⟨#[]⟩ : ByteArray), false)) else ((impl_varOf.f k x0).bind fun t654 => (if 1 + t654.size ≤ 9223372036854775807 then ((impl_varOf.f k x652000).bind fun t655 => (if ((⟨#[69]⟩ : ByteArray) ++ t654).size + t655.size ≤ 9223372036854775807 then ((impl_oneByte.f k (([x652001] : List Int))).bind fun t659 => (if (((⟨#[69]⟩ : ByteArray) ++ t654) ++ t655).size + t659.size ≤ 9223372036854775807 then (if ((((⟨#[69]⟩ : ByteArray) ++ t654) ++ t655) ++ t659).size + x652002.size ≤ 9223372036854775807 then (some (((((⟨#[69]⟩ : ByteArray) ++ t654) ++ t655) ++ t659) ++ x652002, true)) else (none)) else (none))) else (none))) else (none)))
def impl_EntryText.f (k : Nat) (a0 : Int) (a1_0 : Int) (a1_1 : Int) (a1_2 : ByteArray) : Option (ByteArray × Bool) := (impl_EntryOk.f k a1_0 a1_1 a1_2).bind fun t652 => (if t652 = true then ((impl_in.f a0 1 1000000).bind fun t653 => (impl_EntryText.j0 k a0 (!t653) a1_0 a1_1 a1_2)) else (impl_EntryText.j0 k a0 true a1_0 a1_1 a1_2))
def impl_EntryText.T3 : Bool × List (List Nat × List Nat) := (true, [([], []), ([0], [0]), ([1], [1]), ([], []), ([3], [3]), ([4, 1], [4]), ([2, 5], [2, 5]), ([], []), ([7], [7]), ([8], [8]), ([9, 5], [9]), ([6, 10], [6, 10]), ([], []), ([12], [12]), ([11, 13], [11, 13]), ([14, 10, 0, 1, 2, 3, 4, 5, 6, 7, 8, 9, 10, 11, 12, 13, 14], [14]), ([15, 0, 1, 2, 3, 4, 5, 6, 7, 8, 9, 10, 11, 12, 13, 14, 15], [])])
def impl_EntryText.B3 : List Nat := [0, 1, 3, 0, 8, 27, 63, 0, 128, 384, 955, 2047, 0, 4096, 16383, 32767, 65535]
theorem impl_EntryText.tab3 : rtab .any (opsOf Tryz.f113 3) = impl_EntryText.T3 := by kernel_rfl
theorem impl_EntryText.bits3 : waitsOk impl_EntryText.T3.2 impl_EntryText.B3 = true := by kernel_rfl
theorem impl_EntryText.calls (k : Nat) (a0 : Int) (a1_0 : Int) (a1_1 : Int) (a1_2 : ByteArray) (r1 : ByteArray) (r2 : Bool) (w : World) (H : impl_EntryText.f k a0 a1_0 a1_1 a1_2 = some (r1, r2)) :
 Calls Tryz.prog 113 #[.int .i64 a0, .agg #[.int .i64 a1_0, .int .i64 a1_1, .string a1_2]] w fun e w' => e = .returned (.tuple #[.string r1, .bool r2]) ∧ Below w.heap.size w w' := by
 have hu105 := Tryz.underlying105; have HB := ak (Below.refl w.heap.size w); unfold impl_EntryText.f at H; have HC3 := ak H; clear H; go_enter Tryz.func113, Tryz.ntmps113
 go_upto_region 1 with (first | ((with_reducible refine gd 3 rfl ?_); refine bx 3 105 #[.int .i64 a1_0, .int .i64 a1_1, .string a1_2] fun gb651 hg w4 BK651 hb => ?_; have GE651 := ge_ hg HB; replace HB := bs1 HB hb; clear hb hg))
 (try simp only [Act.put, zA, zB, zC])
 go_cut [13] (fun v13 wc => ∃ (kq : Nat) (x13_2 : Bool), v13 = .bool x13_2 ∧ Aside0 (impl_EntryText.j0 kq a0 x13_2 a1_0 a1_1 a1_2 = some (r1, r2)) ∧ Aside0 (kq ≤ k) ∧ Aside0 (wc.heap[gb651]? = some (.cells #[.int .i64 a1_0, .int .i64 a1_1, .string a1_2] 105 (0, 0))) ∧ Aside0 (Below w.heap.size w wc))
 case first =>
  have H := HC3.out; clear HC3; obtain ⟨t652, A5, H⟩ := bo H; cases t652; rotate_left; rw [if_pos rfl] at H; obtain ⟨t653, A7, H⟩ := bo H; have H' := ak H; clear H; obtain ⟨_, _, _, _, _, _⟩ := bc3 BK651; rotate_left; rw [if_neg nf] at H; have H' := ak H; clear H; obtain ⟨_, _, _, _, _, _⟩ := bc3 BK651
  all_goals
   go_wp2_with (first | ((with_reducible refine gd 7 rfl ?_); refine gc 7 Tryz.func89 (impl_EntryOk.calls k a1_0 a1_1 a1_2 _ _ A5.out) fun w9 hb => ?_; replace BK651 := bb BK651 hb; replace HB := bs1 HB hb) | (go_at_call 54; (with_reducible refine (impl_in.calls a0 1 1000000 t653 _ A7.out).mono ?_); rintro e w' ⟨rfl, ⟨nd, rfl⟩⟩))
  ·go_meet
   case rel => exact ⟨_, (true), fr, H', ⟨by first | omega | exact Nat.le_refl _⟩, ⟨bk BK651⟩, ⟨bt HB⟩⟩
  ·go_meet
   case rel => exact ⟨_, (!t653), fr, H', ⟨by first | omega | exact Nat.le_refl _⟩, ⟨bk BK651⟩, ⟨bt HB⟩⟩
 case rest =>
  clear HC3; obtain ⟨kq, x13_2, rfl, HA, HJ2, BK651, HB⟩ := hcut
  cases kq with
  | zero => exact absurd HA.out (by simp [impl_EntryText.j0])
  | succ kj2 =>
   have H := HA.out; clear HA; simp only [impl_EntryText.j0] at H; cases x13_2; rotate_left
   ·rw [if_pos rfl] at H; obtain ⟨rfl, rfl⟩ := o2 H; go_wp2; go_ret2; exact ⟨fe, bt HB⟩
   ·rw [if_neg nf] at H; obtain ⟨t654, A13, H⟩ := bo H; obtain ⟨c14, H⟩ := ifs H; have c14b0 := eq_true c14; have c14b1 := dt c14
    try have c14b2 : (9223372036854775807 < 1 + t654.size) = False := eq_false (Nat.not_lt.2 c14)
    obtain ⟨t655, A15, H⟩ := bo H; obtain ⟨c16, H⟩ := ifs H; have c16b0 := eq_true c16; have c16b1 := dt c16
    try have c16b1y : decide (1 + t654.size + t655.size ≤ 9223372036854775807) = true := by have h_ := c16b1; simp only [ByteArray.size_append, Int.natCast_add] at h_; exact h_
    try have c16b2 : (9223372036854775807 < ((⟨#[69]⟩ : ByteArray) ++ t654).size + t655.size) = False := eq_false (Nat.not_lt.2 c16)
    try have c16b2z : (9223372036854775807 < 1 + t654.size + t655.size) = False := eq_false (by have h_ : ¬ (9223372036854775807 < ((⟨#[69]⟩ : ByteArray) ++ t654).size + t655.size) := of_eq_false c16b2; simp only [ByteArray.size_append] at h_; exact h_)
    obtain ⟨y656, hy656⟩ : ∃ y_ : List Int, y_ = (([a1_1] : List Int)) := ⟨_, rfl⟩
    first | replace H := bs hy656 H | rw [← hy656] at H
    have Ny656 := ak hy656; clear hy656; obtain ⟨t659, A17, H⟩ := bo H; obtain ⟨c18, H⟩ := ifs H; have c18b0 := eq_true c18; have c18b1 := dt c18
    try have c18b1y : decide (1 + t654.size + t655.size + t659.size ≤ 9223372036854775807) = true := by have h_ := c18b1; simp only [ByteArray.size_append, Int.natCast_add] at h_; exact h_
    try have c18b2 : (9223372036854775807 < (((⟨#[69]⟩ : ByteArray) ++ t654) ++ t655).size + t659.size) = False := eq_false (Nat.not_lt.2 c18)
    try have c18b2z : (9223372036854775807 < 1 + t654.size + t655.size + t659.size) = False := eq_false (by have h_ : ¬ (9223372036854775807 < (((⟨#[69]⟩ : ByteArray) ++ t654) ++ t655).size + t659.size) := of_eq_false c18b2; simp only [ByteArray.size_append] at h_; exact h_)
    obtain ⟨c19, H⟩ := ifs H; have c19b0 := eq_true c19; have c19b1 := dt c19
    try have c19b1y : decide (1 + t654.size + t655.size + t659.size + a1_2.size ≤ 9223372036854775807) = true := by have h_ := c19b1; simp only [ByteArray.size_append, Int.natCast_add] at h_; exact h_
    try have c19b2 : (9223372036854775807 < ((((⟨#[69]⟩ : ByteArray) ++ t654) ++ t655) ++ t659).size + a1_2.size) = False := eq_false (Nat.not_lt.2 c19)
    try have c19b2z : (9223372036854775807 < 1 + t654.size + t655.size + t659.size + a1_2.size) = False := eq_false (by have h_ : ¬ (9223372036854775807 < ((((⟨#[69]⟩ : ByteArray) ++ t654) ++ t655) ++ t659).size + a1_2.size) := of_eq_false c19b2; simp only [ByteArray.size_append] at h_; exact h_)
    obtain ⟨rfl, rfl⟩ := o2 H
    try go_wp2
    replace BK651 := ak (blk_drew BK651.out); replace HB := ak (below_drew1 HB.out)
    refine st 17 (fun w' => True) impl_EntryText.tab3 impl_EntryText.bits3 trivial fun hHeld HT_ HW_ => ?_
    generalize wc.drew = w20 at BK651 HB hHeld ⊢
    refine pu HT_ 0 14 ?_; refine pu HT_ 3 17 ?_; refine pu HT_ 7 21 ?_; refine pu HT_ 12 26 ?_
    refine inv_at [1, 2, 4, 5, 6, 8, 9, 10, 11, 13, 14, 15, 16] (fun a0_ b a w' => ∃ (v657 : Value), a = putSel a0_ b [(1, 15, .string t654), (2, 16, .string ((⟨#[69]⟩ : ByteArray) ++ t654)), (4, 18, .int .i64 a1_0), (5, 19, .string t655), (6, 20, .string (((⟨#[69]⟩ : ByteArray) ++ t654) ++ t655)), (8, 22, .int .i64 a1_1), (9, 23, v657), (10, 24, .string t659), (11, 25, .string ((((⟨#[69]⟩ : ByteArray) ++ t654) ++ t655) ++ t659)), (13, 27, .string a1_2), (14, 28, .string (((((⟨#[69]⟩ : ByteArray) ++ t654) ++ t655) ++ t659) ++ a1_2)), (15, 4, .string (((((⟨#[69]⟩ : ByteArray) ++ t654) ++ t655) ++ t659) ++ a1_2)), (16, 5, .bool true)] ∧ (w'.heap[gb651]? = some (.cells #[.int .i64 a1_0, .int .i64 a1_1, .string a1_2] 105 (0, 0))) ∧ (Below w.heap.size w w') ∧ (b 9 = true → Kd.R (Kd.int .i64) 3 w' w.heap.size (fun _ => True) v657 y656)) HT_.out HW_.out (by kernel_rfl) (by kernel_rfl) ?_ ?_ ?_
    ·exact ⟨.bool false, by simp only [putSel, Bool.false_eq_true, if_false], BK651.out, HB.out, fun h_ => absurd h_ (by decide)⟩
    ·skip
     clear BK651 HB; refine steps_cons ?_ ?_
     ·rintro b a w' ⟨v657, ha, Q_BK651, Q_HB, Q_HO658⟩ hb_ hon hoff
      refine ⟨_, rfl, fun K hK => ?_⟩
      have e14 : a.tmps[14]? = some (.int .i64 a0) := by rw [ha]; exact (putSel_off rfl).trans rfl
      replace ha := ak ha; have BK651 := ak Q_BK651; have HB := ak Q_HB
      refine goes_ Tryz.func95 (by kernel_rfl) rfl #[.int .i64 a0] (by rfl) rfl rfl (by first | (simp only [List.map_toArray, List.map_cons, List.map_nil, Act.eval, Array.getD_eq_getD_getElem?, Option.getD_some, e14]; done) | (simp only [List.map_toArray, List.map_cons, List.map_nil, Act.eval, Array.getD_eq_getD_getElem?, Option.getD_some, e14]; rfl)) ?_
      with_reducible refine (impl_varOf.calls kj2 a0 t654 _ A13.out).mono ?_; rintro e w21 ⟨rfl, hb⟩; refine ⟨_, rfl, ?_⟩; have n0_ := bb BK651 hb; have n1_ := ak (below_step (bt HB) hb)
      have z_HO658 := fun (h0_ : b 9 = true) => (show Kd.R (Kd.int .i64) 3 w21 w.heap.size (fun _ => True) v657 y656 from by first | exact (Kd.R_below (by (with_reducible repeat (first | apply Kd.R_alloc | apply Kd.R_drewN | apply Kd.R_drew)); exact (Q_HO658 h0_)) hb) | exact Kd.R_mono (Kd.R_below (by (with_reducible repeat (first | apply Kd.R_alloc | apply Kd.R_drewN | apply Kd.R_drew)); exact (Q_HO658 h0_)) hb) (fun _ h_ => by first | trivial | exact h_ | exact h_.1))
      clear BK651 HB; revert n0_ n1_; intro BK651 HB
      refine hK.out _ _ ⟨v657, (by rw [ha.out]; exact putSel_upk 0 hb_ rfl rfl rfl), (bk BK651), (bt HB), z_HO658⟩
     refine steps_cons ?_ ?_
     ·rintro b a w' ⟨v657, ha, Q_BK651, Q_HB, Q_HO658⟩ hb_ hon hoff
      refine ⟨_, rfl, fun K hK => ?_⟩
      have e15 : a.tmps[15]? = some (.string t654) := by rw [ha]; exact putSel_on (e := (1, 15, .string t654)) 0 rfl rfl (hon 1 (by kernel_rfl)) rfl
      replace ha := ak ha; have BK651 := ak Q_BK651; have HB := ak Q_HB
      refine value_ (w1 := w') (v := .string ((⟨#[69]⟩ : ByteArray) ++ t654)) (by rfl) rfl ?_ ?_
      ·go_simp
       (try simp only [i64_w])
       try rfl
      refine hK.out _ _ ⟨v657, (by rw [ha.out]; exact putSel_upk 1 hb_ rfl rfl rfl), Q_BK651, Q_HB, Q_HO658⟩
     refine steps_cons ?_ ?_
     ·rintro b a w' ⟨v657, ha, Q_BK651, Q_HB, Q_HO658⟩ hb_ hon hoff
      refine ⟨_, rfl, fun K hK => ?_⟩
      have e17 : a.tmps[17]? = some (.pointer (some ⟨gb651, 0, none⟩)) := by rw [ha]; exact (putSel_off rfl).trans rfl
      replace ha := ak ha; have BK651 := ak Q_BK651; have HB := ak Q_HB; have hc0_ : w'.cell? ⟨gb651, 0, none⟩ = some (.int .i64 a1_0) := bc BK651 0; have hc1_ : w'.cell? ⟨gb651, 1, none⟩ = some (.int .i64 a1_1) := bc BK651 1; have hc2_ : w'.cell? ⟨gb651, 2, none⟩ = some (.string a1_2) := bc BK651 2
      refine value_ (w1 := w') (v := .int .i64 a1_0) (by rfl) rfl ?_ ?_
      ·go_simp
       (try simp only [i64_w])
       try rfl
      refine hK.out _ _ ⟨v657, (by rw [ha.out]; exact putSel_upk 2 hb_ rfl rfl rfl), Q_BK651, Q_HB, Q_HO658⟩
     refine steps_cons ?_ ?_
     ·rintro b a w' ⟨v657, ha, Q_BK651, Q_HB, Q_HO658⟩ hb_ hon hoff
      refine ⟨_, rfl, fun K hK => ?_⟩
      have e18 : a.tmps[18]? = some (.int .i64 a1_0) := by rw [ha]; exact putSel_on (e := (4, 18, .int .i64 a1_0)) 2 rfl rfl (hon 4 (by kernel_rfl)) rfl
      replace ha := ak ha; have BK651 := ak Q_BK651; have HB := ak Q_HB
      refine goes_ Tryz.func95 (by kernel_rfl) rfl #[.int .i64 a1_0] (by rfl) rfl rfl (by first | (simp only [List.map_toArray, List.map_cons, List.map_nil, Act.eval, Array.getD_eq_getD_getElem?, Option.getD_some, e18]; done) | (simp only [List.map_toArray, List.map_cons, List.map_nil, Act.eval, Array.getD_eq_getD_getElem?, Option.getD_some, e18]; rfl)) ?_
      with_reducible refine (impl_varOf.calls kj2 a1_0 t655 _ A15.out).mono ?_; rintro e w23 ⟨rfl, hb⟩; refine ⟨_, rfl, ?_⟩; have n0_ := bb BK651 hb; have n1_ := ak (below_step (bt HB) hb)
      have z_HO658 := fun (h0_ : b 9 = true) => (show Kd.R (Kd.int .i64) 3 w23 w.heap.size (fun _ => True) v657 y656 from by first | exact (Kd.R_below (by (with_reducible repeat (first | apply Kd.R_alloc | apply Kd.R_drewN | apply Kd.R_drew)); exact (Q_HO658 h0_)) hb) | exact Kd.R_mono (Kd.R_below (by (with_reducible repeat (first | apply Kd.R_alloc | apply Kd.R_drewN | apply Kd.R_drew)); exact (Q_HO658 h0_)) hb) (fun _ h_ => by first | trivial | exact h_ | exact h_.1))
      clear BK651 HB; revert n0_ n1_; intro BK651 HB
      refine hK.out _ _ ⟨v657, (by rw [ha.out]; exact putSel_upk 3 hb_ rfl rfl rfl), (bk BK651), (bt HB), z_HO658⟩
     refine steps_cons ?_ ?_
     ·rintro b a w' ⟨v657, ha, Q_BK651, Q_HB, Q_HO658⟩ hb_ hon hoff
      refine ⟨_, rfl, fun K hK => ?_⟩
      have e16 : a.tmps[16]? = some (.string ((⟨#[69]⟩ : ByteArray) ++ t654)) := by rw [ha]; exact putSel_on (e := (2, 16, .string ((⟨#[69]⟩ : ByteArray) ++ t654))) 1 rfl rfl (hon 2 (by kernel_rfl)) rfl
      have e19 : a.tmps[19]? = some (.string t655) := by rw [ha]; exact putSel_on (e := (5, 19, .string t655)) 3 rfl rfl (hon 5 (by kernel_rfl)) rfl
      replace ha := ak ha; have BK651 := ak Q_BK651; have HB := ak Q_HB
      refine value_ (w1 := w') (v := .string (((⟨#[69]⟩ : ByteArray) ++ t654) ++ t655)) (by rfl) rfl ?_ ?_
      ·go_simp
       (try simp only [i64_w])
       try rfl
      refine hK.out _ _ ⟨v657, (by rw [ha.out]; exact putSel_upk 4 hb_ rfl rfl rfl), Q_BK651, Q_HB, Q_HO658⟩
     refine steps_cons ?_ ?_
     ·rintro b a w' ⟨v657, ha, Q_BK651, Q_HB, Q_HO658⟩ hb_ hon hoff
      refine ⟨_, rfl, fun K hK => ?_⟩
      have e21 : a.tmps[21]? = some (.pointer (some ⟨gb651, 1, none⟩)) := by rw [ha]; exact (putSel_off rfl).trans rfl
      replace ha := ak ha; have BK651 := ak Q_BK651; have HB := ak Q_HB; have hc0_ : w'.cell? ⟨gb651, 0, none⟩ = some (.int .i64 a1_0) := bc BK651 0; have hc1_ : w'.cell? ⟨gb651, 1, none⟩ = some (.int .i64 a1_1) := bc BK651 1; have hc2_ : w'.cell? ⟨gb651, 2, none⟩ = some (.string a1_2) := bc BK651 2
      refine value_ (w1 := w') (v := .int .i64 a1_1) (by rfl) rfl ?_ ?_
      ·go_simp
       (try simp only [i64_w])
       try rfl
      refine hK.out _ _ ⟨v657, (by rw [ha.out]; exact putSel_upk 5 hb_ rfl rfl rfl), Q_BK651, Q_HB, fun h0_ => absurd ((hoff 9 (by kernel_rfl)).symm.trans h0_) (by decide)⟩
     refine steps_cons ?_ ?_
     ·rintro b a w' ⟨v657, ha, Q_BK651, Q_HB, Q_HO658⟩ hb_ hon hoff
      refine ⟨_, rfl, fun K hK => ?_⟩
      have e22 : a.tmps[22]? = some (.int .i64 a1_1) := by rw [ha]; exact putSel_on (e := (8, 22, .int .i64 a1_1)) 5 rfl rfl (hon 8 (by kernel_rfl)) rfl
      replace ha := ak ha; have BK651 := ak Q_BK651; have HB := ak Q_HB
      refine Kd.R_lit_step (Kd.int .i64) _ 3 ?hg (N := 23) ?hd (xs := ([a1_1] : List Int)) (inner := [.int .i64 a1_1]) (ok := fun _ => True) (okp := fun _ => True) ?hr ?hp (fun _ hk => hk) trivial (Below.refl _ _) (Nat.le_refl _) (by simp) ?_; (case hd => rfl); (case hg => rfl); (case hr => first | (go_simp; done) | (go_simp; rfl)); (case hp => exact (Reps.one (show Kd.M (Kd.int .i64) _ _ _ a1_1 [.int .i64 a1_1] from rfl) (Reps.none _ _)))
      intro v657 w21 ho22 hb hg_ hnew_; clear hg_ hnew_
      (first | rw [← Ny656.out] at ho22 | (simp only [Int.reduceToNat] at ho22; rw [← Ny656.out] at ho22))
      have HO658 := ak (Kd.R_lower ho22 (below_size (bt HB))); replace BK651 := bb BK651 hb; replace HB := bs1 HB hb; clear hb ho22
      refine hK.out _ _ ⟨v657, (by rw [ha.out]; exact putSel_upk 6 hb_ rfl rfl rfl), (bk BK651), (bt HB), fun _ => (rk HO658)⟩
     refine steps_cons ?_ ?_
     ·rintro b a w' ⟨v657, ha, Q_BK651, Q_HB, Q_HO658⟩ hb_ hon hoff
      refine ⟨_, rfl, fun K hK => ?_⟩
      have e23 : a.tmps[23]? = some (v657) := by rw [ha]; exact putSel_on (e := (9, 23, v657)) 6 rfl rfl (hon 9 (by kernel_rfl)) rfl
      replace ha := ak ha; have BK651 := ak Q_BK651; have HB := ak Q_HB
      have HO658 := ak (Q_HO658 (hon 9 (by kernel_rfl)))
      obtain ⟨Ao26, co26, eo26⟩ := Kd.R_slice HO658.out
      (first | subst eo26 | (injection eo26 with f1_ f2_ f3_; have f4_ := f1_.symm; have f5_ := f3_.symm; clear f1_ f2_ f3_; subst f4_; subst f5_))
      refine goes_ Tryz.func121 (by kernel_rfl) rfl #[.slice Ao26 y656.length co26] (by rfl) rfl rfl (by first | (simp only [List.map_toArray, List.map_cons, List.map_nil, Act.eval, Array.getD_eq_getD_getElem?, Option.getD_some, e23]; done) | (simp only [List.map_toArray, List.map_cons, List.map_nil, Act.eval, Array.getD_eq_getD_getElem?, Option.getD_some, e23]; rfl)) ?_
      with_reducible refine (impl_oneByte.calls kj2 _ _ y656 t659 _ ?side1 ?side2 A17.out).mono ?_
      (case side1 => exact cr HO658)
      (case side2 => exact (Kd.R_reads' HO658.out).2.1)
      rintro e w27 ⟨rfl, hb⟩; refine ⟨_, rfl, ?_⟩; replace HO658 := rb HO658 hb; replace BK651 := bb BK651 hb; replace HB := bs1 HB hb
      refine hK.out _ _ ⟨.slice Ao26 y656.length co26, (by rw [ha.out]; exact putSel_upk 7 hb_ rfl rfl rfl), (bk BK651), (bt HB), fun _ => (rk HO658)⟩
     refine steps_cons ?_ ?_
     ·rintro b a w' ⟨v657, ha, Q_BK651, Q_HB, Q_HO658⟩ hb_ hon hoff
      refine ⟨_, rfl, fun K hK => ?_⟩
      have e20 : a.tmps[20]? = some (.string (((⟨#[69]⟩ : ByteArray) ++ t654) ++ t655)) := by rw [ha]; exact putSel_on (e := (6, 20, .string (((⟨#[69]⟩ : ByteArray) ++ t654) ++ t655))) 4 rfl rfl (hon 6 (by kernel_rfl)) rfl
      have e24 : a.tmps[24]? = some (.string t659) := by rw [ha]; exact putSel_on (e := (10, 24, .string t659)) 7 rfl rfl (hon 10 (by kernel_rfl)) rfl
      replace ha := ak ha; have BK651 := ak Q_BK651; have HB := ak Q_HB
      have HO658 := ak (Q_HO658 (hon 9 (by kernel_rfl)))
      refine value_ (w1 := w') (v := .string ((((⟨#[69]⟩ : ByteArray) ++ t654) ++ t655) ++ t659)) (by rfl) rfl ?_ ?_
      ·go_simp
       (try simp only [i64_w])
       try rfl
      refine hK.out _ _ ⟨v657, (by rw [ha.out]; exact putSel_upk 8 hb_ rfl rfl rfl), Q_BK651, Q_HB, Q_HO658⟩
     refine steps_cons ?_ ?_
     ·rintro b a w' ⟨v657, ha, Q_BK651, Q_HB, Q_HO658⟩ hb_ hon hoff
      refine ⟨_, rfl, fun K hK => ?_⟩
      have e26 : a.tmps[26]? = some (.pointer (some ⟨gb651, 2, none⟩)) := by rw [ha]; exact (putSel_off rfl).trans rfl
      replace ha := ak ha; have BK651 := ak Q_BK651; have HB := ak Q_HB; have hc0_ : w'.cell? ⟨gb651, 0, none⟩ = some (.int .i64 a1_0) := bc BK651 0; have hc1_ : w'.cell? ⟨gb651, 1, none⟩ = some (.int .i64 a1_1) := bc BK651 1; have hc2_ : w'.cell? ⟨gb651, 2, none⟩ = some (.string a1_2) := bc BK651 2
      refine value_ (w1 := w') (v := .string a1_2) (by rfl) rfl ?_ ?_
      ·go_simp
       (try simp only [i64_w])
       try rfl
      refine hK.out _ _ ⟨v657, (by rw [ha.out]; exact putSel_upk 9 hb_ rfl rfl rfl), Q_BK651, Q_HB, Q_HO658⟩
     refine steps_cons ?_ ?_
     ·rintro b a w' ⟨v657, ha, Q_BK651, Q_HB, Q_HO658⟩ hb_ hon hoff
      refine ⟨_, rfl, fun K hK => ?_⟩
      have e25 : a.tmps[25]? = some (.string ((((⟨#[69]⟩ : ByteArray) ++ t654) ++ t655) ++ t659)) := by rw [ha]; exact putSel_on (e := (11, 25, .string ((((⟨#[69]⟩ : ByteArray) ++ t654) ++ t655) ++ t659))) 8 rfl rfl (hon 11 (by kernel_rfl)) rfl
      have e27 : a.tmps[27]? = some (.string a1_2) := by rw [ha]; exact putSel_on (e := (13, 27, .string a1_2)) 9 rfl rfl (hon 13 (by kernel_rfl)) rfl
      replace ha := ak ha; have BK651 := ak Q_BK651; have HB := ak Q_HB
      have HO658 := ak (Q_HO658 (hon 9 (by kernel_rfl)))
      refine value_ (w1 := w') (v := .string (((((⟨#[69]⟩ : ByteArray) ++ t654) ++ t655) ++ t659) ++ a1_2)) (by rfl) rfl ?_ ?_
      ·go_simp
       (try simp only [i64_w])
       try rfl
      refine hK.out _ _ ⟨v657, (by rw [ha.out]; exact putSel_upk 10 hb_ rfl rfl rfl), Q_BK651, Q_HB, Q_HO658⟩
     refine steps_cons ?_ ?_
     ·rintro b a w' ⟨v657, ha, Q_BK651, Q_HB, Q_HO658⟩ hb_ hon hoff
      refine ⟨_, rfl, fun K hK => ?_⟩
      have e28 : a.tmps[28]? = some (.string (((((⟨#[69]⟩ : ByteArray) ++ t654) ++ t655) ++ t659) ++ a1_2)) := by rw [ha]; exact putSel_on (e := (14, 28, .string (((((⟨#[69]⟩ : ByteArray) ++ t654) ++ t655) ++ t659) ++ a1_2))) 10 rfl rfl (hon 14 (by kernel_rfl)) rfl
      replace ha := ak ha; have BK651 := ak Q_BK651; have HB := ak Q_HB
      have HO658 := ak (Q_HO658 (hon 9 (by kernel_rfl)))
      refine value_ (w1 := w') (v := .string (((((⟨#[69]⟩ : ByteArray) ++ t654) ++ t655) ++ t659) ++ a1_2)) (by rfl) rfl ?_ ?_
      ·go_simp
       (try simp only [i64_w])
       try rfl
      refine hK.out _ _ ⟨v657, (by rw [ha.out]; exact putSel_upk 11 hb_ rfl rfl rfl), Q_BK651, Q_HB, Q_HO658⟩
     refine steps_cons ?_ ?_
     ·rintro b a w' ⟨v657, ha, Q_BK651, Q_HB, Q_HO658⟩ hb_ hon hoff
      refine ⟨_, rfl, fun K hK => ?_⟩
      replace ha := ak ha; have BK651 := ak Q_BK651; have HB := ak Q_HB
      have HO658 := ak (Q_HO658 (hon 9 (by kernel_rfl)))
      refine value_ (w1 := w') (v := .bool true) (by rfl) rfl ?_ ?_
      ·go_simp
       (try simp only [i64_w])
       try rfl
      refine hK.out _ _ ⟨v657, (by rw [ha.out]; exact putSel_upk 12 hb_ rfl rfl rfl), Q_BK651, Q_HB, Q_HO658⟩
     exact steps_nil
    rintro b a w27 hall ⟨v657, ha, Q_BK651, Q_HB, Q_HO658⟩; clear BK651 HB
    have hb1_ := hall 1 (by kernel_rfl)
    have hb2_ := hall 2 (by kernel_rfl)
    have hb4_ := hall 4 (by kernel_rfl)
    have hb5_ := hall 5 (by kernel_rfl)
    have hb6_ := hall 6 (by kernel_rfl)
    have hb8_ := hall 8 (by kernel_rfl)
    have hb9_ := hall 9 (by kernel_rfl)
    have hb10_ := hall 10 (by kernel_rfl)
    have hb11_ := hall 11 (by kernel_rfl)
    have hb13_ := hall 13 (by kernel_rfl)
    have hb14_ := hall 14 (by kernel_rfl)
    have hb15_ := hall 15 (by kernel_rfl)
    have hb16_ := hall 16 (by kernel_rfl)
    subst ha; simp only [putSel, hb1_, hb2_, hb4_, hb5_, hb6_, hb8_, hb9_, hb10_, hb11_, hb13_, hb14_, hb15_, hb16_, if_true, Act.put, zA, zB, zC]; have BK651 := ak Q_BK651; clear Q_BK651; have HB := ak Q_HB; clear Q_HB; have HO658 := ak (Q_HO658 hb9_); clear Q_HO658; clear hall hb1_ hb2_ hb4_ hb5_ hb6_ hb8_ hb9_ hb10_ hb11_ hb13_ hb14_ hb15_ hb16_
    try go_wp2
    go_ret2; exact ⟨fe, bt HB⟩
def impl_entryFrames.l0 : Nat → ByteArray → Int → Int → Int → List (S105) → Option (ByteArray)
 | 0, _, _, _, _, _ => none
 | k + 1, x5, x6, x661000, x661001, x661002 => if x6 < (x661002.length : Int) then (if 0 ≤ x6 then ((impl_EntryText.f k (wrap64 ((wrap64 (x661000 + x6)) + 1)) ((rd_T105 x661002 x6).f0) ((rd_T105 x661002 x6).f1) ((rd_T105 x661002 x6).f2)).bind fun bt662 => ((impl_framed.f k bt662.1).bind fun t664 => (if x5.size + t664.size ≤ 9223372036854775807 then (impl_entryFrames.l0 k (x5 ++ t664) (wrap64 (x6 + 1)) x661000 x661001 x661002) else (none)))) else (none)) else (some x5)
def impl_entryFrames.f (k : Nat) (a0_0 : Int) (a0_1 : Int) (l0_2 : List (S105)) (a1 : Int) : Option (ByteArray) := impl_entryFrames.l0 k (⟨#[]⟩ : ByteArray) a1 a0_0 a0_1 l0_2
def impl_entryFrames.T5 : Bool × List (List Nat × List Nat) := (true, [([], []), ([0], [0]), ([], []), ([1, 2], [1, 2]), ([3], [3]), ([], []), ([5], [5]), ([], []), ([6, 7], [6, 7]), ([8], [8]), ([4, 9], [4, 9]), ([10], [10]), ([11], [11]), ([11], [11]), ([12, 10, 0, 1, 2, 3, 4, 5, 6, 7, 8, 9, 10, 11, 12], [12]), ([13, 14, 0, 1, 2, 3, 4, 5, 6, 7, 8, 9, 10, 11, 12, 13, 14], [13])])
def impl_entryFrames.B5 : List Nat := [0, 1, 0, 7, 15, 0, 32, 0, 224, 480, 1023, 2047, 4095, 4095, 8191, 32767]
theorem impl_entryFrames.tab5 : rtab .any (opsOf Tryz.f97 5) = impl_entryFrames.T5 := by kernel_rfl
theorem impl_entryFrames.bits5 : waitsOk impl_entryFrames.T5.2 impl_entryFrames.B5 = true := by kernel_rfl
theorem impl_entryFrames.calls (k : Nat) (a0_0 : Int) (a0_1 : Int) (A0_2 : Option Addr) (c0_2 : Nat) (l0_2 : List (S105)) (a1 : Int) (r : ByteArray) (w : World) (hr0_2 : Kd.C k105 w A0_2 l0_2.length l0_2) (hc0_2 : l0_2.length ≤ c0_2) (H : impl_entryFrames.f k a0_0 a0_1 l0_2 a1 = some r) :
 Calls Tryz.prog 97 #[.agg #[.int .i64 a0_0, .int .i64 a0_1, .slice A0_2 l0_2.length c0_2], .int .i64 a1] w fun e w' => e = .returned (.string r) ∧ Below w.heap.size w w' := by
 have hu28 := Tryz.underlying28; have hu105 := Tryz.underlying105; have HR0_2 := ak hr0_2; have HC0_2 := ak hc0_2; clear hr0_2 hc0_2; have HB := ak (Below.refl w.heap.size w); unfold impl_entryFrames.f at H; have H' := ak H; clear H; go_enter Tryz.func97, Tryz.ntmps97
 go_wp2_with (first | ((with_reducible refine gd 2 rfl ?_); refine bx 2 28 #[.int .i64 a0_0, .int .i64 a0_1, .slice A0_2 l0_2.length c0_2] fun gb660 hg w3 BK660 hb => ?_; have GE660 := ge_ hg HB; replace HB := bs1 HB hb; clear hb hg))
 go_loopg [5, 6] k (fun kq v5 v6 w' => ∃ (x5_1 : ByteArray) (x6_1 : Int), v5 = .string x5_1 ∧ v6 = .int .i64 x6_1 ∧ Aside0 (impl_entryFrames.l0 kq x5_1 x6_1 a0_0 a0_1 l0_2 = some r) ∧ Aside0 (kq ≤ k) ∧ Aside0 (w'.heap[gb660]? = some (.cells #[.int .i64 a0_0, .int .i64 a0_1, (.slice A0_2 l0_2.length c0_2)] 28 (0, 0))) ∧ Aside0 (Below w.heap.size w w'))
 case atStart => exact ⟨((⟨#[]⟩ : ByteArray)), (a1), fr, fr, H', ⟨Nat.le_refl _⟩, ⟨bk BK660⟩, ⟨bt HB⟩⟩
 case round =>
  clear H'; obtain ⟨x5_1, x6_1, rfl, rfl, HA, HK1, BK660, HB⟩ := hrel
  cases gk with
  | zero => exact absurd HA.out (by simp [impl_entryFrames.l0])
  | succ k1 =>
   have H := HA.out; clear HA; simp only [impl_entryFrames.l0] at H; revert H
   refine si (fun c4 H => ?_) fun c4 H => ?_
   ·have c4b0 := dt c4; clear c4; obtain ⟨c5, H⟩ := ifs H; have c5b0 := dt c5; clear c5; obtain ⟨⟨t662, t663⟩, A6, H⟩ := bo H
    try dsimp only at H
    obtain ⟨t664, A7, H⟩ := bo H; obtain ⟨c8, H⟩ := ifs H; have c8b0 := eq_true c8; have c8b1 := dt c8
    try have c8b2 : (9223372036854775807 < x5_1.size + t664.size) = False := eq_false (Nat.not_lt.2 c8)
    have H' := ak H; clear H; obtain ⟨_, _, _, _, _, _⟩ := bc3 BK660
    try go_wp2
    replace BK660 := ak (blk_drew BK660.out); replace HB := ak (below_drew1 HB.out); have p661 : 0 ≤ (x6_1 : Int) := da; have q661 : x6_1 < (l0_2.length : Int) := da; obtain ⟨ad661, e661, hx661_0, hx661_1, hx661_2⟩ := at_T105 HR0_2.out x6_1 p661 q661; have hw661_2 := hx661_2; have hw661_1 := hx661_1; have hw661_0 := hx661_0; cases e661; replace hx661_0 := xb HB hx661_0; replace hx661_1 := xb HB hx661_1; replace hx661_2 := xb HB hx661_2; replace p661 := eq_true p661; replace q661 := eq_true q661
    refine st 16 (fun w' => c3 w' gb660 (.int .i64 a0_0) (.int .i64 a0_1) (.slice (some ad661) l0_2.length c0_2) (w'.cell? (ad661.add ((x6_1).toNat * 3)) = some (.int .i64 ((rd_T105 l0_2 x6_1).f0)) ∧ w'.cell? ⟨(ad661.add ((x6_1).toNat * 3)).block, (ad661.add ((x6_1).toNat * 3)).off + 1, none⟩ = some (.int .i64 ((rd_T105 l0_2 x6_1).f1)) ∧ w'.cell? ⟨(ad661.add ((x6_1).toNat * 3)).block, (ad661.add ((x6_1).toNat * 3)).off + 2, none⟩ = some (.string ((rd_T105 l0_2 x6_1).f2)))) impl_entryFrames.tab5 impl_entryFrames.bits5 ⟨bc BK660 0, bc BK660 1, bc BK660 2, xc HB hw661_0, xc HB hw661_1, xc HB hw661_2⟩ fun hHeld HT_ HW_ => ?_
    generalize wr.drew = w10 at BK660 HB hx661_0 hx661_1 hx661_2 hHeld ⊢
    refine pu HT_ 0 18 ?_; refine pu HT_ 2 20 ?_; refine pu HT_ 5 23 ?_; refine pu HT_ 7 25 ?_; refine tk HT_ HW_ hHeld 1 19 ?_; refine pu HT_ 3 21 ?_; refine pu HT_ 4 22 ?_; refine tk HT_ HW_ hHeld 6 24 ?_; refine pu HT_ 8 26 ?_; refine tk HT_ HW_ hHeld 9 27 ?_
    refine on HT_ 10 28 fun K hK => ?_
    refine gq Tryz.func113 (impl_EntryText.calls k1 (wrap64 ((wrap64 (a0_0 + x6_1)) + 1)) ((rd_T105 l0_2 x6_1).f0) ((rd_T105 l0_2 x6_1).f1) ((rd_T105 l0_2 x6_1).f2) t662 t663 _ A6.out) fun w11 hb => ?_; replace BK660 := bb BK660 hb; replace HB := bs1 HB hb
    refine hK.out _ _ ⟨bc BK660 0, bc BK660 1, bc BK660 2, xc HB hw661_0, xc HB hw661_1, xc HB hw661_2⟩ fun hHeld => ?_
    clear hK K; refine nm 28 ?_; refine pu HT_ 11 17 ?_; refine pu HT_ 12 29 ?_; refine pu HT_ 13 30 ?_; refine pu HT_ 14 7 ?_; refine pu HT_ 15 8 ?_; refine dn HT_ ?_
    try go_wp2_with (first | ((with_reducible refine gd 33 rfl ?_); refine gc 33 Tryz.func94 (impl_framed.calls k1 t662 t664 _ A7.out) fun w12 hb => ?_; replace BK660 := bb BK660 hb; replace HB := bs1 HB hb))
    go_roundg k1
    case measure => have := HK1.out; omega
    case rel => exact ⟨(x5_1 ++ t664), (wrap64 (x6_1 + 1)), fr, fr, H', ⟨by have := HK1.out; omega⟩, ⟨bk BK660⟩, ⟨bt HB⟩⟩
   ·have c4b0 := df c4; clear c4; obtain rfl := oj H; obtain ⟨_, _, _, _, _, _⟩ := bc3 BK660; go_wp2; go_ret; exact ⟨fe, bt HB⟩
end Go.Proofs.YtdepaileabejgaaGreatDoor.PFnExactOpenJournal
