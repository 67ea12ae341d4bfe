/- Walks. No condition. -/
import Derived.Test.YtdepaileabejgaaGreatDoorQFnExactOpenJournalx11
namespace Go.Proofs.YtdepaileabejgaaGreatDoor.PFnExactOpenJournal
open Go.RowKit Go.Proofs.YtdepaileabejgaaGreatDoorW.PrintWords Go.Proofs.YtdepaileabejgaaGreatDoorW.PrintLast Go.Proofs.YtdepaileabejgaaGreatDoorW.PrintMore Go.Proofs.YtdepaileabejgaaGreatDoorW.Short
attribute [local go_sem] max2_int min2_int max_two min_two max_three min_three max_four min_four
set_option maxHeartbeats 8000000
set_option maxRecDepth 100000
set_option linter.unusedVariables false
set_option linter.unusedSimpArgs false
def spec_JournalText.f (k : Nat) (a0_0 : Int) (a0_1 : Int) (a0_2 : Int) (a0_3 : Int) (a0_4 : Int) (l0_5 : List (S105)) : Option (ByteArray × Bool) := (spec_JournalOk.f k a0_0 a0_1 a0_2 a0_3 a0_4 l0_5).bind fun t321 => (if t321 = true then ((spec_l01Var.f k a0_3).bind fun t322 => (if 1 + t322.size ≤ 9223372036854775807 then ((spec_l01Var.f k a0_4).bind fun t323 => (if ((⟨#[66]⟩ : ByteArray) ++ t322).size + t323.size ≤ 9223372036854775807 then ((spec_Frame.f k (((⟨#[66]⟩ : ByteArray) ++ t322) ++ t323)).bind fun bt324 => ((spec_l07Hard.f k a0_1 a0_2).bind fun t326 => (if bt324.1.size + t326.size ≤ 9223372036854775807 then ((spec_l07Frames.f k a0_3 a0_4 l0_5 0).bind fun t327 => (if (bt324.1 ++ t326).size + t327.size ≤ 9223372036854775807 then (if (((bt324.1 ++ t326) ++ t327).size : Int) > 20000 then (some ((⟨#[]⟩ : ByteArray), false)) else (some ((bt324.1 ++ t326) ++ t327, true))) else (none))) else (none)))) else (none))) else (none))) else (some ((⟨#[]⟩ : ByteArray), false)))
def spec_JournalText.T3 : Bool × List (List Nat × List Nat) := (true, [([], []), ([0], [0]), ([1], [1]), ([2], [2]), ([3], [3]), ([], []), ([5], [5]), ([6], [6]), ([7, 3], [7]), ([4, 8], [4, 8]), ([9, 8], [9]), ([10], [10]), ([11], [11]), ([11], [11]), ([12, 10, 0, 1, 2, 3, 4, 5, 6, 7, 8, 9, 10, 11, 12], [12]), ([13, 14, 0, 1, 2, 3, 4, 5, 6, 7, 8, 9, 10, 11, 12, 13, 14], [13])])
def spec_JournalText.B3 : List Nat := [0, 1, 3, 7, 15, 0, 32, 96, 239, 511, 1023, 2047, 4095, 4095, 8191, 32767]
theorem spec_JournalText.tab3 : rtab .any (opsOf Tryz.f50 3) = spec_JournalText.T3 := by kernel_rfl
theorem spec_JournalText.bits3 : waitsOk spec_JournalText.T3.2 spec_JournalText.B3 = true := by kernel_rfl
def spec_JournalText.T4 : Bool × List (List Nat × List Nat) := (true, [([], []), ([], []), ([1], [1]), ([], []), ([3], [3]), ([2, 4], [2, 4]), ([0, 5], [0, 5]), ([], []), ([7], [7]), ([8, 5], [8]), ([6, 9], [6, 9]), ([10, 9, 0, 1, 2, 3, 4, 5, 6, 7, 8, 9, 10], [10])])
def spec_JournalText.B4 : List Nat := [0, 0, 2, 0, 8, 30, 63, 0, 128, 446, 1023, 2047]
theorem spec_JournalText.tab4 : rtab .any (opsOf Tryz.f50 4) = spec_JournalText.T4 := by kernel_rfl
theorem spec_JournalText.bits4 : waitsOk spec_JournalText.T4.2 spec_JournalText.B4 = true := by kernel_rfl
theorem spec_JournalText.calls (k : Nat) (a0_0 : Int) (a0_1 : Int) (a0_2 : Int) (a0_3 : Int) (a0_4 : Int) (A0_5 : Option Addr) (c0_5 : Nat) (l0_5 : List (S105)) (r1 : ByteArray) (r2 : Bool) (w : World) (hr0_5 : Kd.C k105 w A0_5 l0_5.length l0_5) (hc0_5 : l0_5.length ≤ c0_5) (H : spec_JournalText.f k a0_0 a0_1 a0_2 a0_3 a0_4 l0_5 = some (r1, r2)) :
 Calls Tryz.prog 50 #[.agg #[.int .i64 a0_0, .int .i64 a0_1, .int .i64 a0_2, .int .i64 a0_3, .int .i64 a0_4, .slice A0_5 l0_5.length c0_5]] w fun e w' => e = .returned (.tuple #[.string r1, .bool r2]) ∧ Below w.heap.size w w' := by
 have hu30 := Tryz.underlying30; have hu28 := Tryz.underlying28; have HR0_5 := ak hr0_5; have HC0_5 := ak hc0_5; clear hr0_5 hc0_5; have HB := ak (Below.refl w.heap.size w); unfold spec_JournalText.f at H; obtain ⟨t321, A2, H⟩ := bo H; cases t321; rotate_left
 focus
  rw [if_pos rfl] at H; obtain ⟨t322, A4, H⟩ := bo H; obtain ⟨c5, H⟩ := ifs H; have c5b0 := eq_true c5; have c5b1 := dt c5
  try have c5b2 : (9223372036854775807 < 1 + t322.size) = False := eq_false (Nat.not_lt.2 c5)
  obtain ⟨t323, A6, H⟩ := bo H; obtain ⟨c7, H⟩ := ifs H; have c7b0 := eq_true c7; have c7b1 := dt c7
  try have c7b1y : decide (1 + t322.size + t323.size ≤ 9223372036854775807) = true := by have h_ := c7b1; simp only [ByteArray.size_append, Int.natCast_add] at h_; exact h_
  try have c7b2 : (9223372036854775807 < ((⟨#[66]⟩ : ByteArray) ++ t322).size + t323.size) = False := eq_false (Nat.not_lt.2 c7)
  try have c7b2z : (9223372036854775807 < 1 + t322.size + t323.size) = False := eq_false (by have h_ : ¬ (9223372036854775807 < ((⟨#[66]⟩ : ByteArray) ++ t322).size + t323.size) := of_eq_false c7b2; simp only [ByteArray.size_append] at h_; exact h_)
  obtain ⟨⟨t324, t325⟩, A8, H⟩ := bo H
  try dsimp only at H
  obtain ⟨t326, A9, H⟩ := bo H; obtain ⟨c10, H⟩ := ifs H; have c10b0 := eq_true c10; have c10b1 := dt c10
  try have c10b2 : (9223372036854775807 < t324.size + t326.size) = False := eq_false (Nat.not_lt.2 c10)
  obtain ⟨t327, A11, H⟩ := bo H; obtain ⟨c12, H⟩ := ifs H; have c12b0 := eq_true c12; have c12b1 := dt c12
  try have c12b1y : decide (t324.size + t326.size + t327.size ≤ 9223372036854775807) = true := by have h_ := c12b1; simp only [ByteArray.size_append, Int.natCast_add] at h_; exact h_
  try have c12b2 : (9223372036854775807 < (t324 ++ t326).size + t327.size) = False := eq_false (Nat.not_lt.2 c12)
  try have c12b2z : (9223372036854775807 < t324.size + t326.size + t327.size) = False := eq_false (by have h_ : ¬ (9223372036854775807 < (t324 ++ t326).size + t327.size) := of_eq_false c12b2; simp only [ByteArray.size_append] at h_; exact h_)
  revert H
  refine si (fun c13 H => ?_) fun c13 H => ?_
  have c13b0 : decide (20000 < (((t324 ++ t326) ++ t327).size : Int)) = true := dt c13
  try have c13b0y : decide (20000 < ((t324.size : Int) + (t326.size : Int) + (t327.size : Int))) = true := by have h_ := c13b0; simp only [ByteArray.size_append, Int.natCast_add] at h_; exact h_
  have c13b1 : decide (20000 < ((t324 ++ t326) ++ t327).size) = true := dt (by omega)
  try have c13b1y : decide (20000 < t324.size + t326.size + t327.size) = true := by have h_ := c13b1; simp only [ByteArray.size_append, Int.natCast_add] at h_; exact h_
  clear c13; obtain ⟨rfl, rfl⟩ := o2 H; rotate_left; have c13b0 : decide (20000 < (((t324 ++ t326) ++ t327).size : Int)) = false := df c13
  try have c13b0y : decide (20000 < ((t324.size : Int) + (t326.size : Int) + (t327.size : Int))) = false := by have h_ := c13b0; simp only [ByteArray.size_append, Int.natCast_add] at h_; exact h_
  have c13b1 : decide (20000 < ((t324 ++ t326) ++ t327).size) = false := df (by omega)
  try have c13b1y : decide (20000 < t324.size + t326.size + t327.size) = false := by have h_ := c13b1; simp only [ByteArray.size_append, Int.natCast_add] at h_; exact h_
  clear c13; obtain ⟨rfl, rfl⟩ := o2 H
 rotate_left 2; rw [if_neg nf] at H; obtain ⟨rfl, rfl⟩ := o2 H
 all_goals
  go_enter Tryz.func50, Tryz.ntmps50
  try go_wp2_with (first | ((with_reducible refine gd 1 rfl ?_); refine bx 1 30 #[.int .i64 a0_0, .int .i64 a0_1, .int .i64 a0_2, .int .i64 a0_3, .int .i64 a0_4, .slice A0_5 l0_5.length c0_5] fun gb320 hg w34 BK320 hb => ?_; have GE320 := ge_ hg HB; replace HB := bs1 HB hb; clear hb hg; obtain ⟨_, _, _, _, _, _, _, _, _, _, _, _⟩ := bc6 BK320) | ((with_reducible refine gd 8 rfl ?_); refine gc 8 Tryz.func76 (spec_JournalOk.calls k a0_0 a0_1 a0_2 a0_3 a0_4 _ _ l0_5 _ _ ?s1 ?s2 A2.out) fun w36 hb => ?_; (case s1 => exact ca HR0_5 HB); (case s2 => exact HC0_5.out); replace BK320 := bb BK320 hb; replace HB := bs1 HB hb))
 ·go_ret2; exact ⟨fe, bt HB⟩
 ·replace BK320 := ak (blk_drew BK320.out); replace HB := ak (below_drew1 HB.out)
  refine st 16 (fun w' => d6 w' gb320 (.int .i64 a0_0) (.int .i64 a0_1) (.int .i64 a0_2) (.int .i64 a0_3) (.int .i64 a0_4) (.slice A0_5 l0_5.length c0_5)) spec_JournalText.tab3 spec_JournalText.bits3 hp fun hHeld HT_ HW_ => ?_
  generalize w36.drew = w27 at BK320 HB hHeld ⊢
  refine pu HT_ 0 11 ?_; refine pu HT_ 1 12 ?_; refine pu HT_ 5 16 ?_; refine pu HT_ 6 17 ?_; refine tk HT_ HW_ hHeld 2 13 ?_; refine tk HT_ HW_ hHeld 7 18 ?_
  refine on HT_ 3 14 fun K hK => ?_
  refine gq Tryz.func70 (spec_l01Var.calls k a0_3 t322 _ A4.out) fun w28 hb => ?_; replace BK320 := bb BK320 hb; replace HB := bs1 HB hb
  refine hK.out _ _ hp fun hHeld => ?_
  clear hK K; refine nm 14 ?_; refine pu HT_ 4 15 ?_
  refine on HT_ 8 19 fun K hK => ?_
  refine gq Tryz.func70 (spec_l01Var.calls k a0_4 t323 _ A6.out) fun w29 hb => ?_; replace BK320 := bb BK320 hb; replace HB := bs1 HB hb
  refine hK.out _ _ hp fun hHeld => ?_
  clear hK K; refine nm 19 ?_; refine pu HT_ 9 20 ?_
  refine on HT_ 10 21 fun K hK => ?_
  refine gq Tryz.func49 (spec_Frame.calls k (((⟨#[66]⟩ : ByteArray) ++ t322) ++ t323) t324 t325 _ A8.out) fun w30 hb => ?_; replace BK320 := bb BK320 hb; replace HB := bs1 HB hb
  refine hK.out _ _ hp fun hHeld => ?_
  clear hK K; refine nm 21 ?_; refine pu HT_ 11 10 ?_; refine pu HT_ 12 22 ?_; refine pu HT_ 13 23 ?_; refine pu HT_ 14 4 ?_; refine pu HT_ 15 5 ?_; refine dn HT_ ?_
  try go_wp2
  replace BK320 := ak (blk_drew BK320.out); replace HB := ak (below_drew1 HB.out)
  refine st 12 (fun w' => d6 w' gb320 (.int .i64 a0_0) (.int .i64 a0_1) (.int .i64 a0_2) (.int .i64 a0_3) (.int .i64 a0_4) (.slice A0_5 l0_5.length c0_5)) spec_JournalText.tab4 spec_JournalText.bits4 hp fun hHeld HT_ HW_ => ?_
  generalize w30.drew = w31 at BK320 HB hHeld ⊢
  refine pu HT_ 0 24 ?_; refine pu HT_ 1 25 ?_; refine pu HT_ 3 27 ?_; refine pu HT_ 7 31 ?_; refine tk HT_ HW_ hHeld 2 26 ?_; refine tk HT_ HW_ hHeld 4 28 ?_; refine tk HT_ HW_ hHeld 8 32 ?_
  refine on HT_ 5 29 fun K hK => ?_
  refine gq Tryz.func77 (spec_l07Hard.calls k a0_1 a0_2 t326 _ A9.out) fun w32 hb => ?_; replace BK320 := bb BK320 hb; replace HB := bs1 HB hb
  refine hK.out _ _ hp fun hHeld => ?_
  clear hK K; refine nm 29 ?_; refine pu HT_ 6 30 ?_
  refine on HT_ 9 33 fun K hK => ?_
  refine gq Tryz.func78 (spec_l07Frames.calls k a0_3 a0_4 _ _ l0_5 0 t327 _ ?s1 ?s2 A11.out) fun w33 hb => ?_; (case s1 => exact ca HR0_5 HB); (case s2 => exact HC0_5.out); replace BK320 := bb BK320 hb; replace HB := bs1 HB hb
  refine hK.out _ _ hp fun hHeld => ?_
  clear hK K; refine nm 33 ?_; refine pu HT_ 10 34 ?_; refine pu HT_ 11 6 ?_; refine dn HT_ ?_
  try go_wp2
  go_ret2; exact ⟨fe, bt HB⟩
 ·replace BK320 := ak (blk_drew BK320.out); replace HB := ak (below_drew1 HB.out)
  refine st 16 (fun w' => d6 w' gb320 (.int .i64 a0_0) (.int .i64 a0_1) (.int .i64 a0_2) (.int .i64 a0_3) (.int .i64 a0_4) (.slice A0_5 l0_5.length c0_5)) spec_JournalText.tab3 spec_JournalText.bits3 hp fun hHeld HT_ HW_ => ?_
  generalize w36.drew = w17 at BK320 HB hHeld ⊢
  refine pu HT_ 0 11 ?_; refine pu HT_ 1 12 ?_; refine pu HT_ 5 16 ?_; refine pu HT_ 6 17 ?_; refine tk HT_ HW_ hHeld 2 13 ?_; refine tk HT_ HW_ hHeld 7 18 ?_
  refine on HT_ 3 14 fun K hK => ?_
  refine gq Tryz.func70 (spec_l01Var.calls k a0_3 t322 _ A4.out) fun w18 hb => ?_; replace BK320 := bb BK320 hb; replace HB := bs1 HB hb
  refine hK.out _ _ hp fun hHeld => ?_
  clear hK K; refine nm 14 ?_; refine pu HT_ 4 15 ?_
  refine on HT_ 8 19 fun K hK => ?_
  refine gq Tryz.func70 (spec_l01Var.calls k a0_4 t323 _ A6.out) fun w19 hb => ?_; replace BK320 := bb BK320 hb; replace HB := bs1 HB hb
  refine hK.out _ _ hp fun hHeld => ?_
  clear hK K; refine nm 19 ?_; refine pu HT_ 9 20 ?_
  refine on HT_ 10 21 fun K hK => ?_
  refine gq Tryz.func49 (spec_Frame.calls k (((⟨#[66]⟩ : ByteArray) ++ t322) ++ t323) t324 t325 _ A8.out) fun w20 hb => ?_; replace BK320 := bb BK320 hb; replace HB := bs1 HB hb
  refine hK.out _ _ hp fun hHeld => ?_
  clear hK K; refine nm 21 ?_; refine pu HT_ 11 10 ?_; refine pu HT_ 12 22 ?_; refine pu HT_ 13 23 ?_; refine pu HT_ 14 4 ?_; refine pu HT_ 15 5 ?_; refine dn HT_ ?_
  try go_wp2
  replace BK320 := ak (blk_drew BK320.out); replace HB := ak (below_drew1 HB.out)
  refine st 12 (fun w' => d6 w' gb320 (.int .i64 a0_0) (.int .i64 a0_1) (.int .i64 a0_2) (.int .i64 a0_3) (.int .i64 a0_4) (.slice A0_5 l0_5.length c0_5)) spec_JournalText.tab4 spec_JournalText.bits4 hp fun hHeld HT_ HW_ => ?_
  generalize w20.drew = w21 at BK320 HB hHeld ⊢
  refine pu HT_ 0 24 ?_; refine pu HT_ 1 25 ?_; refine pu HT_ 3 27 ?_; refine pu HT_ 7 31 ?_; refine tk HT_ HW_ hHeld 2 26 ?_; refine tk HT_ HW_ hHeld 4 28 ?_; refine tk HT_ HW_ hHeld 8 32 ?_
  refine on HT_ 5 29 fun K hK => ?_
  refine gq Tryz.func77 (spec_l07Hard.calls k a0_1 a0_2 t326 _ A9.out) fun w22 hb => ?_; replace BK320 := bb BK320 hb; replace HB := bs1 HB hb
  refine hK.out _ _ hp fun hHeld => ?_
  clear hK K; refine nm 29 ?_; refine pu HT_ 6 30 ?_
  refine on HT_ 9 33 fun K hK => ?_
  refine gq Tryz.func78 (spec_l07Frames.calls k a0_3 a0_4 _ _ l0_5 0 t327 _ ?s1 ?s2 A11.out) fun w23 hb => ?_; (case s1 => exact ca HR0_5 HB); (case s2 => exact HC0_5.out); replace BK320 := bb BK320 hb; replace HB := bs1 HB hb
  refine hK.out _ _ hp fun hHeld => ?_
  clear hK K; refine nm 33 ?_; refine pu HT_ 10 34 ?_; refine pu HT_ 11 6 ?_; refine dn HT_ ?_
  try go_wp2
  go_ret2; exact ⟨fe, bt HB⟩
end Go.Proofs.YtdepaileabejgaaGreatDoor.PFnExactOpenJournal
