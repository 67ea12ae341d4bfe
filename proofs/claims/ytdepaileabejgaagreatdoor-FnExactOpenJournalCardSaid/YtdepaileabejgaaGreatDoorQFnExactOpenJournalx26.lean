/- Walks. No condition. -/
import Derived.Test.YtdepaileabejgaaGreatDoorQFnExactOpenJournalx25
namespace Go.Proofs.YtdepaileabejgaaGreatDoor.PFnExactOpenJournal
open Go.RowKit Go.Proofs.YtdepaileabejgaaGreatDoorW.PrintWords Go.Proofs.YtdepaileabejgaaGreatDoorW.PrintLast Go.Proofs.YtdepaileabejgaaGreatDoorW.PrintMore Go.Proofs.YtdepaileabejgaaGreatDoorW.Short
attribute [local go_sem] max2_int min2_int max_two min_two max_three min_three max_four min_four
set_option maxHeartbeats 8000000
set_option maxRecDepth 100000
set_option linter.unusedVariables false
set_option linter.unusedSimpArgs false
def impl_JournalText.f (k : Nat) (a0_0 : Int) (a0_1 : Int) (a0_2 : Int) (a0_3 : Int) (a0_4 : Int) (l0_5 : List (S105)) : Option (ByteArray × Bool) := (impl_JournalOk.f k a0_0 a0_1 a0_2 a0_3 a0_4 l0_5).bind fun t666 => (if t666 = true then ((impl_varOf.f k a0_3).bind fun t667 => (if 1 + t667.size ≤ 9223372036854775807 then ((impl_varOf.f k a0_4).bind fun t668 => (if ((⟨#[66]⟩ : ByteArray) ++ t667).size + t668.size ≤ 9223372036854775807 then ((impl_framed.f k (((⟨#[66]⟩ : ByteArray) ++ t667) ++ t668)).bind fun t669 => ((impl_hardFrame.f k a0_1 a0_2).bind fun t670 => (if t669.size + t670.size ≤ 9223372036854775807 then ((impl_entryFrames.f k a0_3 a0_4 l0_5 0).bind fun t671 => (if (t669 ++ t670).size + t671.size ≤ 9223372036854775807 then (if (((t669 ++ t670) ++ t671).size : Int) > 20000 then (some ((⟨#[]⟩ : ByteArray), false)) else (some ((t669 ++ t670) ++ t671, true))) else (none))) else (none)))) else (none))) else (none))) else (some ((⟨#[]⟩ : ByteArray), false)))
def impl_JournalText.T3 : Bool × List (List Nat × List Nat) := (true, [([], []), ([0], [0]), ([1], [1]), ([2], [2]), ([3], [3]), ([], []), ([5], [5]), ([6], [6]), ([7, 3], [7]), ([4, 8], [4, 8]), ([9, 8], [9]), ([], []), ([11], [11]), ([], []), ([13], [13]), ([12, 14, 10], [12, 14]), ([10, 15], [10, 15]), ([], []), ([17], [17]), ([18, 15], [18]), ([16, 19], [16, 19]), ([20, 19, 0, 1, 2, 3, 4, 5, 6, 7, 8, 9, 10, 11, 12, 13, 14, 15, 16, 17, 18, 19, 20], [20])])
def impl_JournalText.B3 : List Nat := [0, 1, 3, 7, 15, 0, 32, 96, 239, 511, 1023, 0, 2048, 0, 8192, 32767, 65535, 0, 131072, 458751, 1048575, 2097151]
theorem impl_JournalText.tab3 : rtab .any (opsOf Tryz.f61 3) = impl_JournalText.T3 := by kernel_rfl
theorem impl_JournalText.bits3 : waitsOk impl_JournalText.T3.2 impl_JournalText.B3 = true := by kernel_rfl
theorem impl_JournalText.calls (k : Nat) (a0_0 : Int) (a0_1 : Int) (a0_2 : Int) (a0_3 : Int) (a0_4 : Int) (A0_5 : Option Addr) (c0_5 : Nat) (l0_5 : List (S105)) (r1 : ByteArray) (r2 : Bool) (w : World) (hr0_5 : Kd.C k105 w A0_5 l0_5.length l0_5) (hc0_5 : l0_5.length ≤ c0_5) (H : impl_JournalText.f k a0_0 a0_1 a0_2 a0_3 a0_4 l0_5 = some (r1, r2)) :
 Calls Tryz.prog 61 #[.agg #[.int .i64 a0_0, .int .i64 a0_1, .int .i64 a0_2, .int .i64 a0_3, .int .i64 a0_4, .slice A0_5 l0_5.length c0_5]] w fun e w' => e = .returned (.tuple #[.string r1, .bool r2]) ∧ Below w.heap.size w w' := by
 have hu30 := Tryz.underlying30; have hu28 := Tryz.underlying28; have HR0_5 := ak hr0_5; have HC0_5 := ak hc0_5; clear hr0_5 hc0_5; have HB := ak (Below.refl w.heap.size w); unfold impl_JournalText.f at H; obtain ⟨t666, A2, H⟩ := bo H; cases t666; rotate_left
 ·rw [if_pos rfl] at H; obtain ⟨t667, A4, H⟩ := bo H; obtain ⟨c5, H⟩ := ifs H; have c5b0 := eq_true c5; have c5b1 := dt c5
  try have c5b2 : (9223372036854775807 < 1 + t667.size) = False := eq_false (Nat.not_lt.2 c5)
  obtain ⟨t668, A6, H⟩ := bo H; obtain ⟨c7, H⟩ := ifs H; have c7b0 := eq_true c7; have c7b1 := dt c7
  try have c7b1y : decide (1 + t667.size + t668.size ≤ 9223372036854775807) = true := by have h_ := c7b1; simp only [ByteArray.size_append, Int.natCast_add] at h_; exact h_
  try have c7b2 : (9223372036854775807 < ((⟨#[66]⟩ : ByteArray) ++ t667).size + t668.size) = False := eq_false (Nat.not_lt.2 c7)
  try have c7b2z : (9223372036854775807 < 1 + t667.size + t668.size) = False := eq_false (by have h_ : ¬ (9223372036854775807 < ((⟨#[66]⟩ : ByteArray) ++ t667).size + t668.size) := of_eq_false c7b2; simp only [ByteArray.size_append] at h_; exact h_)
  obtain ⟨t669, A8, H⟩ := bo H; obtain ⟨t670, A9, H⟩ := bo H; obtain ⟨c10, H⟩ := ifs H; have c10b0 := eq_true c10; have c10b1 := dt c10
  try have c10b2 : (9223372036854775807 < t669.size + t670.size) = False := eq_false (Nat.not_lt.2 c10)
  obtain ⟨t671, A11, H⟩ := bo H; obtain ⟨c12, H⟩ := ifs H; have c12b0 := eq_true c12; have c12b1 := dt c12
  try have c12b1y : decide (t669.size + t670.size + t671.size ≤ 9223372036854775807) = true := by have h_ := c12b1; simp only [ByteArray.size_append, Int.natCast_add] at h_; exact h_
  try have c12b2 : (9223372036854775807 < (t669 ++ t670).size + t671.size) = False := eq_false (Nat.not_lt.2 c12)
  try have c12b2z : (9223372036854775807 < t669.size + t670.size + t671.size) = False := eq_false (by have h_ : ¬ (9223372036854775807 < (t669 ++ t670).size + t671.size) := of_eq_false c12b2; simp only [ByteArray.size_append] at h_; exact h_)
  revert H
  refine si (fun c13 H => ?_) fun c13 H => ?_
  have c13b0 : decide (20000 < (((t669 ++ t670) ++ t671).size : Int)) = true := dt c13
  try have c13b0y : decide (20000 < ((t669.size : Int) + (t670.size : Int) + (t671.size : Int))) = true := by have h_ := c13b0; simp only [ByteArray.size_append, Int.natCast_add] at h_; exact h_
  have c13b1 : decide (20000 < ((t669 ++ t670) ++ t671).size) = true := dt (by omega)
  try have c13b1y : decide (20000 < t669.size + t670.size + t671.size) = true := by have h_ := c13b1; simp only [ByteArray.size_append, Int.natCast_add] at h_; exact h_
  clear c13; obtain ⟨rfl, rfl⟩ := o2 H; rotate_left; have c13b0 : decide (20000 < (((t669 ++ t670) ++ t671).size : Int)) = false := df c13
  try have c13b0y : decide (20000 < ((t669.size : Int) + (t670.size : Int) + (t671.size : Int))) = false := by have h_ := c13b0; simp only [ByteArray.size_append, Int.natCast_add] at h_; exact h_
  have c13b1 : decide (20000 < ((t669 ++ t670) ++ t671).size) = false := df (by omega)
  try have c13b1y : decide (20000 < t669.size + t670.size + t671.size) = false := by have h_ := c13b1; simp only [ByteArray.size_append, Int.natCast_add] at h_; exact h_
  clear c13; obtain ⟨rfl, rfl⟩ := o2 H
  all_goals
   go_enter Tryz.func61, Tryz.ntmps61
   try go_wp2_with (first | ((with_reducible refine gd 1 rfl ?_); refine bx 1 30 #[.int .i64 a0_0, .int .i64 a0_1, .int .i64 a0_2, .int .i64 a0_3, .int .i64 a0_4, .slice A0_5 l0_5.length c0_5] fun gb665 hg w23 BK665 hb => ?_; have GE665 := ge_ hg HB; replace HB := bs1 HB hb; clear hb hg; obtain ⟨_, _, _, _, _, _, _, _, _, _, _, _⟩ := bc6 BK665) | ((with_reducible refine gd 6 rfl ?_); refine gc 6 Tryz.func93 (impl_JournalOk.calls k a0_0 a0_1 a0_2 a0_3 a0_4 _ _ l0_5 true _ ?s1 ?s2 A2.out) fun w25 hb => ?_; (case s1 => exact ca HR0_5 HB); (case s2 => exact HC0_5.out); replace BK665 := bb BK665 hb; replace HB := bs1 HB hb))
   replace BK665 := ak (blk_drew BK665.out); replace HB := ak (below_drew1 HB.out)
   refine st 22 (fun w' => d6 w' gb665 (.int .i64 a0_0) (.int .i64 a0_1) (.int .i64 a0_2) (.int .i64 a0_3) (.int .i64 a0_4) (.slice A0_5 l0_5.length c0_5)) impl_JournalText.tab3 impl_JournalText.bits3 hp fun hHeld HT_ HW_ => ?_
   generalize w25.drew = w26 at BK665 HB hHeld ⊢
   refine pu HT_ 0 8 ?_; refine pu HT_ 1 9 ?_; refine pu HT_ 5 13 ?_; refine pu HT_ 6 14 ?_; refine pu HT_ 11 19 ?_; refine pu HT_ 13 21 ?_; refine pu HT_ 17 25 ?_; refine tk HT_ HW_ hHeld 2 10 ?_; refine tk HT_ HW_ hHeld 7 15 ?_; refine tk HT_ HW_ hHeld 12 20 ?_; refine tk HT_ HW_ hHeld 14 22 ?_; refine tk HT_ HW_ hHeld 18 26 ?_
   refine on HT_ 3 11 fun K hK => ?_
   refine gq Tryz.func95 (impl_varOf.calls k a0_3 t667 _ A4.out) fun w27 hb => ?_; replace BK665 := bb BK665 hb; replace HB := bs1 HB hb
   refine hK.out _ _ hp fun hHeld => ?_
   clear hK K; refine nm 11 ?_; refine pu HT_ 4 12 ?_
   refine on HT_ 8 16 fun K hK => ?_
   refine gq Tryz.func95 (impl_varOf.calls k a0_4 t668 _ A6.out) fun w28 hb => ?_; replace BK665 := bb BK665 hb; replace HB := bs1 HB hb
   refine hK.out _ _ hp fun hHeld => ?_
   clear hK K; refine nm 16 ?_; refine pu HT_ 9 17 ?_
   refine on HT_ 10 18 fun K hK => ?_
   refine gq Tryz.func94 (impl_framed.calls k (((⟨#[66]⟩ : ByteArray) ++ t667) ++ t668) t669 _ A8.out) fun w29 hb => ?_; replace BK665 := bb BK665 hb; replace HB := bs1 HB hb
   refine hK.out _ _ hp fun hHeld => ?_
   clear hK K; refine nm 18 ?_
   refine on HT_ 15 23 fun K hK => ?_
   refine gq Tryz.func96 (impl_hardFrame.calls k a0_1 a0_2 t670 _ A9.out) fun w30 hb => ?_; replace BK665 := bb BK665 hb; replace HB := bs1 HB hb
   refine hK.out _ _ hp fun hHeld => ?_
   clear hK K; refine nm 23 ?_; refine pu HT_ 16 24 ?_
   refine on HT_ 19 27 fun K hK => ?_
   refine gq Tryz.func97 (impl_entryFrames.calls k a0_3 a0_4 _ _ l0_5 0 t671 _ ?s1 ?s2 A11.out) fun w31 hb => ?_; (case s1 => exact ca HR0_5 HB); (case s2 => exact HC0_5.out); replace BK665 := bb BK665 hb; replace HB := bs1 HB hb
   refine hK.out _ _ hp fun hHeld => ?_
   clear hK K; refine nm 27 ?_; refine pu HT_ 20 28 ?_; refine pu HT_ 21 4 ?_; refine dn HT_ ?_
   try go_wp2
   go_ret2; exact ⟨fe, bt HB⟩
 ·rw [if_neg nf] at H; obtain ⟨rfl, rfl⟩ := o2 H; go_enter Tryz.func61, Tryz.ntmps61
  go_wp2_with (first | ((with_reducible refine gd 1 rfl ?_); refine bx 1 30 #[.int .i64 a0_0, .int .i64 a0_1, .int .i64 a0_2, .int .i64 a0_3, .int .i64 a0_4, .slice A0_5 l0_5.length c0_5] fun gb665 hg w32 BK665 hb => ?_; have GE665 := ge_ hg HB; replace HB := bs1 HB hb; clear hb hg; obtain ⟨_, _, _, _, _, _, _, _, _, _, _, _⟩ := bc6 BK665) | ((with_reducible refine gd 6 rfl ?_); refine gc 6 Tryz.func93 (impl_JournalOk.calls k a0_0 a0_1 a0_2 a0_3 a0_4 _ _ l0_5 false _ ?s1 ?s2 A2.out) fun w34 hb => ?_; (case s1 => exact ca HR0_5 HB); (case s2 => exact HC0_5.out); replace BK665 := bb BK665 hb; replace HB := bs1 HB hb))
  go_ret2; exact ⟨fe, bt HB⟩
def impl_renewActs.f (k : Nat) (a0_0 : Int) (a0_1 : Int) (a0_2 : Int) (a0_3 : Int) (a0_4 : Int) (l0_5 : List (S105)) (a1 : ByteArray) : Option ((List (S57)) × Bool) := (impl_JournalText.f k a0_0 a0_1 a0_2 a0_3 a0_4 l0_5).bind fun bt673 => (if bt673.2 = true then ((impl_JournalName.f a0_0).bind fun t675 => (some ((([(⟨1, (⟨#[106, 43]⟩ : ByteArray), bt673.1, (⟨#[]⟩ : ByteArray)⟩ : S57), (⟨2, (⟨#[106, 43]⟩ : ByteArray), (⟨#[]⟩ : ByteArray), (⟨#[]⟩ : ByteArray)⟩ : S57), (⟨3, (⟨#[106, 43]⟩ : ByteArray), (⟨#[]⟩ : ByteArray), t675⟩ : S57), (⟨4, a1, (⟨#[]⟩ : ByteArray), (⟨#[]⟩ : ByteArray)⟩ : S57)] : List (S57))), true))) else (some (([] : List (S57)), false)))
theorem impl_renewActs.calls (k : Nat) (a0_0 : Int) (a0_1 : Int) (a0_2 : Int) (a0_3 : Int) (a0_4 : Int) (A0_5 : Option Addr) (c0_5 : Nat) (l0_5 : List (S105)) (a1 : ByteArray) (r1 : List (S57)) (r2 : Bool) (w : World) (hr0_5 : Kd.C k105 w A0_5 l0_5.length l0_5) (hc0_5 : l0_5.length ≤ c0_5) (H : impl_renewActs.f k a0_0 a0_1 a0_2 a0_3 a0_4 l0_5 a1 = some (r1, r2)) (HT0 : Tab w) :
 Calls Tryz.prog 32 #[.agg #[.int .i64 a0_0, .int .i64 a0_1, .int .i64 a0_2, .int .i64 a0_3, .int .i64 a0_4, .slice A0_5 l0_5.length c0_5], .string a1] w fun e w' => ∃ v0_ : Value, e = .returned (.tuple #[v0_, .bool r2]) ∧ Kd.R k57 57 w' w.heap.size (fun _ => True) v0_ r1 ∧ Below w.heap.size w w' := by
 have hu30 := Tryz.underlying30; have hu57 := Tryz.underlying57; have HR0_5 := ak hr0_5; have HC0_5 := ak hc0_5; clear hr0_5 hc0_5; have HB := ak (Below.refl w.heap.size w); have HT := ak HT0; clear HT0; unfold impl_renewActs.f at H; obtain ⟨⟨t673, t674⟩, A3, H⟩ := bo H
 try dsimp only at H
 cases t674; rotate_left; rw [if_pos rfl] at H; obtain ⟨t675, A5, H⟩ := bo H; obtain ⟨y676, hy676⟩ : ∃ y_ : List (S57), y_ = (([(⟨1, (⟨#[106, 43]⟩ : ByteArray), t673, (⟨#[]⟩ : ByteArray)⟩ : S57), (⟨2, (⟨#[106, 43]⟩ : ByteArray), (⟨#[]⟩ : ByteArray), (⟨#[]⟩ : ByteArray)⟩ : S57), (⟨3, (⟨#[106, 43]⟩ : ByteArray), (⟨#[]⟩ : ByteArray), t675⟩ : S57), (⟨4, a1, (⟨#[]⟩ : ByteArray), (⟨#[]⟩ : ByteArray)⟩ : S57)] : List (S57))) := ⟨_, rfl⟩
 first | replace H := bs hy676 H | rw [← hy676] at H
 have Ny676 := ak hy676; clear hy676; obtain ⟨rfl, rfl⟩ := o2 H; rotate_left; rw [if_neg nf] at H; obtain ⟨rfl, rfl⟩ := o2 H
 all_goals
  go_enter Tryz.func32, Tryz.ntmps32
  go_wp2_with (first | ((with_reducible refine gd 2 rfl ?_); refine bx 2 30 #[.int .i64 a0_0, .int .i64 a0_1, .int .i64 a0_2, .int .i64 a0_3, .int .i64 a0_4, .slice A0_5 l0_5.length c0_5] fun gb672 hg w6 BK672 hb => ?_; have GE672 := ge_ hg HB; replace HB := bs1 HB hb; clear hb hg; obtain ⟨_, _, _, _, _, _, _, _, _, _, _, _⟩ := bc6 BK672) | ((with_reducible refine gd 10 rfl ?_); refine gc 10 Tryz.func61 (impl_JournalText.calls k a0_0 a0_1 a0_2 a0_3 a0_4 _ _ l0_5 t673 _ _ ?s1 ?s2 A3.out) fun w8 hb => ?_; (case s1 => exact ca HR0_5 HB); (case s2 => exact HC0_5.out); replace BK672 := bb BK672 hb; replace HB := bs1 HB hb; obtain ⟨_, _, _, _, _, _, _, _, _, _, _, _⟩ := bc6 BK672) | ((with_reducible refine gd 20 rfl ?_); refine gc 20 Tryz.func28 (impl_JournalName.calls a0_0 t675 _ A5.out (tab_below HT (bt HB))) fun w10 hb => ?_; replace BK672 := bb BK672 hb; replace HB := bs1 HB hb) | ((with_reducible refine gate_dst (N := 24) rfl ?_); refine Kd.R_lit k57 _ 57 ?hg (N := 24) ?hd (xs := ([(⟨1, (⟨#[106, 43]⟩ : ByteArray), t673, (⟨#[]⟩ : ByteArray)⟩ : S57), (⟨2, (⟨#[106, 43]⟩ : ByteArray), (⟨#[]⟩ : ByteArray), (⟨#[]⟩ : ByteArray)⟩ : S57), (⟨3, (⟨#[106, 43]⟩ : ByteArray), (⟨#[]⟩ : ByteArray), t675⟩ : S57), (⟨4, a1, (⟨#[]⟩ : ByteArray), (⟨#[]⟩ : ByteArray)⟩ : S57)] : List (S57))) (inner := [.int .i64 1, .string (⟨#[106, 43]⟩ : ByteArray), .string t673, .string (⟨#[]⟩ : ByteArray), .int .i64 2, .string (⟨#[106, 43]⟩ : ByteArray), .string (⟨#[]⟩ : ByteArray), .string (⟨#[]⟩ : ByteArray), .int .i64 3, .string (⟨#[106, 43]⟩ : ByteArray), .string (⟨#[]⟩ : ByteArray), .string t675, .int .i64 4, .string a1, .string (⟨#[]⟩ : ByteArray), .string (⟨#[]⟩ : ByteArray)]) (ok := fun _ => True) (okp := fun _ => True) ?hr ?hp (fun _ hk => hk) trivial (Below.refl _ _) (Nat.le_refl _) (by simp) ?_; (case hd => rfl); (case hg => rfl); (case hr => first | (go_simp; done) | (go_simp; rfl)); (case hp => exact (Reps.c4 (show Kd.M k57 _ _ _ (⟨1, (⟨#[106, 43]⟩ : ByteArray), t673, (⟨#[]⟩ : ByteArray)⟩ : S57) [.int .i64 1, .string (⟨#[106, 43]⟩ : ByteArray), .string t673, .string (⟨#[]⟩ : ByteArray)] from (k57_mkM _ _ _ (⟨1, (⟨#[106, 43]⟩ : ByteArray), t673, (⟨#[]⟩ : ByteArray)⟩ : S57) )) (Reps.c4 (show Kd.M k57 _ _ _ (⟨2, (⟨#[106, 43]⟩ : ByteArray), (⟨#[]⟩ : ByteArray), (⟨#[]⟩ : ByteArray)⟩ : S57) [.int .i64 2, .string (⟨#[106, 43]⟩ : ByteArray), .string (⟨#[]⟩ : ByteArray), .string (⟨#[]⟩ : ByteArray)] from (k57_mkM _ _ _ (⟨2, (⟨#[106, 43]⟩ : ByteArray), (⟨#[]⟩ : ByteArray), (⟨#[]⟩ : ByteArray)⟩ : S57) )) (Reps.c4 (show Kd.M k57 _ _ _ (⟨3, (⟨#[106, 43]⟩ : ByteArray), (⟨#[]⟩ : ByteArray), t675⟩ : S57) [.int .i64 3, .string (⟨#[106, 43]⟩ : ByteArray), .string (⟨#[]⟩ : ByteArray), .string t675] from (k57_mkM _ _ _ (⟨3, (⟨#[106, 43]⟩ : ByteArray), (⟨#[]⟩ : ByteArray), t675⟩ : S57) )) (Reps.c4 (show Kd.M k57 _ _ _ (⟨4, a1, (⟨#[]⟩ : ByteArray), (⟨#[]⟩ : ByteArray)⟩ : S57) [.int .i64 4, .string a1, .string (⟨#[]⟩ : ByteArray), .string (⟨#[]⟩ : ByteArray)] from (k57_mkM _ _ _ (⟨4, a1, (⟨#[]⟩ : ByteArray), (⟨#[]⟩ : ByteArray)⟩ : S57) )) (Reps.none _ _)))))); intro v677 w11 ho12 hb hg_ hnew_; clear hg_ hnew_; (first | rw [← Ny676.out] at ho12 | (simp only [Int.reduceToNat] at ho12; rw [← Ny676.out] at ho12)); have HO678 := ak (Kd.R_lower ho12 (below_size (bt HB))); replace BK672 := bb BK672 hb; replace HB := bs1 HB hb; clear hb ho12))
  go_ret2
 ·exact ⟨_, fe, by first | exact Kd.R_nil _ _ _ _ _ | exact Kd.N_nil _ _ _ _ _ | exact Kd.V_nil _ _ _ _ _ | exact Kd.Q_nil _ _ _ _ _ | exact Kd.S_nil _ _ _ _ _, bt HB⟩
 ·exact ⟨_, fe, rk HO678, bt HB⟩
end Go.Proofs.YtdepaileabejgaaGreatDoor.PFnExactOpenJournal
