/- Walks. No condition. -/
import Derived.Test.YtdepaileabejgaaGreatDoorQFnExactOpenJournalx1
namespace Go.Proofs.YtdepaileabejgaaGreatDoor.PFnExactOpenJournal
open Go.RowKit Go.Proofs.YtdepaileabejgaaGreatDoorW.PrintWords Go.Proofs.YtdepaileabejgaaGreatDoorW.PrintLast Go.Proofs.YtdepaileabejgaaGreatDoorW.PrintMore Go.Proofs.YtdepaileabejgaaGreatDoorW.Short
attribute [local go_sem] max2_int min2_int max_two min_two max_three min_three max_four min_four
set_option maxHeartbeats 8000000
set_option maxRecDepth 100000
set_option linter.unusedVariables false
set_option linter.unusedSimpArgs false
def spec_l01Figure.f (a0 : Int) : Option (Int) := if a0 < 10 then (some ((wrap64 (48 + a0)) % 256)) else (some ((wrap64 ((wrap64 (97 + a0)) - 10)) % 256))
theorem spec_l01Figure.calls (a0 : Int) (r : Int) (w : World) (H : spec_l01Figure.f a0 = some r) :
 Calls Tryz.prog 66 #[.int .i64 a0] w fun e w' => e = .returned (.int .u8 r) ∧ Drawn0 w w' := by
 unfold spec_l01Figure.f at H; revert H
 refine si (fun c2 H => ?_) fun c2 H => ?_
 have c2b0 := dt c2; clear c2; obtain rfl := oj H; rotate_left; have c2b0 := df c2; clear c2; obtain rfl := oj H
 all_goals
  go_enter Tryz.func66, Tryz.ntmps66; go_wp2; go_ret
  exact ⟨fr, d0⟩
def spec_Decimal.l0 : Nat → Int → Bool → ByteArray → Option (ByteArray)
 | 0, _, _, _ => none
 | k + 1, x0, x3, x4 => if x0 = 0 then (if x3 = true then (if 1 + x4.size ≤ 9223372036854775807 then (some ((⟨#[45]⟩ : ByteArray) ++ x4)) else (none)) else (some x4)) else (if (Int.tmod x0 10) < 0 then ((spec_l01Figure.f (wrap64 (-(Int.tmod x0 10)))).bind fun t113 => ((some (([t113] : List Int) : List Int)).bind fun y114 => (if (strOfNums y114).size + x4.size ≤ 9223372036854775807 then (spec_Decimal.l0 k (wrap64 (Int.tdiv x0 10)) x3 ((strOfNums y114) ++ x4)) else (none)))) else ((spec_l01Figure.f (Int.tmod x0 10)).bind fun t117 => ((some (([t117] : List Int) : List Int)).bind fun y118 => (if (strOfNums y118).size + x4.size ≤ 9223372036854775807 then (spec_Decimal.l0 k (wrap64 (Int.tdiv x0 10)) x3 ((strOfNums y118) ++ x4)) else (none)))))
def spec_Decimal.f (k : Nat) (a0 : Int) : Option (ByteArray) := if a0 = 0 then (some (⟨#[48]⟩ : ByteArray)) else (spec_Decimal.l0 k a0 (decide (a0 < 0)) (⟨#[]⟩ : ByteArray))
theorem spec_Decimal.calls (k : Nat) (a0 : Int) (r : ByteArray) (w : World) (H : spec_Decimal.f k a0 = some r) :
 Calls Tryz.prog 44 #[.int .i64 a0] w fun e w' => e = .returned (.string r) ∧ Below w.heap.size w w' := by
 have HB := ak (Below.refl w.heap.size w); unfold spec_Decimal.f at H; revert H
 refine si (fun c2 H => ?_) fun c2 H => ?_
 ·have c2b0 : (a0 == 0) = true := beq_iff_eq.mpr c2; have c2b1 : (a0 != 0) = false := bne_eq_false_iff_eq.mpr c2; clear c2; obtain rfl := oj H; go_enter Tryz.func44, Tryz.ntmps44; go_wp2; go_ret; exact ⟨fe, bt HB⟩
 ·have c2b0 : (a0 == 0) = false := beq_eq_false_iff_ne.mpr c2; have c2b1 : (a0 != 0) = true := bne_iff_ne.mpr c2; have H' := ak H; clear H; go_enter Tryz.func44, Tryz.ntmps44; go_wp2; obtain ⟨bz, hbz⟩ : ∃ b_, decide (a0 < 0) = b_ := ⟨_, rfl⟩; rw [hbz]; rw [hbz] at H'; clear hbz
  go_loopg [0, 4] k (fun kq v0 v4 w' => ∃ (x0_1 : Int) (x4_1 : ByteArray), v0 = .int .i64 x0_1 ∧ v4 = .string x4_1 ∧ Aside0 (spec_Decimal.l0 kq x0_1 bz x4_1 = some r) ∧ Aside0 (kq ≤ k) ∧ Aside0 (Below w.heap.size w w'))
  case atStart => exact ⟨(a0), ((⟨#[]⟩ : ByteArray)), fr, fr, H', ⟨Nat.le_refl _⟩, ⟨bt HB⟩⟩
  case round =>
   clear H'; obtain ⟨x0_1, x4_1, rfl, rfl, HA, HK1, HB⟩ := hrel
   cases gk with
   | zero => exact absurd HA.out (by simp [spec_Decimal.l0])
   | succ k1 =>
    have H := HA.out; clear HA; simp only [spec_Decimal.l0] at H; revert H
    refine si (fun c3 H => ?_) fun c3 H => ?_
    ·have c3b0 : (x0_1 == 0) = true := beq_iff_eq.mpr c3; have c3b1 : (x0_1 != 0) = false := bne_eq_false_iff_eq.mpr c3; clear c3; revert H
     refine si (fun c4 H => ?_) fun c4 H => ?_
     ·subst c4; obtain ⟨c5, H⟩ := ifs H; have c5b0 := eq_true c5; have c5b1 := dt c5
      try have c5b2 : (9223372036854775807 < 1 + x4_1.size) = False := eq_false (Nat.not_lt.2 c5)
      obtain rfl := oj H; go_wp2; go_ret; exact ⟨fe, bt HB⟩
     ·replace c4 := Bool.eq_false_iff.mpr c4; subst c4; obtain rfl := oj H; go_wp2; go_ret; exact ⟨fe, bt HB⟩
    ·have c3b0 : (x0_1 == 0) = false := beq_eq_false_iff_ne.mpr c3; have c3b1 : (x0_1 != 0) = true := bne_iff_ne.mpr c3; revert H
     refine si (fun c6 H => ?_) fun c6 H => ?_
     ·have c6b0 := dt c6; clear c6; obtain ⟨t113, A7, H⟩ := bo H; obtain ⟨y114, Ny114, H⟩ := bsx H; obtain ⟨c8, H⟩ := ifs H; have c8b0 := eq_true c8; have c8b1 := dt c8
      try have c8b2 : (9223372036854775807 < (strOfNums y114).size + x4_1.size) = False := eq_false (Nat.not_lt.2 c8)
      have H' := ak H; clear H
      go_wp2_with (first | ((with_reducible refine gd 19 rfl ?_); refine gc 19 Tryz.func66 (spec_l01Figure.calls (wrap64 (-(Int.tmod x0_1 10))) t113 _ A7.out) fun w' h_ => ?_; obtain ⟨nd, rfl⟩ := h_) | ((with_reducible refine gate_dst (N := 20) rfl ?_); refine Kd.R_lit (Kd.int .u8) _ 5 ?hg (N := 20) ?hd (xs := ([t113] : List Int)) (inner := [.int .u8 t113]) (ok := fun _ => True) (okp := fun _ => True) ?hr ?hp (fun _ hk => hk) trivial (Below.refl _ _) (Nat.le_refl _) (by simp) ?_; (case hd => rfl); (case hg => rfl); (case hr => first | (go_simp; done) | (go_simp; rfl)); (case hp => exact (Reps.one (show Kd.M (Kd.int .u8) _ _ _ t113 [.int .u8 t113] from rfl) (Reps.none _ _))); intro v115 w9 ho10 hb hg_ hnew_; clear hg_ hnew_; (first | rw [← Ny114.out] at ho10 | (simp only [Int.reduceToNat] at ho10; rw [← Ny114.out] at ho10)); have HO116 := ak (Kd.R_lower ho10 (below_size (bt HB))); replace HB := bs1 HB hb; clear hb ho10; have hcv11 := own_string (P := Tryz.prog) Tryz.underlying95 Tryz.underlying5 Tryz.underlying9 (Kd.own_of_R HO116.out)))
      go_roundg k1
      case measure => have := HK1.out; omega
      case rel => exact ⟨(wrap64 (Int.tdiv x0_1 10)), ((strOfNums y114) ++ x4_1), fr, fr, H', ⟨by have := HK1.out; omega⟩, ⟨bt HB⟩⟩
     ·have c6b0 := df c6; clear c6; obtain ⟨t117, A12, H⟩ := bo H; obtain ⟨y118, Ny118, H⟩ := bsx H; obtain ⟨c13, H⟩ := ifs H; have c13b0 := eq_true c13; have c13b1 := dt c13
      try have c13b2 : (9223372036854775807 < (strOfNums y118).size + x4_1.size) = False := eq_false (Nat.not_lt.2 c13)
      have H' := ak H; clear H
      go_wp2_with (first | ((with_reducible refine gd 19 rfl ?_); refine gc 19 Tryz.func66 (spec_l01Figure.calls (Int.tmod x0_1 10) t117 _ A12.out) fun w' h_ => ?_; obtain ⟨nd, rfl⟩ := h_) | ((with_reducible refine gate_dst (N := 20) rfl ?_); refine Kd.R_lit (Kd.int .u8) _ 5 ?hg (N := 20) ?hd (xs := ([t117] : List Int)) (inner := [.int .u8 t117]) (ok := fun _ => True) (okp := fun _ => True) ?hr ?hp (fun _ hk => hk) trivial (Below.refl _ _) (Nat.le_refl _) (by simp) ?_; (case hd => rfl); (case hg => rfl); (case hr => first | (go_simp; done) | (go_simp; rfl)); (case hp => exact (Reps.one (show Kd.M (Kd.int .u8) _ _ _ t117 [.int .u8 t117] from rfl) (Reps.none _ _))); intro v119 w14 ho15 hb hg_ hnew_; clear hg_ hnew_; (first | rw [← Ny118.out] at ho15 | (simp only [Int.reduceToNat] at ho15; rw [← Ny118.out] at ho15)); have HO120 := ak (Kd.R_lower ho15 (below_size (bt HB))); replace HB := bs1 HB hb; clear hb ho15; have hcv16 := own_string (P := Tryz.prog) Tryz.underlying95 Tryz.underlying5 Tryz.underlying9 (Kd.own_of_R HO120.out)))
      go_roundg k1
      case measure => have := HK1.out; omega
      case rel => exact ⟨(wrap64 (Int.tdiv x0_1 10)), ((strOfNums y118) ++ x4_1), fr, fr, H', ⟨by have := HK1.out; omega⟩, ⟨bt HB⟩⟩
def spec_JournalName.f (k : Nat) (a0 : Int) : Option (ByteArray) := (spec_l01In.f a0 0 999).bind fun t121 => (if t121 = true then ((spec_Decimal.f k a0).bind fun t122 => (if 1 + t122.size ≤ 9223372036854775807 then (some ((⟨#[106]⟩ : ByteArray) ++ t122)) else (none))) else (some (⟨#[]⟩ : ByteArray)))
theorem spec_JournalName.calls (k : Nat) (a0 : Int) (r : ByteArray) (w : World) (H : spec_JournalName.f k a0 = some r) :
 Calls Tryz.prog 20 #[.int .i64 a0] w fun e w' => e = .returned (.string r) ∧ Below w.heap.size w w' := by
 have HB := ak (Below.refl w.heap.size w); unfold spec_JournalName.f at H; obtain ⟨t121, A2, H⟩ := bo H; cases t121; rotate_left; rw [if_pos rfl] at H; obtain ⟨t122, A4, H⟩ := bo H; obtain ⟨c5, H⟩ := ifs H; have c5b0 := eq_true c5; have c5b1 := dt c5
 try have c5b2 : (9223372036854775807 < 1 + t122.size) = False := eq_false (Nat.not_lt.2 c5)
 obtain rfl := oj H; rotate_left; rw [if_neg nf] at H; obtain rfl := oj H
 all_goals
  go_enter Tryz.func20, Tryz.ntmps20
  go_wp2_with (first | ((with_reducible refine gd 4 rfl ?_); refine gc 4 Tryz.func42 (spec_l01In.calls a0 0 999 _ _ A2.out) fun w' h_ => ?_; obtain ⟨nd, rfl⟩ := h_) | ((with_reducible refine gd 7 rfl ?_); refine gc 7 Tryz.func44 (spec_Decimal.calls k a0 t122 _ A4.out) fun w6 hb => ?_; replace HB := bs1 HB hb))
  go_ret; exact ⟨fe, bt HB⟩
def spec_ReadDecimal.l0 : Nat → ByteArray → Int → Int → Option (Int × Bool)
 | 0, _, _, _ => none
 | k + 1, x0, x4, x5 => if x5 < (x0.size : Int) then (if 0 ≤ x5 then (if (bt x0 x5) < 48 then (some (0, false)) else (if (bt x0 x5) > 57 then (some (0, false)) else (spec_ReadDecimal.l0 k x0 (wrap64 ((wrap64 ((wrap64 (10 * x4)) + (wrap64 (bt x0 x5)))) - 48)) (wrap64 (x5 + 1))))) else (none)) else (if x4 > 1000000000 then (some (0, false)) else ((spec_Decimal.f k x4).bind fun t123 => (if t123.toList = x0.toList then (some (x4, true)) else (some (0, false)))))
def spec_ReadDecimal.f (k : Nat) (a0 : ByteArray) : Option (Int × Bool) := if (a0.size : Int) > 10 then (some (0, false)) else (spec_ReadDecimal.l0 k a0 0 0)
theorem spec_ReadDecimal.calls (k : Nat) (a0 : ByteArray) (r1 : Int) (r2 : Bool) (w : World) (H : spec_ReadDecimal.f k a0 = some (r1, r2)) :
 Calls Tryz.prog 43 #[.string a0] w fun e w' => e = .returned (.tuple #[.int .i64 r1, .bool r2]) ∧ Below w.heap.size w w' := by
 have HB := ak (Below.refl w.heap.size w); unfold spec_ReadDecimal.f at H; revert H
 refine si (fun c2 H => ?_) fun c2 H => ?_
 ·have c2b0 : decide (10 < (a0.size : Int)) = true := dt c2
  have c2b1 : decide (10 < a0.size) = true := dt (by omega)
  clear c2; obtain ⟨rfl, rfl⟩ := o2 H; go_enter Tryz.func43, Tryz.ntmps43; go_wp2; go_ret2; exact ⟨fe, bt HB⟩
 ·have c2b0 : decide (10 < (a0.size : Int)) = false := df c2
  have c2b1 : decide (10 < a0.size) = false := df (by omega)
  clear c2; have H' := ak H; clear H; go_enter Tryz.func43, Tryz.ntmps43; go_wp2
  go_loopg [4, 5] k (fun kq v4 v5 w' => ∃ (x4_1 : Int) (x5_1 : Int), v4 = .int .i64 x4_1 ∧ v5 = .int .i64 x5_1 ∧ Aside0 (spec_ReadDecimal.l0 kq a0 x4_1 x5_1 = some (r1, r2)) ∧ Aside0 (kq ≤ k) ∧ Aside0 (Below w.heap.size w w'))
  case atStart => exact ⟨(0), (0), fr, fr, H', ⟨Nat.le_refl _⟩, ⟨bt HB⟩⟩
  case round =>
   clear H'; obtain ⟨x4_1, x5_1, rfl, rfl, HA, HK1, HB⟩ := hrel
   cases gk with
   | zero => exact absurd HA.out (by simp [spec_ReadDecimal.l0])
   | succ k1 =>
    have H := HA.out; clear HA; simp only [spec_ReadDecimal.l0] at H; revert H
    refine si (fun c3 H => ?_) fun c3 H => ?_
    ·have c3b0 := dt c3; clear c3; obtain ⟨c4, H⟩ := ifs H; have c4b0 := dt c4; clear c4; revert H
     refine si (fun c6 H => ?_) fun c6 H => ?_
     ·have c6b0 := dt c6; clear c6; obtain ⟨rfl, rfl⟩ := o2 H; have p5 : 0 ≤ (x5_1 : Int) := da; have q5 : x5_1 < (a0.size : Int) := da; have hx5 := bt_at a0 x5_1; replace p5 := eq_true p5; replace q5 := eq_true q5; go_wp2; go_ret2; exact ⟨fe, bt HB⟩
     ·have c6b0 := df c6; clear c6; revert H
      refine si (fun c8 H => ?_) fun c8 H => ?_
      ·have c8b0 : decide (57 < (bt a0 x5_1)) = true := dt c8; clear c8; obtain ⟨rfl, rfl⟩ := o2 H; have p5 : 0 ≤ (x5_1 : Int) := da; have q5 : x5_1 < (a0.size : Int) := da; have hx5 := bt_at a0 x5_1; replace p5 := eq_true p5; replace q5 := eq_true q5; have p7 : 0 ≤ (x5_1 : Int) := da; have q7 : x5_1 < (a0.size : Int) := da; have hx7 := bt_at a0 x5_1; replace p7 := eq_true p7; replace q7 := eq_true q7; go_wp2; go_ret2; exact ⟨fe, bt HB⟩
      ·have c8b0 : decide (57 < (bt a0 x5_1)) = false := df c8; clear c8; have H' := ak H; clear H; have p5 : 0 ≤ (x5_1 : Int) := da; have q5 : x5_1 < (a0.size : Int) := da; have hx5 := bt_at a0 x5_1; replace p5 := eq_true p5; replace q5 := eq_true q5; have p7 : 0 ≤ (x5_1 : Int) := da; have q7 : x5_1 < (a0.size : Int) := da; have hx7 := bt_at a0 x5_1; replace p7 := eq_true p7; replace q7 := eq_true q7; have p9 : 0 ≤ (x5_1 : Int) := da; have q9 : x5_1 < (a0.size : Int) := da; have hx9 := bt_at a0 x5_1; replace p9 := eq_true p9; replace q9 := eq_true q9; go_wp2; go_roundg k1
       case measure => have := HK1.out; omega
       case rel => exact ⟨(wrap64 ((wrap64 ((wrap64 (10 * x4_1)) + (wrap64 (bt a0 x5_1)))) - 48)), (wrap64 (x5_1 + 1)), fr, fr, H', ⟨by have := HK1.out; omega⟩, ⟨bt HB⟩⟩
    ·have c3b0 := df c3; clear c3; revert H
     refine si (fun c10 H => ?_) fun c10 H => ?_
     ·have c10b0 : decide (1000000000 < x4_1) = true := dt c10; clear c10; obtain ⟨rfl, rfl⟩ := o2 H; go_wp2; go_ret2; exact ⟨fe, bt HB⟩
     ·have c10b0 : decide (1000000000 < x4_1) = false := df c10; clear c10; obtain ⟨t123, A11, H⟩ := bo H; revert H
      refine si (fun c12 H => ?_) fun c12 H => ?_
      have c12b0 : (t123.toList == a0.toList) = true := beq_iff_eq.mpr c12; have c12b1 : (t123.toList != a0.toList) = false := bne_eq_false_iff_eq.mpr c12; clear c12; obtain ⟨rfl, rfl⟩ := o2 H; rotate_left; have c12b0 : (t123.toList == a0.toList) = false := beq_eq_false_iff_ne.mpr c12; have c12b1 : (t123.toList != a0.toList) = true := bne_iff_ne.mpr c12; obtain ⟨rfl, rfl⟩ := o2 H
      all_goals
       go_wp2_with (first | (go_at_call 44; (with_reducible refine (spec_Decimal.calls k1 x4_1 t123 _ A11.out).mono ?_); rintro e w14 ⟨rfl, hb⟩; replace HB := bs1 HB hb))
       go_ret2; exact ⟨fe, bt HB⟩
def spec_l07Number.f (k : Nat) (a0 : ByteArray) : Option (Int) := if (a0.size : Int) < 2 then (some (-1)) else (if 1 ≤ (a0.size : Int) then ((spec_ReadDecimal.f k (a0.extract 1 a0.size)).bind fun bt124 => (if bt124.2 = true then ((spec_JournalName.f k bt124.1).bind fun t126 => (if t126.toList = a0.toList then (some bt124.1) else (some (-1)))) else (some (-1)))) else (none))
theorem spec_l07Number.calls (k : Nat) (a0 : ByteArray) (r : Int) (w : World) (H : spec_l07Number.f k a0 = some r) :
 Calls Tryz.prog 18 #[.string a0] w fun e w' => e = .returned (.int .i64 r) ∧ Below w.heap.size w w' := by
 have HB := ak (Below.refl w.heap.size w); unfold spec_l07Number.f at H; revert H
 refine si (fun c2 H => ?_) fun c2 H => ?_
 ·have c2b0 := dt c2
  have c2b1 : decide (a0.size < 2) = true := dt (by omega)
  clear c2; obtain rfl := oj H; go_enter Tryz.func18, Tryz.ntmps18; go_wp2; go_ret; exact ⟨fe, bt HB⟩
 ·have c2b0 := df c2
  have c2b1 : decide (a0.size < 2) = false := df (by omega)
  clear c2; obtain ⟨c3, H⟩ := ifs H; have c3b0 := eq_true c3; have c3b1 := dt c3; clear c3; obtain ⟨⟨t124, t125⟩, A4, H⟩ := bo H
  try dsimp only at H
  cases t125; rotate_left
  focus
   rw [if_pos rfl] at H; obtain ⟨t126, A6, H⟩ := bo H; revert H
   refine si (fun c7 H => ?_) fun c7 H => ?_
   have c7b0 : (t126.toList == a0.toList) = true := beq_iff_eq.mpr c7; have c7b1 : (t126.toList != a0.toList) = false := bne_eq_false_iff_eq.mpr c7; clear c7; obtain rfl := oj H; rotate_left; have c7b0 : (t126.toList == a0.toList) = false := beq_eq_false_iff_ne.mpr c7; have c7b1 : (t126.toList != a0.toList) = true := bne_iff_ne.mpr c7; obtain rfl := oj H
  rotate_left 2; rw [if_neg nf] at H; obtain rfl := oj H
  all_goals
   go_enter Tryz.func18, Tryz.ntmps18
   go_wp2_with (first | ((with_reducible refine gd 11 rfl ?_); refine gc 11 Tryz.func43 (spec_ReadDecimal.calls k (a0.extract 1 a0.size) t124 _ _ A4.out) fun w10 hb => ?_; replace HB := bs1 HB hb) | (go_at_call 20; (with_reducible refine (spec_JournalName.calls k t124 t126 _ A6.out).mono ?_); rintro e w11 ⟨rfl, hb⟩; replace HB := bs1 HB hb))
   go_ret; exact ⟨fe, bt HB⟩
def spec_l03At.l0 : Nat → ByteArray → Int → List (S49) → Option (Int)
 | 0, _, _, _ => none
 | k + 1, x1, x5, x128000 => if x5 < (x128000.length : Int) then (if 0 ≤ x5 then (if ((rd_T49 x128000 x5).f0).toList = x1.toList then (some x5) else (spec_l03At.l0 k x1 (wrap64 (x5 + 1)) x128000)) else (none)) else (some (-1))
def spec_l03At.f (k : Nat) (l0_0 : List (S49)) (a1 : ByteArray) : Option (Int) := spec_l03At.l0 k a1 0 l0_0
theorem spec_l03At.calls (k : Nat) (A0_0 : Option Addr) (c0_0 : Nat) (l0_0 : List (S49)) (a1 : ByteArray) (r : Int) (w : World) (hr0_0 : Kd.C k49 w A0_0 l0_0.length l0_0) (hc0_0 : l0_0.length ≤ c0_0) (H : spec_l03At.f k l0_0 a1 = some r) :
 Calls Tryz.prog 22 #[.agg #[.slice A0_0 l0_0.length c0_0], .string a1] w fun e w' => e = .returned (.int .i64 r) ∧ Below w.heap.size w w' := by
 have hu36 := Tryz.underlying36; have HR0_0 := ak hr0_0; have HC0_0 := ak hc0_0; clear hr0_0 hc0_0; have HB := ak (Below.refl w.heap.size w); unfold spec_l03At.f at H; have H' := ak H; clear H; go_enter Tryz.func22, Tryz.ntmps22
 go_wp2_with (first | ((with_reducible refine gd 2 rfl ?_); refine bx 2 36 #[.slice A0_0 l0_0.length c0_0] fun gb127 hg w3 BK127 hb => ?_; have GE127 := ge_ hg HB; replace HB := bs1 HB hb; clear hb hg))
 go_loopg [5] k (fun kq v5 w' => ∃ (x5_1 : Int), v5 = .int .i64 x5_1 ∧ Aside0 (spec_l03At.l0 kq a1 x5_1 l0_0 = some r) ∧ Aside0 (kq ≤ k) ∧ Aside0 (w'.heap[gb127]? = some (.cells #[(.slice A0_0 l0_0.length c0_0)] 36 (0, 0))) ∧ Aside0 (Below w.heap.size w w'))
 case atStart => exact ⟨(0), fr, H', ⟨Nat.le_refl _⟩, ⟨bk BK127⟩, ⟨bt HB⟩⟩
 case round =>
  clear H'; obtain ⟨x5_1, rfl, HA, HK1, BK127, HB⟩ := hrel
  cases gk with
  | zero => exact absurd HA.out (by simp [spec_l03At.l0])
  | succ k1 =>
   have H := HA.out; clear HA; simp only [spec_l03At.l0] at H; revert H
   refine si (fun c4 H => ?_) fun c4 H => ?_
   ·have c4b0 := dt c4; clear c4; obtain ⟨c5, H⟩ := ifs H; have c5b0 := dt c5; clear c5; revert H
    refine si (fun c6 H => ?_) fun c6 H => ?_
    ·have c6b0 : (((rd_T49 l0_0 x5_1).f0).toList == a1.toList) = true := beq_iff_eq.mpr c6; have c6b1 : (((rd_T49 l0_0 x5_1).f0).toList != a1.toList) = false := bne_eq_false_iff_eq.mpr c6; clear c6; obtain rfl := oj H; obtain ⟨_, _⟩ := bc1 BK127; obtain ⟨ad128, e128, hx128_0, hx128_1, hx128_2, p128, q128⟩ := ax49 HR0_0 HB x5_1; cases e128; go_wp2; go_ret; exact ⟨fe, bt HB⟩
    ·have c6b0 : (((rd_T49 l0_0 x5_1).f0).toList == a1.toList) = false := beq_eq_false_iff_ne.mpr c6; have c6b1 : (((rd_T49 l0_0 x5_1).f0).toList != a1.toList) = true := bne_iff_ne.mpr c6; have H' := ak H; clear H; obtain ⟨_, _⟩ := bc1 BK127; obtain ⟨ad128, e128, hx128_0, hx128_1, hx128_2, p128, q128⟩ := ax49 HR0_0 HB x5_1; cases e128; go_wp2; go_roundg k1
     case measure => have := HK1.out; omega
     case rel => exact ⟨(wrap64 (x5_1 + 1)), fr, H', ⟨by have := HK1.out; omega⟩, ⟨bk BK127⟩, ⟨bt HB⟩⟩
   ·have c4b0 := df c4; clear c4; obtain rfl := oj H; obtain ⟨_, _⟩ := bc1 BK127; go_wp2; go_ret; exact ⟨fe, bt HB⟩
def spec_FileAt.f (k : Nat) (l0_0 : List (S49)) (a1 : ByteArray) : Option (ByteArray × Bool) := (spec_l03At.f k l0_0 a1).bind fun t130 => (if t130 < 0 then (some ((⟨#[]⟩ : ByteArray), false)) else (if 0 ≤ t130 then (if t130 < (l0_0.length : Int) then (some ((rd_T49 l0_0 t130).f1, true)) else (none)) else (none)))
theorem spec_FileAt.calls (k : Nat) (A0_0 : Option Addr) (c0_0 : Nat) (l0_0 : List (S49)) (a1 : ByteArray) (r1 : ByteArray) (r2 : Bool) (w : World) (hr0_0 : Kd.C k49 w A0_0 l0_0.length l0_0) (hc0_0 : l0_0.length ≤ c0_0) (H : spec_FileAt.f k l0_0 a1 = some (r1, r2)) :
 Calls Tryz.prog 19 #[.agg #[.slice A0_0 l0_0.length c0_0], .string a1] w fun e w' => e = .returned (.tuple #[.string r1, .bool r2]) ∧ Below w.heap.size w w' := by
 have hu36 := Tryz.underlying36; have HR0_0 := ak hr0_0; have HC0_0 := ak hc0_0; clear hr0_0 hc0_0; have HB := ak (Below.refl w.heap.size w); unfold spec_FileAt.f at H; obtain ⟨t130, A3, H⟩ := bo H; revert H
 refine si (fun c4 H => ?_) fun c4 H => ?_
 ·have c4b0 := dt c4; clear c4; obtain ⟨rfl, rfl⟩ := o2 H; go_enter Tryz.func19, Tryz.ntmps19
  go_wp2_with (first | ((with_reducible refine gd 2 rfl ?_); refine bx 2 36 #[.slice A0_0 l0_0.length c0_0] fun gb129 hg w5 BK129 hb => ?_; have GE129 := ge_ hg HB; replace HB := bs1 HB hb; clear hb hg; obtain ⟨_, _⟩ := bc1 BK129) | ((with_reducible refine gd 9 rfl ?_); refine gc 9 Tryz.func22 (spec_l03At.calls k _ _ l0_0 a1 t130 _ ?s1 ?s2 A3.out) fun w7 hb => ?_; (case s1 => exact ca HR0_0 HB); (case s2 => exact HC0_0.out); replace BK129 := bb BK129 hb; replace HB := bs1 HB hb))
  go_ret2; exact ⟨fe, bt HB⟩
 ·have c4b0 := df c4; clear c4; obtain ⟨c8, H⟩ := ifs H; have c8b0 := dt c8; clear c8; obtain ⟨c9, H⟩ := ifs H; have c9b0 := dt c9; clear c9; obtain ⟨rfl, rfl⟩ := o2 H; go_enter Tryz.func19, Tryz.ntmps19
  go_wp2_with (first | ((with_reducible refine gd 2 rfl ?_); refine bx 2 36 #[.slice A0_0 l0_0.length c0_0] fun gb129 hg w10 BK129 hb => ?_; have GE129 := ge_ hg HB; replace HB := bs1 HB hb; clear hb hg; obtain ⟨_, _⟩ := bc1 BK129) | ((with_reducible refine gd 9 rfl ?_); refine gc 9 Tryz.func22 (spec_l03At.calls k _ _ l0_0 a1 t130 _ ?s1 ?s2 A3.out) fun w12 hb => ?_; (case s1 => exact ca HR0_0 HB); (case s2 => exact HC0_0.out); replace BK129 := bb BK129 hb; replace HB := bs1 HB hb; obtain ⟨_, _⟩ := bc1 BK129; have p131 : 0 ≤ (t130 : Int) := da; have q131 : t130 < (l0_0.length : Int) := da; obtain ⟨ad131, e131, hx131_0, hx131_1, hx131_2⟩ := at_T49 HR0_0.out t130 p131 q131; cases e131; replace hx131_0 := xb HB hx131_0; replace hx131_1 := xb HB hx131_1; replace hx131_2 := xb HB hx131_2; replace p131 := eq_true p131; replace q131 := eq_true q131))
  go_ret2; exact ⟨fe, bt HB⟩
def spec_l01Var.l0 : Nat → Int → List Int → Option (ByteArray)
 | 0, _, _ => none
 | k + 1, x0, x3 => if x0 > 127 then (if x3.length < 140737488355328 then (spec_l01Var.l0 k (wrap64 (Int.tdiv x0 128)) (x3 ++ [(wrap64 ((Int.tmod x0 128) + 128)) % 256])) else (none)) else (if x3.length < 140737488355328 then (some (strOfNums (x3 ++ [(x0) % 256]))) else (none))
def spec_l01Var.f (k : Nat) (a0 : Int) : Option (ByteArray) := spec_l01Var.l0 k a0 (([] : List Int))
theorem spec_l01Var.calls (k : Nat) (a0 : Int) (r : ByteArray) (w : World) (H : spec_l01Var.f k a0 = some r) :
 Calls Tryz.prog 70 #[.int .i64 a0] w fun e w' => e = .returned (.string r) ∧ Below w.heap.size w w' := by
 have HB := ak (Below.refl w.heap.size w); unfold spec_l01Var.f at H; obtain ⟨y132, hy132⟩ : ∃ y_ : List Int, y_ = (([] : List Int)) := ⟨_, rfl⟩
 first | replace H := bs hy132 H | rw [← hy132] at H
 have Ny132 := ak hy132; clear hy132; have H' := ak H; clear H; go_enter Tryz.func70, Tryz.ntmps70
 go_wp2_with (first | ((with_reducible refine gate_dst (N := 4) rfl ?_); refine Kd.R_lit (Kd.int .u8) _ 5 ?hg (N := 4) ?hd (xs := ([] : List Int)) (inner := []) (ok := fun _ => True) (okp := fun _ => True) ?hr ?hp (fun _ hk => hk) trivial (Below.refl _ _) (Nat.le_refl _) (by simp) ?_; (case hd => rfl); (case hg => rfl); (case hr => first | (go_simp; done) | (go_simp; rfl)); (case hp => exact (Reps.none _ _)); intro v133 w2 ho3 hb hg_ hnew_; clear hg_ hnew_; (first | rw [← Ny132.out] at ho3 | (simp only [Int.reduceToNat] at ho3; rw [← Ny132.out] at ho3)); have HO134 := ak (Kd.R_lower ho3 (below_size (bt HB))); replace HB := bs1 HB hb; clear hb ho3))
 go_loopg [0, 3] k (fun kq v0 v3 w' => ∃ (x0_1 : Int) (x3_1 : List Int), v0 = .int .i64 x0_1 ∧ Aside0 (spec_l01Var.l0 kq x0_1 x3_1 = some r) ∧ Aside0 (kq ≤ k) ∧ Aside0 (Kd.R (Kd.int .u8) 5 w' w.heap.size (fun _ => True) v3 x3_1) ∧ Aside0 (Below w.heap.size w w'))
 case atStart => exact ⟨(a0), (y132), fr, H', ⟨Nat.le_refl _⟩, ⟨rk HO134⟩, ⟨bt HB⟩⟩
 case round =>
  clear H'; obtain ⟨x0_1, x3_1, rfl, HA, HK1, HO_3, HB⟩ := hrel
  cases gk with
  | zero => exact absurd HA.out (by simp [spec_l01Var.l0])
  | succ k1 =>
   have H := HA.out; clear HA; simp only [spec_l01Var.l0] at H; revert H
   refine si (fun c4 H => ?_) fun c4 H => ?_
   ·have c4b0 : decide (127 < x0_1) = true := dt c4; clear c4; obtain ⟨c5, H⟩ := ifs H; have LMc5 := ak c5; clear c5; obtain ⟨y135, hy135⟩ : ∃ y_ : List Int, y_ = (x3_1 ++ [(wrap64 ((Int.tmod x0_1 128) + 128)) % 256]) := ⟨_, rfl⟩
    first | replace H := bs hy135 H | rw [← hy135] at H
    have Ny135 := ak hy135; clear hy135; have H' := ak H; clear H
    go_wp2_with (first | ((with_reducible refine gate_builtin (b := .append) (xs := #[.tmp 7, .tmp 12]) rfl ?_); at_builtin; refine Kd.R_append (Kd.int .u8) (w0 := w) w.heap.size rfl (.tmp 7) (.tmp 12) 95 5 (.int .u8 0) 1 rfl Tryz.underlying95 info5 rfl (by decide) (by omega) u3 x3_1 ((wrap64 ((Int.tmod x0_1 128) + 128)) % 256) [.int .u8 ((wrap64 ((Int.tmod x0_1 128) + 128)) % 256)] (fun _ => True) (fun _ => False) rfl rfl ?aP (fun _ hk => hk.elim) ?aF ?aO ?aB ?aS ?aL ?_; (case aP => exact rfl); (case aB => exact (bt HB)); (case aF => exact (fun _ _ => trivial)); (case aO => exact (rk HO_3)); (case aS => exact (below_size (bt HB))); (case aL => have := LMc5.out; omega); intro v136 w6 ho hb hg hat; rw [← Ny135.out] at ho; have n0_ := ak hb; have n1_ := ak ho; clear HB HO_3; revert n0_ n1_; intro HB HO137; clear ho hb hg hat))
    go_roundg k1
    case measure => have := HK1.out; omega
    case rel => exact ⟨(wrap64 (Int.tdiv x0_1 128)), (y135), fr, H', ⟨by have := HK1.out; omega⟩, ⟨rk HO137⟩, ⟨bt HB⟩⟩
   ·have c4b0 : decide (127 < x0_1) = false := df c4; clear c4; obtain ⟨c7, H⟩ := ifs H; have LMc7 := ak c7; clear c7; obtain ⟨y138, hy138⟩ : ∃ y_ : List Int, y_ = (x3_1 ++ [(x0_1) % 256]) := ⟨_, rfl⟩
    first | replace H := bs hy138 H | rw [← hy138] at H
    have Ny138 := ak hy138; clear hy138; obtain rfl := oj H
    go_wp2_with (first | ((with_reducible refine gate_builtin (b := .append) (xs := #[.tmp 16, .tmp 19]) rfl ?_); at_builtin; refine Kd.R_append (Kd.int .u8) (w0 := w) w.heap.size rfl (.tmp 16) (.tmp 19) 95 5 (.int .u8 0) 1 rfl Tryz.underlying95 info5 rfl (by decide) (by omega) u3 x3_1 ((x0_1) % 256) [.int .u8 ((x0_1) % 256)] (fun _ => True) (fun _ => False) rfl rfl ?aP (fun _ hk => hk.elim) ?aF ?aO ?aB ?aS ?aL ?_; (case aP => exact rfl); (case aB => exact (bt HB)); (case aF => exact (fun _ _ => trivial)); (case aO => exact (rk HO_3)); (case aS => exact (below_size (bt HB))); (case aL => have := LMc7.out; omega); intro v139 w8 ho hb hg hat; rw [← Ny138.out] at ho; have n0_ := ak hb; have n1_ := ak ho; clear HB HO_3; revert n0_ n1_; intro HB HO140; clear ho hb hg hat; have hcv9 := own_string (P := Tryz.prog) Tryz.underlying95 Tryz.underlying5 Tryz.underlying9 (Kd.own_of_R HO140.out)))
    go_ret; exact ⟨fe, bt HB⟩
def spec_l02Four.f (a0 : Int) : Option (ByteArray) := some (strOfNums (([(a0 / 16777216) % 256, (a0 / 65536) % 256, (a0 / 256) % 256, (a0) % 256] : List Int)))
theorem spec_l02Four.calls (a0 : Int) (r : ByteArray) (w : World) (H : spec_l02Four.f a0 = some r) :
 Calls Tryz.prog 74 #[.int .u32 a0] w fun e w' => e = .returned (.string r) ∧ Below w.heap.size w w' := by
 have HB := ak (Below.refl w.heap.size w); unfold spec_l02Four.f at H; obtain ⟨y141, hy141⟩ : ∃ y_ : List Int, y_ = (([(a0 / 16777216) % 256, (a0 / 65536) % 256, (a0 / 256) % 256, (a0) % 256] : List Int)) := ⟨_, rfl⟩
 first | replace H := bs hy141 H | rw [← hy141] at H
 have Ny141 := ak hy141; clear hy141; obtain rfl := oj H; go_enter Tryz.func74, Tryz.ntmps74
 go_wp2_with (first | ((with_reducible refine gate_dst (N := 14) rfl ?_); refine Kd.R_lit (Kd.int .u8) _ 5 ?hg (N := 14) ?hd (xs := ([(a0 / 16777216) % 256, (a0 / 65536) % 256, (a0 / 256) % 256, (a0) % 256] : List Int)) (inner := [.int .u8 ((a0 / 16777216) % 256), .int .u8 ((a0 / 65536) % 256), .int .u8 ((a0 / 256) % 256), .int .u8 ((a0) % 256)]) (ok := fun _ => True) (okp := fun _ => True) ?hr ?hp (fun _ hk => hk) trivial (Below.refl _ _) (Nat.le_refl _) (by simp) ?_; (case hd => rfl); (case hg => rfl); (case hr => first | (go_simp; done) | (go_simp; rfl)); (case hp => exact (Reps.one (show Kd.M (Kd.int .u8) _ _ _ ((a0 / 16777216) % 256) [.int .u8 ((a0 / 16777216) % 256)] from rfl) (Reps.one (show Kd.M (Kd.int .u8) _ _ _ ((a0 / 65536) % 256) [.int .u8 ((a0 / 65536) % 256)] from rfl) (Reps.one (show Kd.M (Kd.int .u8) _ _ _ ((a0 / 256) % 256) [.int .u8 ((a0 / 256) % 256)] from rfl) (Reps.one (show Kd.M (Kd.int .u8) _ _ _ ((a0) % 256) [.int .u8 ((a0) % 256)] from rfl) (Reps.none _ _)))))); intro v142 w2 ho3 hb hg_ hnew_; clear hg_ hnew_; (first | rw [← Ny141.out] at ho3 | (simp only [Int.reduceToNat] at ho3; rw [← Ny141.out] at ho3)); have HO143 := ak (Kd.R_lower ho3 (below_size (bt HB))); replace HB := bs1 HB hb; clear hb ho3; have hcv4 := own_string (P := Tryz.prog) Tryz.underlying95 Tryz.underlying5 Tryz.underlying9 (Kd.own_of_R HO143.out)))
 go_ret; exact ⟨fe, bt HB⟩
end Go.Proofs.YtdepaileabejgaaGreatDoor.PFnExactOpenJournal
