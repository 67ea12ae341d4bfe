/- Walks. No condition. -/
import Derived.Test.YtdepaileabejgaaGreatDoorQFnExactOpenJournalx3
namespace Go.Proofs.YtdepaileabejgaaGreatDoor.PFnExactOpenJournal
open Go.RowKit Go.Proofs.YtdepaileabejgaaGreatDoorW.PrintWords Go.Proofs.YtdepaileabejgaaGreatDoorW.PrintLast Go.Proofs.YtdepaileabejgaaGreatDoorW.PrintMore Go.Proofs.YtdepaileabejgaaGreatDoorW.Short
attribute [local go_sem] max2_int min2_int max_two min_two max_three min_three max_four min_four
set_option maxHeartbeats 8000000
set_option maxRecDepth 100000
set_option linter.unusedVariables false
set_option linter.unusedSimpArgs false
mutual
def spec_SumMore.l0 : Nat → Int → ByteArray → Int → Option (Int)
 | 0, _, _, _ => none
 | k + 1, x0, x1, x5 => if x5 < (x1.size : Int) then (if 0 ≤ x5 then (spec_SumMore.l1 k (Go.bits .xor .u32 x0 ((bt x1 x5) % 4294967296)) x1 x5 0) else (none)) else (some x0)
def spec_SumMore.l1 : Nat → Int → ByteArray → Int → Int → Option (Int)
 | 0, _, _, _, _ => none
 | k + 1, x0, x1, x5, x6 => if x6 < 8 then (if (Int.tmod x0 2) = 1 then (spec_SumMore.l1 k (Go.bits .xor .u32 ((Int.tdiv x0 2) % 4294967296) 3558460437) x1 x5 (wrap64 (x6 + 1))) else (spec_SumMore.l1 k ((Int.tdiv x0 2) % 4294967296) x1 x5 (wrap64 (x6 + 1)))) else (spec_SumMore.l0 k x0 x1 (wrap64 (x5 + 1)))
end
def spec_SumMore.f (k : Nat) (a0 : Int) (a1 : ByteArray) : Option (Int) := spec_SumMore.l0 k a0 a1 0
theorem spec_SumMore.calls (k : Nat) (a0 : Int) (a1 : ByteArray) (r : Int) (w : World) (H : spec_SumMore.f k a0 a1 = some r) :
 Calls Tryz.prog 102 #[.int .u32 a0, .string a1] w fun e w' => e = .returned (.int .u32 r) ∧ Drawn0 w w' := by
 unfold spec_SumMore.f at H; have H' := ak H; clear H; go_enter Tryz.func102, Tryz.ntmps102; go_wp2
 go_loopg [0, 5] k (fun kq v0 v5 w' => ∃ (x0_1 : Int) (x5_1 : Int), v0 = .int .u32 x0_1 ∧ v5 = .int .i64 x5_1 ∧ Aside0 (spec_SumMore.l0 kq x0_1 a1 x5_1 = some r) ∧ Aside0 (kq ≤ k) ∧ Drawn0 w w')
 case atStart => exact ⟨(a0), (0), fr, fr, H', ⟨Nat.le_refl _⟩, d0⟩
 case round =>
  clear H'; obtain ⟨x0_1, x5_1, rfl, rfl, HA, HK1, ⟨m1, rfl⟩⟩ := hrel
  cases gk with
  | zero => exact absurd HA.out (by simp [spec_SumMore.l0])
  | succ k1 =>
   have H := HA.out; clear HA; simp only [spec_SumMore.l0] at H; revert H
   refine si (fun c3 H => ?_) fun c3 H => ?_
   ·have c3b0 := dt c3; clear c3; obtain ⟨c4, H⟩ := ifs H; have c4b0 := dt c4; clear c4; have H' := ak H; clear H; have p5 : 0 ≤ (x5_1 : Int) := da; have q5 : x5_1 < (a1.size : Int) := da; have hx5 := bt_at a1 x5_1; replace p5 := eq_true p5; replace q5 := eq_true q5; go_wp2
    go_loopg [0, 6] k1 (fun kq v0 v6 w' => ∃ (x0_2 : Int) (x6_2 : Int), v0 = .int .u32 x0_2 ∧ v6 = .int .i64 x6_2 ∧ Aside0 (spec_SumMore.l1 kq x0_2 a1 x5_1 x6_2 = some r) ∧ Aside0 (kq ≤ k1) ∧ Drawn0 w w')
    case atStart => exact ⟨(Go.bits .xor .u32 x0_1 ((bt a1 x5_1) % 4294967296)), (0), fr, fr, H', ⟨Nat.le_refl _⟩, d0⟩
    case round =>
     clear H'; obtain ⟨x0_2, x6_2, rfl, rfl, HA, HK2, ⟨m2, rfl⟩⟩ := hrel
     cases gk with
     | zero => exact absurd HA.out (by simp [spec_SumMore.l1])
     | succ k2 =>
      have H := HA.out; clear HA; simp only [spec_SumMore.l1] at H; revert H
      refine si (fun c6 H => ?_) fun c6 H => ?_
      ·have c6b0 := dt c6; clear c6; revert H
       refine si (fun c7 H => ?_) fun c7 H => ?_
       ·have c7b0 : ((Int.tmod x0_2 2) == 1) = true := beq_iff_eq.mpr c7; have c7b1 : ((Int.tmod x0_2 2) != 1) = false := bne_eq_false_iff_eq.mpr c7; clear c7; have H' := ak H; clear H; go_wp2; go_roundg k2
        case measure => have := HK1.out; have := HK2.out; omega
        case rel => exact ⟨(Go.bits .xor .u32 ((Int.tdiv x0_2 2) % 4294967296) 3558460437), (wrap64 (x6_2 + 1)), fr, fr, H', ⟨by have := HK1.out; have := HK2.out; omega⟩, d0⟩
       ·have c7b0 : ((Int.tmod x0_2 2) == 1) = false := beq_eq_false_iff_ne.mpr c7; have c7b1 : ((Int.tmod x0_2 2) != 1) = true := bne_iff_ne.mpr c7; have H' := ak H; clear H; go_wp2; go_roundg k2
        case measure => have := HK1.out; have := HK2.out; omega
        case rel => exact ⟨((Int.tdiv x0_2 2) % 4294967296), (wrap64 (x6_2 + 1)), fr, fr, H', ⟨by have := HK1.out; have := HK2.out; omega⟩, d0⟩
      ·have c6b0 := df c6; clear c6; have H' := ak H; clear H; go_wp2; go_roundg k2
       case measure => have := HK1.out; have := HK2.out; omega
       case rel => exact ⟨(x0_2), (wrap64 (x5_1 + 1)), fr, fr, H', ⟨by have := HK1.out; have := HK2.out; omega⟩, d0⟩
   ·have c3b0 := df c3; clear c3; obtain rfl := oj H; go_wp2; go_ret
    exact ⟨fr, d0⟩
def spec_SumOf.f (k : Nat) (a0 : ByteArray) : Option (Int) := (spec_SumMore.f k 4294967295 a0).bind fun t144 => (some t144)
theorem spec_SumOf.calls (k : Nat) (a0 : ByteArray) (r : Int) (w : World) (H : spec_SumOf.f k a0 = some r) :
 Calls Tryz.prog 75 #[.string a0] w fun e w' => e = .returned (.int .u32 r) ∧ Drawn0 w w' := by
 unfold spec_SumOf.f at H; obtain ⟨t144, A2, H⟩ := bo H; obtain rfl := oj H; go_enter Tryz.func75, Tryz.ntmps75
 go_wp2_with (first | ((with_reducible refine gd 4 rfl ?_); refine gc 4 Tryz.func102 (spec_SumMore.calls k 4294967295 a0 t144 _ A2.out) fun w' h_ => ?_; obtain ⟨nd, rfl⟩ := h_))
 go_ret
 exact ⟨fr, d0⟩
def spec_Frame.f (k : Nat) (a0 : ByteArray) : Option (ByteArray × Bool) := (spec_l01In.f (a0.size : Int) 1 9000).bind fun t145 => (if t145 = true then ((spec_l01Var.f k (a0.size : Int)).bind fun t146 => ((spec_SumOf.f k a0).bind fun t147 => ((spec_l02Four.f t147).bind fun t148 => (if t146.size + t148.size ≤ 9223372036854775807 then (if (t146 ++ t148).size + a0.size ≤ 9223372036854775807 then (some ((t146 ++ t148) ++ a0, true)) else (none)) else (none))))) else (some ((⟨#[]⟩ : ByteArray), false)))
theorem spec_Frame.calls (k : Nat) (a0 : ByteArray) (r1 : ByteArray) (r2 : Bool) (w : World) (H : spec_Frame.f k a0 = some (r1, r2)) :
 Calls Tryz.prog 49 #[.string a0] w fun e w' => e = .returned (.tuple #[.string r1, .bool r2]) ∧ Below w.heap.size w w' := by
 have HB := ak (Below.refl w.heap.size w); unfold spec_Frame.f at H; obtain ⟨t145, A2, H⟩ := bo H; cases t145; rotate_left; rw [if_pos rfl] at H; obtain ⟨t146, A4, H⟩ := bo H; obtain ⟨t147, A5, H⟩ := bo H; obtain ⟨t148, A6, H⟩ := bo H; obtain ⟨c7, H⟩ := ifs H; have c7b0 := eq_true c7; have c7b1 := dt c7
 try have c7b2 : (9223372036854775807 < t146.size + t148.size) = False := eq_false (Nat.not_lt.2 c7)
 obtain ⟨c8, H⟩ := ifs H; have c8b0 := eq_true c8; have c8b1 := dt c8
 try have c8b1y : decide (t146.size + t148.size + a0.size ≤ 9223372036854775807) = true := by have h_ := c8b1; simp only [ByteArray.size_append, Int.natCast_add] at h_; exact h_
 try have c8b2 : (9223372036854775807 < (t146 ++ t148).size + a0.size) = False := eq_false (Nat.not_lt.2 c8)
 try have c8b2z : (9223372036854775807 < t146.size + t148.size + a0.size) = False := eq_false (by have h_ : ¬ (9223372036854775807 < (t146 ++ t148).size + a0.size) := of_eq_false c8b2; simp only [ByteArray.size_append] at h_; exact h_)
 obtain ⟨rfl, rfl⟩ := o2 H; rotate_left; rw [if_neg nf] at H; obtain ⟨rfl, rfl⟩ := o2 H
 all_goals
  go_enter Tryz.func49, Tryz.ntmps49
  go_wp2_with (first | ((with_reducible refine gd 6 rfl ?_); refine gc 6 Tryz.func42 (spec_l01In.calls (a0.size : Int) 1 9000 _ _ A2.out) fun w' h_ => ?_; obtain ⟨nd, rfl⟩ := h_) | ((with_reducible refine gd 10 rfl ?_); refine gc 10 Tryz.func70 (spec_l01Var.calls k (a0.size : Int) t146 _ A4.out) fun w9 hb => ?_; replace HB := bs1 HB hb) | ((with_reducible refine gd 12 rfl ?_); refine gc 12 Tryz.func75 (spec_SumOf.calls k a0 t147 _ A5.out) fun w' h_ => ?_; obtain ⟨nd, rfl⟩ := h_) | ((with_reducible refine gd 13 rfl ?_); refine gc 13 Tryz.func74 (spec_l02Four.calls t147 t148 _ A6.out) fun w10 hb => ?_; replace HB := bs1 HB hb))
  go_ret2; exact ⟨fe, bt HB⟩
mutual
def spec_ReadVar.l0 : Nat → ByteArray → Int → Int → Int → Int → Option (Int × Int × Bool)
 | 0, _, _, _, _, _ => none
 | k + 1, x0, x1, x7, x8, x9 => if x9 < (x0.size : Int) then (spec_ReadVar.j1 k x0 x1 x7 x8 x9 (decide (x9 < (wrap64 (x1 + 5))))) else (spec_ReadVar.j1 k x0 x1 x7 x8 x9 false)
def spec_ReadVar.j1 : Nat → ByteArray → Int → Int → Int → Int → Bool → Option (Int × Int × Bool)
 | 0, _, _, _, _, _, _ => none
 | k + 1, x0, x1, x7, x8, x9, x25 => if x25 = true then (if 0 ≤ x9 then (if x9 < (x0.size : Int) then (if (bt x0 x9) < 128 then (if (wrap64 (x7 + (wrap64 ((Int.tmod (wrap64 (bt x0 x9)) 128) * x8)))) > 1000000000 then (some (0, 0, false)) else ((spec_l01Var.f k (wrap64 (x7 + (wrap64 ((Int.tmod (wrap64 (bt x0 x9)) 128) * x8))))).bind fun t150 => (if 0 ≤ x1 then (if x1 ≤ (wrap64 (x9 + 1)) then (if (wrap64 (x9 + 1)) ≤ (x0.size : Int) then (if t150.toList = (x0.extract (x1 : Int).toNat ((wrap64 (x9 + 1)) : Int).toNat).toList then (some (wrap64 (x7 + (wrap64 ((Int.tmod (wrap64 (bt x0 x9)) 128) * x8))), wrap64 (x9 + 1), true)) else (some (0, 0, false))) else (none)) else (none)) else (none)))) else (spec_ReadVar.l0 k x0 x1 (wrap64 (x7 + (wrap64 ((Int.tmod (wrap64 (bt x0 x9)) 128) * x8)))) (wrap64 (x8 * 128)) (wrap64 (x9 + 1)))) else (none)) else (none)) else (some (0, 0, false))
end
def spec_ReadVar.f (k : Nat) (a0 : ByteArray) (a1 : Int) : Option (Int × Int × Bool) := (spec_l01In.f a1 0 (a0.size : Int)).bind fun t149 => (if t149 = true then (spec_ReadVar.l0 k a0 a1 0 1 a1) else (some (0, 0, false)))
def spec_ReadVar.T11 : Bool × List (List Nat × List Nat) := (true, [([], []), ([0], [0]), ([1], [1]), ([2], [2]), ([3, 2, 2], [2, 3]), ([2], [2]), ([2], [2]), ([2], [2]), ([7, 2], [2, 7]), ([5, 6, 8, 2], [2, 5, 6, 8]), ([4, 9, 2], [2, 4, 9]), ([2, 10], [2, 10])])
def spec_ReadVar.B11 : List Nat := [0, 1, 3, 7, 15, 7, 7, 7, 135, 487, 1023, 2047]
theorem spec_ReadVar.tab11 : rtab .any (opsOf Tryz.f67 11) = spec_ReadVar.T11 := by kernel_rfl
theorem spec_ReadVar.bits11 : waitsOk spec_ReadVar.T11.2 spec_ReadVar.B11 = true := by kernel_rfl
theorem spec_ReadVar.calls (k : Nat) (a0 : ByteArray) (a1 : Int) (r1 : Int) (r2 : Int) (r3 : Bool) (w : World) (H : spec_ReadVar.f k a0 a1 = some (r1, r2, r3)) :
 Calls Tryz.prog 67 #[.string a0, .int .i64 a1] w fun e w' => e = .returned (.tuple #[.int .i64 r1, .int .i64 r2, .bool r3]) ∧ Below w.heap.size w w' := by
 have HB := ak (Below.refl w.heap.size w); unfold spec_ReadVar.f at H; obtain ⟨t149, A3, H⟩ := bo H; cases t149; rotate_left; rw [if_pos rfl] at H; have H' := ak H; clear H; rotate_left; rw [if_neg nf] at H; obtain ⟨rfl, rfl, rfl⟩ := o3 H
 all_goals
  go_enter Tryz.func67, Tryz.ntmps67
  go_wp2_with (first | ((with_reducible refine gd 13 rfl ?_); refine gc 13 Tryz.func42 (spec_l01In.calls a1 0 (a0.size : Int) _ _ A3.out) fun w' h_ => ?_; obtain ⟨nd, rfl⟩ := h_))
 ·go_ret3
  exact ⟨fe, bt HB⟩
 ·go_loopg [7, 8, 9] k (fun kq v7 v8 v9 w' => ∃ (x7_1 : Int) (x8_1 : Int) (x9_1 : Int), v7 = .int .i64 x7_1 ∧ v8 = .int .i64 x8_1 ∧ v9 = .int .i64 x9_1 ∧ Aside0 (spec_ReadVar.l0 kq a0 a1 x7_1 x8_1 x9_1 = some (r1, r2, r3)) ∧ Aside0 (kq ≤ k) ∧ Aside0 (Below w.heap.size w w'))
  case atStart => exact ⟨(0), (1), (a1), fr, fr, fr, H', ⟨Nat.le_refl _⟩, ⟨bt HB⟩⟩
  case round =>
   clear H'; obtain ⟨x7_1, x8_1, x9_1, rfl, rfl, rfl, HA, HK1, HB⟩ := hrel
   cases gk with
   | zero => exact absurd HA.out (by simp [spec_ReadVar.l0])
   | succ k1 =>
    have H := HA.out; clear HA; simp only [spec_ReadVar.l0] at H; have HC5 := ak H; clear H
    go_upto_region 6 with (fail)
    go_cut [25] (fun v25 wc => ∃ (kq : Nat) (x25_4 : Bool), v25 = .bool x25_4 ∧ Aside0 (spec_ReadVar.j1 kq a0 a1 x7_1 x8_1 x9_1 x25_4 = some (r1, r2, r3)) ∧ Aside0 (kq ≤ k1) ∧ Aside0 (Below w.heap.size w wc))
    case first =>
     have H := HC5.out; clear HC5; revert H
     refine si (fun c6 H => ?_) fun c6 H => ?_
     ·have c6b0 := dt c6; clear c6
      (first | rw [c6b0] | (simp only [i64_w, i32_w]; rw [c6b0]) | skip)
      have H' := ak H; clear H; go_wp2; go_meet
      case rel => exact ⟨_, (decide (x9_1 < (wrap64 (a1 + 5)))), fr, H', ⟨by have := HK1.out; first | omega | exact Nat.le_refl _⟩, ⟨bt HB⟩⟩
     ·have c6b0 := df c6; clear c6
      (first | rw [c6b0] | (simp only [i64_w, i32_w]; rw [c6b0]) | skip)
      have H' := ak H; clear H; go_wp2; go_meet
      case rel => exact ⟨_, (false), fr, H', ⟨by have := HK1.out; first | omega | exact Nat.le_refl _⟩, ⟨bt HB⟩⟩
    case rest =>
     clear HC5; obtain ⟨kq, x25_4, rfl, HA, HJ4, HB⟩ := hcut
     cases kq with
     | zero => exact absurd HA.out (by simp [spec_ReadVar.j1])
     | succ kj4 =>
      have H := HA.out; clear HA; simp only [spec_ReadVar.j1] at H; cases x25_4; rotate_left
      ·rw [if_pos rfl] at H; obtain ⟨c8, H⟩ := ifs H; have c8b0 := dt c8; clear c8; obtain ⟨c9, H⟩ := ifs H; have c9b0 := dt c9; clear c9; revert H
       refine si (fun c12 H => ?_) fun c12 H => ?_
       ·have c12b0 := dt c12; clear c12; revert H
        refine si (fun c13 H => ?_) fun c13 H => ?_
        ·have c13b0 : decide (1000000000 < (wrap64 (x7_1 + (wrap64 ((Int.tmod (wrap64 (bt a0 x9_1)) 128) * x8_1))))) = true := dt c13; clear c13; obtain ⟨rfl, rfl, rfl⟩ := o3 H; have p10 : 0 ≤ (x9_1 : Int) := da; have q10 : x9_1 < (a0.size : Int) := da; have hx10 := bt_at a0 x9_1; replace p10 := eq_true p10; replace q10 := eq_true q10; have p11 : 0 ≤ (x9_1 : Int) := da; have q11 : x9_1 < (a0.size : Int) := da; have hx11 := bt_at a0 x9_1; replace p11 := eq_true p11; replace q11 := eq_true q11
         try go_wp2
         replace HB := ak (below_drew1 HB.out)
         refine st 12 (fun w' => True) spec_ReadVar.tab11 spec_ReadVar.bits11 trivial fun hHeld HT_ HW_ => ?_
         generalize wc.drew = w14 at HB hHeld ⊢
         refine pu HT_ 0 43 ?_; refine pu HT_ 1 44 ?_; refine pu HT_ 2 45 ?_; refine pz HT_ 3 46 ?_; refine pz HT_ 4 47 ?_; refine pz HT_ 5 48 ?_; refine pz HT_ 6 49 ?_; refine pz HT_ 7 50 ?_; refine pz HT_ 8 51 ?_; refine pz HT_ 9 52 ?_; refine pz HT_ 10 53 ?_; refine pu HT_ 11 54 ?_; refine dn HT_ ?_
         try go_wp2
         go_ret3
         exact ⟨fe, bt HB⟩
        ·have c13b0 : decide (1000000000 < (wrap64 (x7_1 + (wrap64 ((Int.tmod (wrap64 (bt a0 x9_1)) 128) * x8_1))))) = false := df c13; clear c13; obtain ⟨t150, A15, H⟩ := bo H; obtain ⟨c16, H⟩ := ifs H; have c16b0 := eq_true c16; have c16b1 := dt c16; clear c16; obtain ⟨c17, H⟩ := ifs H; have c17b0 := eq_true c17; have c17b1 := dt c17; obtain ⟨c18, H⟩ := ifs H; have c18b0 := eq_true c18; have c18b1 := dt c18; revert H
         refine si (fun c19 H => ?_) fun c19 H => ?_
         have c19b0 : (t150.toList == (a0.extract (a1 : Int).toNat ((wrap64 (x9_1 + 1)) : Int).toNat).toList) = true := beq_iff_eq.mpr c19; have c19b1 : (t150.toList != (a0.extract (a1 : Int).toNat ((wrap64 (x9_1 + 1)) : Int).toNat).toList) = false := bne_eq_false_iff_eq.mpr c19; clear c19; obtain ⟨rfl, rfl, rfl⟩ := o3 H; have p10 : 0 ≤ (x9_1 : Int) := da; have q10 : x9_1 < (a0.size : Int) := da; have hx10 := bt_at a0 x9_1; replace p10 := eq_true p10; replace q10 := eq_true q10; have p11 : 0 ≤ (x9_1 : Int) := da; have q11 : x9_1 < (a0.size : Int) := da; have hx11 := bt_at a0 x9_1; replace p11 := eq_true p11; replace q11 := eq_true q11; rotate_left; have c19b0 : (t150.toList == (a0.extract (a1 : Int).toNat ((wrap64 (x9_1 + 1)) : Int).toNat).toList) = false := beq_eq_false_iff_ne.mpr c19; have c19b1 : (t150.toList != (a0.extract (a1 : Int).toNat ((wrap64 (x9_1 + 1)) : Int).toNat).toList) = true := bne_iff_ne.mpr c19; obtain ⟨rfl, rfl, rfl⟩ := o3 H; have p10 : 0 ≤ (x9_1 : Int) := da; have q10 : x9_1 < (a0.size : Int) := da; have hx10 := bt_at a0 x9_1; replace p10 := eq_true p10; replace q10 := eq_true q10; have p11 : 0 ≤ (x9_1 : Int) := da; have q11 : x9_1 < (a0.size : Int) := da; have hx11 := bt_at a0 x9_1; replace p11 := eq_true p11; replace q11 := eq_true q11
         all_goals
          try go_wp2
          replace HB := ak (below_drew1 HB.out)
          refine st 12 (fun w' => True) spec_ReadVar.tab11 spec_ReadVar.bits11 trivial fun hHeld HT_ HW_ => ?_
          generalize wc.drew = w22 at HB hHeld ⊢
          refine pu HT_ 0 43 ?_; refine pu HT_ 1 44 ?_; refine pu HT_ 2 45 ?_; refine pu HT_ 3 46 ?_; refine pu HT_ 5 48 ?_; refine pu HT_ 6 49 ?_; refine pu HT_ 7 50 ?_; refine pu HT_ 8 51 ?_; refine pu HT_ 9 52 ?_
          refine on HT_ 4 47 fun K hK => ?_
          refine gq Tryz.func70 (spec_l01Var.calls kj4 (wrap64 (x7_1 + (wrap64 ((Int.tmod (wrap64 (bt a0 x9_1)) 128) * x8_1)))) t150 _ A15.out) fun w23 hb => ?_; replace HB := bs1 HB hb
          refine hK.out _ _ trivial (fun hHeld => ?_)
          clear hK K; refine nm 47 ?_; refine pu HT_ 10 53 ?_; refine pu HT_ 11 54 ?_; refine dn HT_ ?_
          try go_wp2
          go_ret3
          exact ⟨fe, bt HB⟩
       ·have c12b0 := df c12; clear c12; have H' := ak H; clear H; have p10 : 0 ≤ (x9_1 : Int) := da; have q10 : x9_1 < (a0.size : Int) := da; have hx10 := bt_at a0 x9_1; replace p10 := eq_true p10; replace q10 := eq_true q10; have p11 : 0 ≤ (x9_1 : Int) := da; have q11 : x9_1 < (a0.size : Int) := da; have hx11 := bt_at a0 x9_1; replace p11 := eq_true p11; replace q11 := eq_true q11; go_wp2; go_roundg kj4
        case measure => have := HK1.out; have := HJ4.out; omega
        case rel => exact ⟨(wrap64 (x7_1 + (wrap64 ((Int.tmod (wrap64 (bt a0 x9_1)) 128) * x8_1)))), (wrap64 (x8_1 * 128)), (wrap64 (x9_1 + 1)), fr, fr, fr, H', ⟨by have := HK1.out; have := HJ4.out; omega⟩, ⟨bt HB⟩⟩
      ·rw [if_neg nf] at H; obtain ⟨rfl, rfl, rfl⟩ := o3 H; go_wp2
       go_ret3
       exact ⟨fe, bt HB⟩
end Go.Proofs.YtdepaileabejgaaGreatDoor.PFnExactOpenJournal
