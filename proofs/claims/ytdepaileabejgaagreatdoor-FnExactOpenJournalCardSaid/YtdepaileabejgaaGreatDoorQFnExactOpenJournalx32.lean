/- Walks. No condition. -/
import Derived.Test.YtdepaileabejgaaGreatDoorQFnExactOpenJournalx30
namespace Go.Proofs.YtdepaileabejgaaGreatDoor.PFnExactOpenJournal
open Go.RowKit Go.Proofs.YtdepaileabejgaaGreatDoorW.PrintWords Go.Proofs.YtdepaileabejgaaGreatDoorW.PrintLast Go.Proofs.YtdepaileabejgaaGreatDoorW.PrintMore Go.Proofs.YtdepaileabejgaaGreatDoorW.Short
attribute [local go_sem] max2_int min2_int max_two min_two max_three min_three max_four min_four
set_option maxHeartbeats 8000000
set_option maxRecDepth 100000
set_option linter.unusedVariables false
set_option linter.unusedSimpArgs false
def laws_heldActS.l0 : Nat → List (S57) → Int → Int → Option (Int)
 | 0, _, _, _ => none
 | k + 1, x0, x1, x5 => if x5 < (x0.length : Int) then (if 0 ≤ x5 then (if ((rd_T57 x0 x5).f0) = x1 then ((laws_markText.f k (wrap64 (x1 + 1))).bind fun t771 => (if ((rd_T57 x0 x5).f1).toList = t771.toList then ((laws_markText.f k (wrap64 ((wrap64 (x1 + 1)) + 1))).bind fun t773 => (if ((rd_T57 x0 x5).f2).toList = t773.toList then ((laws_markText.f k (wrap64 ((wrap64 ((wrap64 (x1 + 1)) + 1)) + 1))).bind fun t775 => (if ((rd_T57 x0 x5).f3).toList = t775.toList then (laws_heldActS.l0 k x0 (wrap64 ((wrap64 ((wrap64 ((wrap64 (x1 + 1)) + 1)) + 1)) + 1)) (wrap64 (x5 + 1))) else (some (-1)))) else (some (-1)))) else (some (-1)))) else (some (-1))) else (none)) else (some x1)
def laws_heldActS.f (k : Nat) (l0 : List (S57)) (a1 : Int) : Option (Int) := laws_heldActS.l0 k l0 a1 0
def laws_heldActS.T7 : Bool × List (List Nat × List Nat) := (true, [([], []), ([], []), ([0, 1], [0, 1]), ([2], [2]), ([3], [3]), ([], []), ([5], [5]), ([4, 6], [4, 6])])
def laws_heldActS.B7 : List Nat := [0, 0, 3, 7, 15, 0, 32, 127]
theorem laws_heldActS.tab7 : rtab .any (opsOf Tryz.f15 7) = laws_heldActS.T7 := by kernel_rfl
theorem laws_heldActS.bits7 : waitsOk laws_heldActS.T7.2 laws_heldActS.B7 = true := by kernel_rfl
def laws_heldActS.T10 : Bool × List (List Nat × List Nat) := (true, [([], []), ([], []), ([0, 1], [0, 1]), ([2], [2]), ([3], [3]), ([], []), ([5], [5]), ([4, 6], [4, 6])])
def laws_heldActS.B10 : List Nat := [0, 0, 3, 7, 15, 0, 32, 127]
theorem laws_heldActS.tab10 : rtab .any (opsOf Tryz.f15 10) = laws_heldActS.T10 := by kernel_rfl
theorem laws_heldActS.bits10 : waitsOk laws_heldActS.T10.2 laws_heldActS.B10 = true := by kernel_rfl
def laws_heldActS.T13 : Bool × List (List Nat × List Nat) := (true, [([], []), ([], []), ([0, 1], [0, 1]), ([2], [2]), ([3], [3]), ([], []), ([5], [5]), ([4, 6], [4, 6])])
def laws_heldActS.B13 : List Nat := [0, 0, 3, 7, 15, 0, 32, 127]
theorem laws_heldActS.tab13 : rtab .any (opsOf Tryz.f15 13) = laws_heldActS.T13 := by kernel_rfl
theorem laws_heldActS.bits13 : waitsOk laws_heldActS.T13.2 laws_heldActS.B13 = true := by kernel_rfl
theorem laws_heldActS.calls (k : Nat) (A0 : Option Addr) (c0 : Nat) (l0 : List (S57)) (a1 : Int) (r : Int) (w : World) (hr0 : Kd.C k57 w A0 l0.length l0) (hc0 : l0.length ≤ c0) (H : laws_heldActS.f k l0 a1 = some r) :
 Calls Tryz.prog 15 #[.slice A0 l0.length c0, .int .i64 a1] w fun e w' => e = .returned (.int .i64 r) ∧ Below w.heap.size w w' := by
 have HR0 := ak hr0; have HC0 := ak hc0; clear hr0 hc0; have HB := ak (Below.refl w.heap.size w); unfold laws_heldActS.f at H; have H' := ak H; clear H; go_enter Tryz.func15, Tryz.ntmps15; go_wp2
 go_loopg [1, 5] k (fun kq v1 v5 w' => ∃ (x1_1 : Int) (x5_1 : Int), v1 = .int .i64 x1_1 ∧ v5 = .int .i64 x5_1 ∧ Aside0 (laws_heldActS.l0 kq l0 x1_1 x5_1 = some r) ∧ Aside0 (kq ≤ k) ∧ Aside0 (Below w.heap.size w w'))
 case atStart => exact ⟨(a1), (0), fr, fr, H', ⟨Nat.le_refl _⟩, ⟨bt HB⟩⟩
 case round =>
  clear H'; obtain ⟨x1_1, x5_1, rfl, rfl, HA, HK1, HB⟩ := hrel
  cases gk with
  | zero => exact absurd HA.out (by simp [laws_heldActS.l0])
  | succ k1 =>
   have H := HA.out; clear HA; simp only [laws_heldActS.l0] at H; revert H
   refine si (fun c3 H => ?_) fun c3 H => ?_
   ·have c3b0 := dt c3; clear c3; obtain ⟨c4, H⟩ := ifs H; have c4b0 := dt c4; clear c4; revert H
    refine si (fun c5 H => ?_) fun c5 H => ?_
    ·have c5b0 : (((rd_T57 l0 x5_1).f0) == x1_1) = true := beq_iff_eq.mpr c5; have c5b1 : (((rd_T57 l0 x5_1).f0) != x1_1) = false := bne_eq_false_iff_eq.mpr c5; clear c5; obtain ⟨t771, A6, H⟩ := bo H; revert H
     refine si (fun c7 H => ?_) fun c7 H => ?_
     focus
      have c7b0 : (((rd_T57 l0 x5_1).f1).toList == t771.toList) = true := beq_iff_eq.mpr c7; have c7b1 : (((rd_T57 l0 x5_1).f1).toList != t771.toList) = false := bne_eq_false_iff_eq.mpr c7; clear c7; obtain ⟨t773, A8, H⟩ := bo H; revert H
      refine si (fun c9 H => ?_) fun c9 H => ?_
      focus
       have c9b0 : (((rd_T57 l0 x5_1).f2).toList == t773.toList) = true := beq_iff_eq.mpr c9; have c9b1 : (((rd_T57 l0 x5_1).f2).toList != t773.toList) = false := bne_eq_false_iff_eq.mpr c9; clear c9; obtain ⟨t775, A10, H⟩ := bo H; revert H
       refine si (fun c11 H => ?_) fun c11 H => ?_
       have c11b0 : (((rd_T57 l0 x5_1).f3).toList == t775.toList) = true := beq_iff_eq.mpr c11; have c11b1 : (((rd_T57 l0 x5_1).f3).toList != t775.toList) = false := bne_eq_false_iff_eq.mpr c11; clear c11; have H' := ak H; clear H; obtain ⟨ad769, e769, hx769_0, hx769_1, hx769_2, hx769_3, p769, q769⟩ := ax57 HR0 HB x5_1; cases e769; rotate_left; have c11b0 : (((rd_T57 l0 x5_1).f3).toList == t775.toList) = false := beq_eq_false_iff_ne.mpr c11; have c11b1 : (((rd_T57 l0 x5_1).f3).toList != t775.toList) = true := bne_iff_ne.mpr c11; obtain rfl := oj H; obtain ⟨ad769, e769, hx769_0, hx769_1, hx769_2, hx769_3, p769, q769⟩ := ax57 HR0 HB x5_1; cases e769
      rotate_left 2; have c9b0 : (((rd_T57 l0 x5_1).f2).toList == t773.toList) = false := beq_eq_false_iff_ne.mpr c9; have c9b1 : (((rd_T57 l0 x5_1).f2).toList != t773.toList) = true := bne_iff_ne.mpr c9; obtain rfl := oj H; obtain ⟨ad769, e769, hx769_0, hx769_1, hx769_2, hx769_3, p769, q769⟩ := ax57 HR0 HB x5_1; cases e769
     rotate_left 3; have c7b0 : (((rd_T57 l0 x5_1).f1).toList == t771.toList) = false := beq_eq_false_iff_ne.mpr c7; have c7b1 : (((rd_T57 l0 x5_1).f1).toList != t771.toList) = true := bne_iff_ne.mpr c7; obtain rfl := oj H; obtain ⟨ad769, e769, hx769_0, hx769_1, hx769_2, hx769_3, p769, q769⟩ := ax57 HR0 HB x5_1; cases e769
     all_goals
      try go_wp2
      replace HB := ak (below_drew1 HB.out); have p770 : 0 ≤ (x5_1 : Int) := da; have q770 : x5_1 < (l0.length : Int) := da; obtain ⟨ad770, e770, hx770_0, hx770_1, hx770_2, hx770_3⟩ := at_T57 HR0.out x5_1 p770 q770; have hw770_3 := hx770_3; have hw770_2 := hx770_2; have hw770_1 := hx770_1; have hw770_0 := hx770_0
      obtain rfl : ad769 = ad770 := (by injection e770)
      replace hx770_0 := xb HB hx770_0; replace hx770_1 := xb HB hx770_1; replace hx770_2 := xb HB hx770_2; replace hx770_3 := xb HB hx770_3; replace p770 := eq_true p770; replace q770 := eq_true q770
      refine st 8 (fun w' => w'.cell? (ad769.add ((x5_1).toNat * 4)) = some (.int .i64 ((rd_T57 l0 x5_1).f0)) ∧ w'.cell? ⟨(ad769.add ((x5_1).toNat * 4)).block, (ad769.add ((x5_1).toNat * 4)).off + 1, none⟩ = some (.string ((rd_T57 l0 x5_1).f1)) ∧ w'.cell? ⟨(ad769.add ((x5_1).toNat * 4)).block, (ad769.add ((x5_1).toNat * 4)).off + 2, none⟩ = some (.string ((rd_T57 l0 x5_1).f2)) ∧ w'.cell? ⟨(ad769.add ((x5_1).toNat * 4)).block, (ad769.add ((x5_1).toNat * 4)).off + 3, none⟩ = some (.string ((rd_T57 l0 x5_1).f3))) laws_heldActS.tab7 laws_heldActS.bits7 ⟨xc HB hw770_0, xc HB hw770_1, xc HB hw770_2, xc HB hw770_3⟩ fun hHeld HT_ HW_ => ?_
     ·generalize wr.drew = w28 at HB hx770_0 hx770_1 hx770_2 hx770_3 hHeld ⊢
      refine pu HT_ 0 21 ?_; refine pu HT_ 1 22 ?_; refine pu HT_ 2 23 ?_; refine pu HT_ 3 24 ?_; refine pu HT_ 5 26 ?_; refine tk HT_ HW_ hHeld 4 25 ?_
      refine on HT_ 6 27 fun K hK => ?_
      refine gq Tryz.func38 (laws_markText.calls k1 (wrap64 (x1_1 + 1)) t771 _ A6.out) fun w29 hb => ?_; replace HB := bs1 HB hb
      refine hK.out _ _ ⟨xc HB hw770_0, xc HB hw770_1, xc HB hw770_2, xc HB hw770_3⟩ fun hHeld => ?_
      clear hK K; refine nm 27 ?_; refine pu HT_ 7 28 ?_; refine dn HT_ ?_
      try go_wp2
      go_ret; exact ⟨fe, bt HB⟩
     ·generalize wr.drew = w24 at HB hx770_0 hx770_1 hx770_2 hx770_3 hHeld ⊢
      refine pu HT_ 0 21 ?_; refine pu HT_ 1 22 ?_; refine pu HT_ 2 23 ?_; refine pu HT_ 3 24 ?_; refine pu HT_ 5 26 ?_; refine tk HT_ HW_ hHeld 4 25 ?_
      refine on HT_ 6 27 fun K hK => ?_
      refine gq Tryz.func38 (laws_markText.calls k1 (wrap64 (x1_1 + 1)) t771 _ A6.out) fun w25 hb => ?_; replace HB := bs1 HB hb
      refine hK.out _ _ ⟨xc HB hw770_0, xc HB hw770_1, xc HB hw770_2, xc HB hw770_3⟩ fun hHeld => ?_
      clear hK K; refine nm 27 ?_; refine pu HT_ 7 28 ?_; refine dn HT_ ?_
      try go_wp2
      replace HB := ak (below_drew1 HB.out); have p772 : 0 ≤ (x5_1 : Int) := da; have q772 : x5_1 < (l0.length : Int) := da; obtain ⟨ad772, e772, hx772_0, hx772_1, hx772_2, hx772_3⟩ := at_T57 HR0.out x5_1 p772 q772; have hw772_3 := hx772_3; have hw772_2 := hx772_2; have hw772_1 := hx772_1; have hw772_0 := hx772_0
      obtain rfl : ad769 = ad772 := (by injection e772)
      replace hx772_0 := xb HB hx772_0; replace hx772_1 := xb HB hx772_1; replace hx772_2 := xb HB hx772_2; replace hx772_3 := xb HB hx772_3; replace p772 := eq_true p772; replace q772 := eq_true q772
      refine st 8 (fun w' => w'.cell? (ad769.add ((x5_1).toNat * 4)) = some (.int .i64 ((rd_T57 l0 x5_1).f0)) ∧ w'.cell? ⟨(ad769.add ((x5_1).toNat * 4)).block, (ad769.add ((x5_1).toNat * 4)).off + 1, none⟩ = some (.string ((rd_T57 l0 x5_1).f1)) ∧ w'.cell? ⟨(ad769.add ((x5_1).toNat * 4)).block, (ad769.add ((x5_1).toNat * 4)).off + 2, none⟩ = some (.string ((rd_T57 l0 x5_1).f2)) ∧ w'.cell? ⟨(ad769.add ((x5_1).toNat * 4)).block, (ad769.add ((x5_1).toNat * 4)).off + 3, none⟩ = some (.string ((rd_T57 l0 x5_1).f3))) laws_heldActS.tab10 laws_heldActS.bits10 ⟨xc HB hw772_0, xc HB hw772_1, xc HB hw772_2, xc HB hw772_3⟩ fun hHeld HT_ HW_ => ?_
      generalize w25.drew = w26 at HB hx772_0 hx772_1 hx772_2 hx772_3 hHeld ⊢
      refine pu HT_ 0 31 ?_; refine pu HT_ 1 32 ?_; refine pu HT_ 2 33 ?_; refine pu HT_ 3 34 ?_; refine pu HT_ 5 36 ?_; refine tk HT_ HW_ hHeld 4 35 ?_
      refine on HT_ 6 37 fun K hK => ?_
      refine gq Tryz.func38 (laws_markText.calls k1 (wrap64 ((wrap64 (x1_1 + 1)) + 1)) t773 _ A8.out) fun w27 hb => ?_; replace HB := bs1 HB hb
      refine hK.out _ _ ⟨xc HB hw772_0, xc HB hw772_1, xc HB hw772_2, xc HB hw772_3⟩ fun hHeld => ?_
      clear hK K; refine nm 37 ?_; refine pu HT_ 7 38 ?_; refine dn HT_ ?_
      try go_wp2
      go_ret; exact ⟨fe, bt HB⟩
     ·generalize wr.drew = w18 at HB hx770_0 hx770_1 hx770_2 hx770_3 hHeld ⊢
      refine pu HT_ 0 21 ?_; refine pu HT_ 1 22 ?_; refine pu HT_ 2 23 ?_; refine pu HT_ 3 24 ?_; refine pu HT_ 5 26 ?_; refine tk HT_ HW_ hHeld 4 25 ?_
      refine on HT_ 6 27 fun K hK => ?_
      refine gq Tryz.func38 (laws_markText.calls k1 (wrap64 (x1_1 + 1)) t771 _ A6.out) fun w19 hb => ?_; replace HB := bs1 HB hb
      refine hK.out _ _ ⟨xc HB hw770_0, xc HB hw770_1, xc HB hw770_2, xc HB hw770_3⟩ fun hHeld => ?_
      clear hK K; refine nm 27 ?_; refine pu HT_ 7 28 ?_; refine dn HT_ ?_
      try go_wp2
      replace HB := ak (below_drew1 HB.out); have p772 : 0 ≤ (x5_1 : Int) := da; have q772 : x5_1 < (l0.length : Int) := da; obtain ⟨ad772, e772, hx772_0, hx772_1, hx772_2, hx772_3⟩ := at_T57 HR0.out x5_1 p772 q772; have hw772_3 := hx772_3; have hw772_2 := hx772_2; have hw772_1 := hx772_1; have hw772_0 := hx772_0
      obtain rfl : ad769 = ad772 := (by injection e772)
      replace hx772_0 := xb HB hx772_0; replace hx772_1 := xb HB hx772_1; replace hx772_2 := xb HB hx772_2; replace hx772_3 := xb HB hx772_3; replace p772 := eq_true p772; replace q772 := eq_true q772
      refine st 8 (fun w' => w'.cell? (ad769.add ((x5_1).toNat * 4)) = some (.int .i64 ((rd_T57 l0 x5_1).f0)) ∧ w'.cell? ⟨(ad769.add ((x5_1).toNat * 4)).block, (ad769.add ((x5_1).toNat * 4)).off + 1, none⟩ = some (.string ((rd_T57 l0 x5_1).f1)) ∧ w'.cell? ⟨(ad769.add ((x5_1).toNat * 4)).block, (ad769.add ((x5_1).toNat * 4)).off + 2, none⟩ = some (.string ((rd_T57 l0 x5_1).f2)) ∧ w'.cell? ⟨(ad769.add ((x5_1).toNat * 4)).block, (ad769.add ((x5_1).toNat * 4)).off + 3, none⟩ = some (.string ((rd_T57 l0 x5_1).f3))) laws_heldActS.tab10 laws_heldActS.bits10 ⟨xc HB hw772_0, xc HB hw772_1, xc HB hw772_2, xc HB hw772_3⟩ fun hHeld HT_ HW_ => ?_
      generalize w19.drew = w20 at HB hx772_0 hx772_1 hx772_2 hx772_3 hHeld ⊢
      refine pu HT_ 0 31 ?_; refine pu HT_ 1 32 ?_; refine pu HT_ 2 33 ?_; refine pu HT_ 3 34 ?_; refine pu HT_ 5 36 ?_; refine tk HT_ HW_ hHeld 4 35 ?_
      refine on HT_ 6 37 fun K hK => ?_
      refine gq Tryz.func38 (laws_markText.calls k1 (wrap64 ((wrap64 (x1_1 + 1)) + 1)) t773 _ A8.out) fun w21 hb => ?_; replace HB := bs1 HB hb
      refine hK.out _ _ ⟨xc HB hw772_0, xc HB hw772_1, xc HB hw772_2, xc HB hw772_3⟩ fun hHeld => ?_
      clear hK K; refine nm 37 ?_; refine pu HT_ 7 38 ?_; refine dn HT_ ?_
      try go_wp2
      replace HB := ak (below_drew1 HB.out); have p774 : 0 ≤ (x5_1 : Int) := da; have q774 : x5_1 < (l0.length : Int) := da; obtain ⟨ad774, e774, hx774_0, hx774_1, hx774_2, hx774_3⟩ := at_T57 HR0.out x5_1 p774 q774; have hw774_3 := hx774_3; have hw774_2 := hx774_2; have hw774_1 := hx774_1; have hw774_0 := hx774_0
      obtain rfl : ad769 = ad774 := (by injection e774)
      replace hx774_0 := xb HB hx774_0; replace hx774_1 := xb HB hx774_1; replace hx774_2 := xb HB hx774_2; replace hx774_3 := xb HB hx774_3; replace p774 := eq_true p774; replace q774 := eq_true q774
      refine st 8 (fun w' => w'.cell? (ad769.add ((x5_1).toNat * 4)) = some (.int .i64 ((rd_T57 l0 x5_1).f0)) ∧ w'.cell? ⟨(ad769.add ((x5_1).toNat * 4)).block, (ad769.add ((x5_1).toNat * 4)).off + 1, none⟩ = some (.string ((rd_T57 l0 x5_1).f1)) ∧ w'.cell? ⟨(ad769.add ((x5_1).toNat * 4)).block, (ad769.add ((x5_1).toNat * 4)).off + 2, none⟩ = some (.string ((rd_T57 l0 x5_1).f2)) ∧ w'.cell? ⟨(ad769.add ((x5_1).toNat * 4)).block, (ad769.add ((x5_1).toNat * 4)).off + 3, none⟩ = some (.string ((rd_T57 l0 x5_1).f3))) laws_heldActS.tab13 laws_heldActS.bits13 ⟨xc HB hw774_0, xc HB hw774_1, xc HB hw774_2, xc HB hw774_3⟩ fun hHeld HT_ HW_ => ?_
      generalize w21.drew = w22 at HB hx774_0 hx774_1 hx774_2 hx774_3 hHeld ⊢
      refine pu HT_ 0 41 ?_; refine pu HT_ 1 42 ?_; refine pu HT_ 2 43 ?_; refine pu HT_ 3 44 ?_; refine pu HT_ 5 46 ?_; refine tk HT_ HW_ hHeld 4 45 ?_
      refine on HT_ 6 47 fun K hK => ?_
      refine gq Tryz.func38 (laws_markText.calls k1 (wrap64 ((wrap64 ((wrap64 (x1_1 + 1)) + 1)) + 1)) t775 _ A10.out) fun w23 hb => ?_; replace HB := bs1 HB hb
      refine hK.out _ _ ⟨xc HB hw774_0, xc HB hw774_1, xc HB hw774_2, xc HB hw774_3⟩ fun hHeld => ?_
      clear hK K; refine nm 47 ?_; refine pu HT_ 7 48 ?_; refine dn HT_ ?_
      try go_wp2
      go_ret; exact ⟨fe, bt HB⟩
     ·generalize wr.drew = w12 at HB hx770_0 hx770_1 hx770_2 hx770_3 hHeld ⊢
      refine pu HT_ 0 21 ?_; refine pu HT_ 1 22 ?_; refine pu HT_ 2 23 ?_; refine pu HT_ 3 24 ?_; refine pu HT_ 5 26 ?_; refine tk HT_ HW_ hHeld 4 25 ?_
      refine on HT_ 6 27 fun K hK => ?_
      refine gq Tryz.func38 (laws_markText.calls k1 (wrap64 (x1_1 + 1)) t771 _ A6.out) fun w13 hb => ?_; replace HB := bs1 HB hb
      refine hK.out _ _ ⟨xc HB hw770_0, xc HB hw770_1, xc HB hw770_2, xc HB hw770_3⟩ fun hHeld => ?_
      clear hK K; refine nm 27 ?_; refine pu HT_ 7 28 ?_; refine dn HT_ ?_
      try go_wp2
      replace HB := ak (below_drew1 HB.out); have p772 : 0 ≤ (x5_1 : Int) := da; have q772 : x5_1 < (l0.length : Int) := da; obtain ⟨ad772, e772, hx772_0, hx772_1, hx772_2, hx772_3⟩ := at_T57 HR0.out x5_1 p772 q772; have hw772_3 := hx772_3; have hw772_2 := hx772_2; have hw772_1 := hx772_1; have hw772_0 := hx772_0
      obtain rfl : ad769 = ad772 := (by injection e772)
      replace hx772_0 := xb HB hx772_0; replace hx772_1 := xb HB hx772_1; replace hx772_2 := xb HB hx772_2; replace hx772_3 := xb HB hx772_3; replace p772 := eq_true p772; replace q772 := eq_true q772
      refine st 8 (fun w' => w'.cell? (ad769.add ((x5_1).toNat * 4)) = some (.int .i64 ((rd_T57 l0 x5_1).f0)) ∧ w'.cell? ⟨(ad769.add ((x5_1).toNat * 4)).block, (ad769.add ((x5_1).toNat * 4)).off + 1, none⟩ = some (.string ((rd_T57 l0 x5_1).f1)) ∧ w'.cell? ⟨(ad769.add ((x5_1).toNat * 4)).block, (ad769.add ((x5_1).toNat * 4)).off + 2, none⟩ = some (.string ((rd_T57 l0 x5_1).f2)) ∧ w'.cell? ⟨(ad769.add ((x5_1).toNat * 4)).block, (ad769.add ((x5_1).toNat * 4)).off + 3, none⟩ = some (.string ((rd_T57 l0 x5_1).f3))) laws_heldActS.tab10 laws_heldActS.bits10 ⟨xc HB hw772_0, xc HB hw772_1, xc HB hw772_2, xc HB hw772_3⟩ fun hHeld HT_ HW_ => ?_
      generalize w13.drew = w14 at HB hx772_0 hx772_1 hx772_2 hx772_3 hHeld ⊢
      refine pu HT_ 0 31 ?_; refine pu HT_ 1 32 ?_; refine pu HT_ 2 33 ?_; refine pu HT_ 3 34 ?_; refine pu HT_ 5 36 ?_; refine tk HT_ HW_ hHeld 4 35 ?_
      refine on HT_ 6 37 fun K hK => ?_
      refine gq Tryz.func38 (laws_markText.calls k1 (wrap64 ((wrap64 (x1_1 + 1)) + 1)) t773 _ A8.out) fun w15 hb => ?_; replace HB := bs1 HB hb
      refine hK.out _ _ ⟨xc HB hw772_0, xc HB hw772_1, xc HB hw772_2, xc HB hw772_3⟩ fun hHeld => ?_
      clear hK K; refine nm 37 ?_; refine pu HT_ 7 38 ?_; refine dn HT_ ?_
      try go_wp2
      replace HB := ak (below_drew1 HB.out); have p774 : 0 ≤ (x5_1 : Int) := da; have q774 : x5_1 < (l0.length : Int) := da; obtain ⟨ad774, e774, hx774_0, hx774_1, hx774_2, hx774_3⟩ := at_T57 HR0.out x5_1 p774 q774; have hw774_3 := hx774_3; have hw774_2 := hx774_2; have hw774_1 := hx774_1; have hw774_0 := hx774_0
      obtain rfl : ad769 = ad774 := (by injection e774)
      replace hx774_0 := xb HB hx774_0; replace hx774_1 := xb HB hx774_1; replace hx774_2 := xb HB hx774_2; replace hx774_3 := xb HB hx774_3; replace p774 := eq_true p774; replace q774 := eq_true q774
      refine st 8 (fun w' => w'.cell? (ad769.add ((x5_1).toNat * 4)) = some (.int .i64 ((rd_T57 l0 x5_1).f0)) ∧ w'.cell? ⟨(ad769.add ((x5_1).toNat * 4)).block, (ad769.add ((x5_1).toNat * 4)).off + 1, none⟩ = some (.string ((rd_T57 l0 x5_1).f1)) ∧ w'.cell? ⟨(ad769.add ((x5_1).toNat * 4)).block, (ad769.add ((x5_1).toNat * 4)).off + 2, none⟩ = some (.string ((rd_T57 l0 x5_1).f2)) ∧ w'.cell? ⟨(ad769.add ((x5_1).toNat * 4)).block, (ad769.add ((x5_1).toNat * 4)).off + 3, none⟩ = some (.string ((rd_T57 l0 x5_1).f3))) laws_heldActS.tab13 laws_heldActS.bits13 ⟨xc HB hw774_0, xc HB hw774_1, xc HB hw774_2, xc HB hw774_3⟩ fun hHeld HT_ HW_ => ?_
      generalize w15.drew = w16 at HB hx774_0 hx774_1 hx774_2 hx774_3 hHeld ⊢
      refine pu HT_ 0 41 ?_; refine pu HT_ 1 42 ?_; refine pu HT_ 2 43 ?_; refine pu HT_ 3 44 ?_; refine pu HT_ 5 46 ?_; refine tk HT_ HW_ hHeld 4 45 ?_
      refine on HT_ 6 47 fun K hK => ?_
      refine gq Tryz.func38 (laws_markText.calls k1 (wrap64 ((wrap64 ((wrap64 (x1_1 + 1)) + 1)) + 1)) t775 _ A10.out) fun w17 hb => ?_; replace HB := bs1 HB hb
      refine hK.out _ _ ⟨xc HB hw774_0, xc HB hw774_1, xc HB hw774_2, xc HB hw774_3⟩ fun hHeld => ?_
      clear hK K; refine nm 47 ?_; refine pu HT_ 7 48 ?_; refine dn HT_ ?_
      try go_wp2
      go_roundg k1
      case measure => have := HK1.out; omega
      case rel => exact ⟨(wrap64 ((wrap64 ((wrap64 ((wrap64 (x1_1 + 1)) + 1)) + 1)) + 1)), (wrap64 (x5_1 + 1)), fr, fr, H', ⟨by have := HK1.out; omega⟩, ⟨bt HB⟩⟩
    ·have c5b0 : (((rd_T57 l0 x5_1).f0) == x1_1) = false := beq_eq_false_iff_ne.mpr c5; have c5b1 : (((rd_T57 l0 x5_1).f0) != x1_1) = true := bne_iff_ne.mpr c5; obtain rfl := oj H; obtain ⟨ad769, e769, hx769_0, hx769_1, hx769_2, hx769_3, p769, q769⟩ := ax57 HR0 HB x5_1; cases e769; go_wp2; go_ret; exact ⟨fe, bt HB⟩
   ·have c3b0 := df c3; clear c3; obtain rfl := oj H; go_wp2; go_ret; exact ⟨fe, bt HB⟩
end Go.Proofs.YtdepaileabejgaaGreatDoor.PFnExactOpenJournal
