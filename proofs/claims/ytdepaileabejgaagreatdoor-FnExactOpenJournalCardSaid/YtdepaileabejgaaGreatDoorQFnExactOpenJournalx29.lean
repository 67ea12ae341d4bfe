/- Walks. No condition. -/
import Derived.Test.YtdepaileabejgaaGreatDoorQFnExactOpenJournalx28
namespace Go.Proofs.YtdepaileabejgaaGreatDoor.PFnExactOpenJournal
open Go.RowKit Go.Proofs.YtdepaileabejgaaGreatDoorW.PrintWords Go.Proofs.YtdepaileabejgaaGreatDoorW.PrintLast Go.Proofs.YtdepaileabejgaaGreatDoorW.PrintMore Go.Proofs.YtdepaileabejgaaGreatDoorW.Short
attribute [local go_sem] max2_int min2_int max_two min_two max_three min_three max_four min_four
set_option maxHeartbeats 8000000
set_option maxRecDepth 100000
set_option linter.unusedVariables false
set_option linter.unusedSimpArgs false
def laws_eqActS.l0 : Nat → List (S57) → List (S57) → Int → Option (Bool)
 | 0, _, _, _ => none
 | k + 1, x0, x1, x5 => if x5 < (x0.length : Int) then (if 0 ≤ x5 then (if x5 < (x1.length : Int) then ((laws_eqAct.f ((rd_T57 x0 x5).f0) ((rd_T57 x0 x5).f1) ((rd_T57 x0 x5).f2) ((rd_T57 x0 x5).f3) ((rd_T57 x1 x5).f0) ((rd_T57 x1 x5).f1) ((rd_T57 x1 x5).f2) ((rd_T57 x1 x5).f3)).bind fun t724 => (if t724 = true then (laws_eqActS.l0 k x0 x1 (wrap64 (x5 + 1))) else (some false))) else (none)) else (none)) else (some true)
def laws_eqActS.f (k : Nat) (l0 : List (S57)) (l1 : List (S57)) : Option (Bool) := if (l0.length : Int) = (l1.length : Int) then (laws_eqActS.l0 k l0 l1 0) else (some false)
def laws_eqActS.T6 : Bool × List (List Nat × List Nat) := (true, [([], []), ([], []), ([0, 1], [0, 1]), ([2], [2]), ([], []), ([], []), ([4, 5], [4, 5]), ([6], [6]), ([3, 7], [3, 7]), ([8], [8])])
def laws_eqActS.B6 : List Nat := [0, 0, 3, 7, 0, 0, 48, 112, 255, 511]
theorem laws_eqActS.tab6 : rtab .any (opsOf Tryz.f9 6) = laws_eqActS.T6 := by kernel_rfl
theorem laws_eqActS.bits6 : waitsOk laws_eqActS.T6.2 laws_eqActS.B6 = true := by kernel_rfl
theorem laws_eqActS.calls (k : Nat) (A0 : Option Addr) (c0 : Nat) (l0 : List (S57)) (A1 : Option Addr) (c1 : Nat) (l1 : List (S57)) (r : Bool) (w : World) (hr0 : Kd.C k57 w A0 l0.length l0) (hc0 : l0.length ≤ c0) (hr1 : Kd.C k57 w A1 l1.length l1) (hc1 : l1.length ≤ c1) (H : laws_eqActS.f k l0 l1 = some r) :
 Calls Tryz.prog 9 #[.slice A0 l0.length c0, .slice A1 l1.length c1] w fun e w' => e = .returned (.bool r) ∧ Below w.heap.size w w' := by
 have hu57 := Tryz.underlying57; have HR0 := ak hr0; have HC0 := ak hc0; clear hr0 hc0; have HR1 := ak hr1; have HC1 := ak hc1; clear hr1 hc1; have HB := ak (Below.refl w.heap.size w); unfold laws_eqActS.f at H; revert H
 refine si (fun c3 H => ?_) fun c3 H => ?_
 ·have c3b0 : ((l0.length : Int) == (l1.length : Int)) = true := beq_iff_eq.mpr c3; have c3b1 : ((l0.length : Int) != (l1.length : Int)) = false := bne_eq_false_iff_eq.mpr c3
  have c3b2 : (l0.length == l1.length) = true := by first | simpa using c3 | (simp at c3 ⊢; omega)
  clear c3; have H' := ak H; clear H; go_enter Tryz.func9, Tryz.ntmps9; go_wp2
  go_loopg [5] k (fun kq v5 w' => ∃ (x5_1 : Int), v5 = .int .i64 x5_1 ∧ Aside0 (laws_eqActS.l0 kq l0 l1 x5_1 = some r) ∧ Aside0 (kq ≤ k) ∧ Aside0 (Below w.heap.size w w'))
  case atStart => exact ⟨(0), fr, H', ⟨Nat.le_refl _⟩, ⟨bt HB⟩⟩
  case round =>
   clear H'; obtain ⟨x5_1, rfl, HA, HK1, HB⟩ := hrel
   cases gk with
   | zero => exact absurd HA.out (by simp [laws_eqActS.l0])
   | succ k1 =>
    have H := HA.out; clear HA; simp only [laws_eqActS.l0] at H; revert H
    refine si (fun c4 H => ?_) fun c4 H => ?_
    ·have c4b0 := dt c4; clear c4; obtain ⟨c5, H⟩ := ifs H; have c5b0 := dt c5; clear c5; obtain ⟨c6, H⟩ := ifs H; have c6b0 := dt c6; clear c6; obtain ⟨t724, A7, H⟩ := bo H; cases t724; rotate_left; rw [if_pos rfl] at H; have H' := ak H; clear H; rotate_left; rw [if_neg nf] at H; obtain rfl := oj H
     all_goals
      try go_wp2
      replace HB := ak (below_drew1 HB.out); have p722 : 0 ≤ (x5_1 : Int) := da; have q722 : x5_1 < (l0.length : Int) := da; obtain ⟨ad722, e722, hx722_0, hx722_1, hx722_2, hx722_3⟩ := at_T57 HR0.out x5_1 p722 q722; have hw722_3 := hx722_3; have hw722_2 := hx722_2; have hw722_1 := hx722_1; have hw722_0 := hx722_0; cases e722; replace hx722_0 := xb HB hx722_0; replace hx722_1 := xb HB hx722_1; replace hx722_2 := xb HB hx722_2; replace hx722_3 := xb HB hx722_3; replace p722 := eq_true p722; replace q722 := eq_true q722; have p723 : 0 ≤ (x5_1 : Int) := da; have q723 : x5_1 < (l1.length : Int) := da; obtain ⟨ad723, e723, hx723_0, hx723_1, hx723_2, hx723_3⟩ := at_T57 HR1.out x5_1 p723 q723; have hw723_3 := hx723_3; have hw723_2 := hx723_2; have hw723_1 := hx723_1; have hw723_0 := hx723_0; cases e723; replace hx723_0 := xb HB hx723_0; replace hx723_1 := xb HB hx723_1; replace hx723_2 := xb HB hx723_2; replace hx723_3 := xb HB hx723_3; replace p723 := eq_true p723; replace q723 := eq_true q723
      refine st 10 (fun w' => w'.cell? (ad722.add ((x5_1).toNat * 4)) = some (.int .i64 ((rd_T57 l0 x5_1).f0)) ∧ w'.cell? ⟨(ad722.add ((x5_1).toNat * 4)).block, (ad722.add ((x5_1).toNat * 4)).off + 1, none⟩ = some (.string ((rd_T57 l0 x5_1).f1)) ∧ w'.cell? ⟨(ad722.add ((x5_1).toNat * 4)).block, (ad722.add ((x5_1).toNat * 4)).off + 2, none⟩ = some (.string ((rd_T57 l0 x5_1).f2)) ∧ w'.cell? ⟨(ad722.add ((x5_1).toNat * 4)).block, (ad722.add ((x5_1).toNat * 4)).off + 3, none⟩ = some (.string ((rd_T57 l0 x5_1).f3)) ∧ w'.cell? (ad723.add ((x5_1).toNat * 4)) = some (.int .i64 ((rd_T57 l1 x5_1).f0)) ∧ w'.cell? ⟨(ad723.add ((x5_1).toNat * 4)).block, (ad723.add ((x5_1).toNat * 4)).off + 1, none⟩ = some (.string ((rd_T57 l1 x5_1).f1)) ∧ w'.cell? ⟨(ad723.add ((x5_1).toNat * 4)).block, (ad723.add ((x5_1).toNat * 4)).off + 2, none⟩ = some (.string ((rd_T57 l1 x5_1).f2)) ∧ w'.cell? ⟨(ad723.add ((x5_1).toNat * 4)).block, (ad723.add ((x5_1).toNat * 4)).off + 3, none⟩ = some (.string ((rd_T57 l1 x5_1).f3))) laws_eqActS.tab6 laws_eqActS.bits6 ⟨xc HB hw722_0, xc HB hw722_1, xc HB hw722_2, xc HB hw722_3, xc HB hw723_0, xc HB hw723_1, xc HB hw723_2, xc HB hw723_3⟩ fun hHeld HT_ HW_ => ?_
      generalize wr.drew = w11 at HB hx722_0 hx722_1 hx722_2 hx722_3 hx723_0 hx723_1 hx723_2 hx723_3 hHeld ⊢
      refine pu HT_ 0 17 ?_; refine pu HT_ 1 18 ?_; refine pu HT_ 2 19 ?_; refine pu HT_ 4 21 ?_; refine pu HT_ 5 22 ?_; refine pu HT_ 6 23 ?_; refine tk HT_ HW_ hHeld 3 20 ?_; refine tk HT_ HW_ hHeld 7 24 ?_
      refine on HT_ 8 25 fun K hK => ?_
      refine gq Tryz.func34 (laws_eqAct.calls ((rd_T57 l0 x5_1).f0) ((rd_T57 l0 x5_1).f1) ((rd_T57 l0 x5_1).f2) ((rd_T57 l0 x5_1).f3) ((rd_T57 l1 x5_1).f0) ((rd_T57 l1 x5_1).f1) ((rd_T57 l1 x5_1).f2) ((rd_T57 l1 x5_1).f3) _ _ A7.out) fun w12 hb => ?_; replace HB := bs1 HB hb
      refine hK.out _ _ ⟨xc HB hw722_0, xc HB hw722_1, xc HB hw722_2, xc HB hw722_3, xc HB hw723_0, xc HB hw723_1, xc HB hw723_2, xc HB hw723_3⟩ fun hHeld => ?_
      clear hK K; refine nm 25 ?_; refine pu HT_ 9 26 ?_; refine dn HT_ ?_
      try go_wp2
     ·go_ret; exact ⟨fe, bt HB⟩
     ·go_roundg k1
      case measure => have := HK1.out; omega
      case rel => exact ⟨(wrap64 (x5_1 + 1)), fr, H', ⟨by have := HK1.out; omega⟩, ⟨bt HB⟩⟩
    ·have c4b0 := df c4; clear c4; obtain rfl := oj H; go_wp2; go_ret; exact ⟨fe, bt HB⟩
 ·have c3b0 : ((l0.length : Int) == (l1.length : Int)) = false := beq_eq_false_iff_ne.mpr c3; have c3b1 : ((l0.length : Int) != (l1.length : Int)) = true := bne_iff_ne.mpr c3
  have c3b2 : (l0.length == l1.length) = false := by first | simpa using c3 | (simp at c3 ⊢; omega)
  obtain rfl := oj H; go_enter Tryz.func9, Tryz.ntmps9; go_wp2; go_ret; exact ⟨fe, bt HB⟩
def laws_eqFile.f (a0_0 : ByteArray) (a0_1 : ByteArray) (a0_2 : Int) (a1_0 : ByteArray) (a1_1 : ByteArray) (a1_2 : Int) : Option (Bool) := if a0_0.toList = a1_0.toList then (if a0_1.toList = a1_1.toList then (if a0_2 = a1_2 then (some true) else (some false)) else (some false)) else (some false)
theorem laws_eqFile.calls (a0_0 : ByteArray) (a0_1 : ByteArray) (a0_2 : Int) (a1_0 : ByteArray) (a1_1 : ByteArray) (a1_2 : Int) (r : Bool) (w : World) (H : laws_eqFile.f a0_0 a0_1 a0_2 a1_0 a1_1 a1_2 = some r) :
 Calls Tryz.prog 63 #[.agg #[.string a0_0, .string a0_1, .int .i64 a0_2], .agg #[.string a1_0, .string a1_1, .int .i64 a1_2]] w fun e w' => e = .returned (.bool r) ∧ Below w.heap.size w w' := by
 have hu49 := Tryz.underlying49; have HB := ak (Below.refl w.heap.size w); unfold laws_eqFile.f at H; revert H
 refine si (fun c3 H => ?_) fun c3 H => ?_
 focus
  have c3b0 : (a0_0.toList == a1_0.toList) = true := beq_iff_eq.mpr c3; have c3b1 : (a0_0.toList != a1_0.toList) = false := bne_eq_false_iff_eq.mpr c3; clear c3; revert H
  refine si (fun c4 H => ?_) fun c4 H => ?_
  focus
   have c4b0 : (a0_1.toList == a1_1.toList) = true := beq_iff_eq.mpr c4; have c4b1 : (a0_1.toList != a1_1.toList) = false := bne_eq_false_iff_eq.mpr c4; clear c4; revert H
   refine si (fun c5 H => ?_) fun c5 H => ?_
   have c5b0 : (a0_2 == a1_2) = true := beq_iff_eq.mpr c5; have c5b1 : (a0_2 != a1_2) = false := bne_eq_false_iff_eq.mpr c5; clear c5; obtain rfl := oj H; rotate_left; have c5b0 : (a0_2 == a1_2) = false := beq_eq_false_iff_ne.mpr c5; have c5b1 : (a0_2 != a1_2) = true := bne_iff_ne.mpr c5; obtain rfl := oj H
  rotate_left 2; have c4b0 : (a0_1.toList == a1_1.toList) = false := beq_eq_false_iff_ne.mpr c4; have c4b1 : (a0_1.toList != a1_1.toList) = true := bne_iff_ne.mpr c4; obtain rfl := oj H
 rotate_left 3; have c3b0 : (a0_0.toList == a1_0.toList) = false := beq_eq_false_iff_ne.mpr c3; have c3b1 : (a0_0.toList != a1_0.toList) = true := bne_iff_ne.mpr c3; obtain rfl := oj H
 all_goals
  go_enter Tryz.func63, Tryz.ntmps63
  go_wp2_with (first | ((with_reducible refine gd 2 rfl ?_); refine bx 2 49 #[.string a0_0, .string a0_1, .int .i64 a0_2] fun gb725 hg w21 BK725 hb => ?_; have GE725 := ge_ hg HB; replace HB := bs1 HB hb; clear hb hg) | ((with_reducible refine gd 3 rfl ?_); refine bx 3 49 #[.string a1_0, .string a1_1, .int .i64 a1_2] fun gb726 hg w22 BK726 hb => ?_; have GE726 := ge_ hg HB; replace HB := bs1 HB hb; have NB725_726 := nl_ hg BK725; have NB726_725 := nr_ hg BK725; replace BK725 := bb BK725 hb; clear hb hg; have := NB725_726.out; have := NB726_725.out; obtain ⟨_, _, _, _, _, _⟩ := bc3 BK725; obtain ⟨_, _, _, _, _, _⟩ := bc3 BK726))
  go_ret; exact ⟨fe, bt HB⟩
def laws_eqFileS.l0 : Nat → List (S49) → List (S49) → Int → Option (Bool)
 | 0, _, _, _ => none
 | k + 1, x0, x1, x5 => if x5 < (x0.length : Int) then (if 0 ≤ x5 then (if x5 < (x1.length : Int) then ((laws_eqFile.f ((rd_T49 x0 x5).f0) ((rd_T49 x0 x5).f1) ((rd_T49 x0 x5).f2) ((rd_T49 x1 x5).f0) ((rd_T49 x1 x5).f1) ((rd_T49 x1 x5).f2)).bind fun t729 => (if t729 = true then (laws_eqFileS.l0 k x0 x1 (wrap64 (x5 + 1))) else (some false))) else (none)) else (none)) else (some true)
def laws_eqFileS.f (k : Nat) (l0 : List (S49)) (l1 : List (S49)) : Option (Bool) := if (l0.length : Int) = (l1.length : Int) then (laws_eqFileS.l0 k l0 l1 0) else (some false)
def laws_eqFileS.T6 : Bool × List (List Nat × List Nat) := (true, [([], []), ([], []), ([0, 1], [0, 1]), ([2], [2]), ([], []), ([], []), ([4, 5], [4, 5]), ([6], [6]), ([3, 7], [3, 7]), ([8], [8])])
def laws_eqFileS.B6 : List Nat := [0, 0, 3, 7, 0, 0, 48, 112, 255, 511]
theorem laws_eqFileS.tab6 : rtab .any (opsOf Tryz.f35 6) = laws_eqFileS.T6 := by kernel_rfl
theorem laws_eqFileS.bits6 : waitsOk laws_eqFileS.T6.2 laws_eqFileS.B6 = true := by kernel_rfl
theorem laws_eqFileS.calls (k : Nat) (A0 : Option Addr) (c0 : Nat) (l0 : List (S49)) (A1 : Option Addr) (c1 : Nat) (l1 : List (S49)) (r : Bool) (w : World) (hr0 : Kd.C k49 w A0 l0.length l0) (hc0 : l0.length ≤ c0) (hr1 : Kd.C k49 w A1 l1.length l1) (hc1 : l1.length ≤ c1) (H : laws_eqFileS.f k l0 l1 = some r) :
 Calls Tryz.prog 35 #[.slice A0 l0.length c0, .slice A1 l1.length c1] w fun e w' => e = .returned (.bool r) ∧ Below w.heap.size w w' := by
 have hu49 := Tryz.underlying49; have HR0 := ak hr0; have HC0 := ak hc0; clear hr0 hc0; have HR1 := ak hr1; have HC1 := ak hc1; clear hr1 hc1; have HB := ak (Below.refl w.heap.size w); unfold laws_eqFileS.f at H; revert H
 refine si (fun c3 H => ?_) fun c3 H => ?_
 ·have c3b0 : ((l0.length : Int) == (l1.length : Int)) = true := beq_iff_eq.mpr c3; have c3b1 : ((l0.length : Int) != (l1.length : Int)) = false := bne_eq_false_iff_eq.mpr c3
  have c3b2 : (l0.length == l1.length) = true := by first | simpa using c3 | (simp at c3 ⊢; omega)
  clear c3; have H' := ak H; clear H; go_enter Tryz.func35, Tryz.ntmps35; go_wp2
  go_loopg [5] k (fun kq v5 w' => ∃ (x5_1 : Int), v5 = .int .i64 x5_1 ∧ Aside0 (laws_eqFileS.l0 kq l0 l1 x5_1 = some r) ∧ Aside0 (kq ≤ k) ∧ Aside0 (Below w.heap.size w w'))
  case atStart => exact ⟨(0), fr, H', ⟨Nat.le_refl _⟩, ⟨bt HB⟩⟩
  case round =>
   clear H'; obtain ⟨x5_1, rfl, HA, HK1, HB⟩ := hrel
   cases gk with
   | zero => exact absurd HA.out (by simp [laws_eqFileS.l0])
   | succ k1 =>
    have H := HA.out; clear HA; simp only [laws_eqFileS.l0] at H; revert H
    refine si (fun c4 H => ?_) fun c4 H => ?_
    ·have c4b0 := dt c4; clear c4; obtain ⟨c5, H⟩ := ifs H; have c5b0 := dt c5; clear c5; obtain ⟨c6, H⟩ := ifs H; have c6b0 := dt c6; clear c6; obtain ⟨t729, A7, H⟩ := bo H; cases t729; rotate_left; rw [if_pos rfl] at H; have H' := ak H; clear H; rotate_left; rw [if_neg nf] at H; obtain rfl := oj H
     all_goals
      try go_wp2
      replace HB := ak (below_drew1 HB.out); have p727 : 0 ≤ (x5_1 : Int) := da; have q727 : x5_1 < (l0.length : Int) := da; obtain ⟨ad727, e727, hx727_0, hx727_1, hx727_2⟩ := at_T49 HR0.out x5_1 p727 q727; have hw727_2 := hx727_2; have hw727_1 := hx727_1; have hw727_0 := hx727_0; cases e727; replace hx727_0 := xb HB hx727_0; replace hx727_1 := xb HB hx727_1; replace hx727_2 := xb HB hx727_2; replace p727 := eq_true p727; replace q727 := eq_true q727; have p728 : 0 ≤ (x5_1 : Int) := da; have q728 : x5_1 < (l1.length : Int) := da; obtain ⟨ad728, e728, hx728_0, hx728_1, hx728_2⟩ := at_T49 HR1.out x5_1 p728 q728; have hw728_2 := hx728_2; have hw728_1 := hx728_1; have hw728_0 := hx728_0; cases e728; replace hx728_0 := xb HB hx728_0; replace hx728_1 := xb HB hx728_1; replace hx728_2 := xb HB hx728_2; replace p728 := eq_true p728; replace q728 := eq_true q728
      refine st 10 (fun w' => w'.cell? (ad727.add ((x5_1).toNat * 3)) = some (.string ((rd_T49 l0 x5_1).f0)) ∧ w'.cell? ⟨(ad727.add ((x5_1).toNat * 3)).block, (ad727.add ((x5_1).toNat * 3)).off + 1, none⟩ = some (.string ((rd_T49 l0 x5_1).f1)) ∧ w'.cell? ⟨(ad727.add ((x5_1).toNat * 3)).block, (ad727.add ((x5_1).toNat * 3)).off + 2, none⟩ = some (.int .i64 ((rd_T49 l0 x5_1).f2)) ∧ w'.cell? (ad728.add ((x5_1).toNat * 3)) = some (.string ((rd_T49 l1 x5_1).f0)) ∧ w'.cell? ⟨(ad728.add ((x5_1).toNat * 3)).block, (ad728.add ((x5_1).toNat * 3)).off + 1, none⟩ = some (.string ((rd_T49 l1 x5_1).f1)) ∧ w'.cell? ⟨(ad728.add ((x5_1).toNat * 3)).block, (ad728.add ((x5_1).toNat * 3)).off + 2, none⟩ = some (.int .i64 ((rd_T49 l1 x5_1).f2))) laws_eqFileS.tab6 laws_eqFileS.bits6 ⟨xc HB hw727_0, xc HB hw727_1, xc HB hw727_2, xc HB hw728_0, xc HB hw728_1, xc HB hw728_2⟩ fun hHeld HT_ HW_ => ?_
      generalize wr.drew = w11 at HB hx727_0 hx727_1 hx727_2 hx728_0 hx728_1 hx728_2 hHeld ⊢
      refine pu HT_ 0 17 ?_; refine pu HT_ 1 18 ?_; refine pu HT_ 2 19 ?_; refine pu HT_ 4 21 ?_; refine pu HT_ 5 22 ?_; refine pu HT_ 6 23 ?_; refine tk HT_ HW_ hHeld 3 20 ?_; refine tk HT_ HW_ hHeld 7 24 ?_
      refine on HT_ 8 25 fun K hK => ?_
      refine gq Tryz.func63 (laws_eqFile.calls ((rd_T49 l0 x5_1).f0) ((rd_T49 l0 x5_1).f1) ((rd_T49 l0 x5_1).f2) ((rd_T49 l1 x5_1).f0) ((rd_T49 l1 x5_1).f1) ((rd_T49 l1 x5_1).f2) _ _ A7.out) fun w12 hb => ?_; replace HB := bs1 HB hb
      refine hK.out _ _ ⟨xc HB hw727_0, xc HB hw727_1, xc HB hw727_2, xc HB hw728_0, xc HB hw728_1, xc HB hw728_2⟩ fun hHeld => ?_
      clear hK K; refine nm 25 ?_; refine pu HT_ 9 26 ?_; refine dn HT_ ?_
      try go_wp2
     ·go_ret; exact ⟨fe, bt HB⟩
     ·go_roundg k1
      case measure => have := HK1.out; omega
      case rel => exact ⟨(wrap64 (x5_1 + 1)), fr, H', ⟨by have := HK1.out; omega⟩, ⟨bt HB⟩⟩
    ·have c4b0 := df c4; clear c4; obtain rfl := oj H; go_wp2; go_ret; exact ⟨fe, bt HB⟩
 ·have c3b0 : ((l0.length : Int) == (l1.length : Int)) = false := beq_eq_false_iff_ne.mpr c3; have c3b1 : ((l0.length : Int) != (l1.length : Int)) = true := bne_iff_ne.mpr c3
  have c3b2 : (l0.length == l1.length) = false := by first | simpa using c3 | (simp at c3 ⊢; omega)
  obtain rfl := oj H; go_enter Tryz.func35, Tryz.ntmps35; go_wp2; go_ret; exact ⟨fe, bt HB⟩
def laws_eqDisk.f (k : Nat) (l0_0 : List (S49)) (l1_0 : List (S49)) : Option (Bool) := (laws_eqFileS.f k l0_0 l1_0).bind fun t732 => (if t732 = true then (some true) else (some false))
theorem laws_eqDisk.calls (k : Nat) (A0_0 : Option Addr) (c0_0 : Nat) (l0_0 : List (S49)) (A1_0 : Option Addr) (c1_0 : Nat) (l1_0 : List (S49)) (r : Bool) (w : World) (hr0_0 : Kd.C k49 w A0_0 l0_0.length l0_0) (hc0_0 : l0_0.length ≤ c0_0) (hr1_0 : Kd.C k49 w A1_0 l1_0.length l1_0) (hc1_0 : l1_0.length ≤ c1_0) (H : laws_eqDisk.f k l0_0 l1_0 = some r) :
 Calls Tryz.prog 10 #[.agg #[.slice A0_0 l0_0.length c0_0], .agg #[.slice A1_0 l1_0.length c1_0]] w fun e w' => e = .returned (.bool r) ∧ Below w.heap.size w w' := by
 have hu36 := Tryz.underlying36; have HR0_0 := ak hr0_0; have HC0_0 := ak hc0_0; clear hr0_0 hc0_0; have HR1_0 := ak hr1_0; have HC1_0 := ak hc1_0; clear hr1_0 hc1_0; have HB := ak (Below.refl w.heap.size w); unfold laws_eqDisk.f at H; obtain ⟨t732, A3, H⟩ := bo H; cases t732; rotate_left; rw [if_pos rfl] at H; obtain rfl := oj H; rotate_left; rw [if_neg nf] at H; obtain rfl := oj H
 all_goals
  go_enter Tryz.func10, Tryz.ntmps10
  go_wp2_with (first | ((with_reducible refine gd 2 rfl ?_); refine bx 2 36 #[.slice A0_0 l0_0.length c0_0] fun gb730 hg w11 BK730 hb => ?_; have GE730 := ge_ hg HB; replace HB := bs1 HB hb; clear hb hg) | ((with_reducible refine gd 3 rfl ?_); refine bx 3 36 #[.slice A1_0 l1_0.length c1_0] fun gb731 hg w12 BK731 hb => ?_; have GE731 := ge_ hg HB; replace HB := bs1 HB hb; have NB730_731 := nl_ hg BK730; have NB731_730 := nr_ hg BK730; replace BK730 := bb BK730 hb; clear hb hg; have := NB730_731.out; have := NB731_730.out; obtain ⟨_, _⟩ := bc1 BK730; obtain ⟨_, _⟩ := bc1 BK731) | ((with_reducible refine gd 9 rfl ?_); refine gc 9 Tryz.func35 (laws_eqFileS.calls k _ _ l0_0 _ _ l1_0 _ _ ?s1 ?s2 ?s3 ?s4 A3.out) fun w16 hb => ?_; (case s1 => exact ca HR0_0 HB); (case s2 => exact HC0_0.out); (case s3 => exact ca HR1_0 HB); (case s4 => exact HC1_0.out); replace BK730 := bb BK730 hb; replace BK731 := bb BK731 hb; replace HB := bs1 HB hb))
  go_ret; exact ⟨fe, bt HB⟩
end Go.Proofs.YtdepaileabejgaaGreatDoor.PFnExactOpenJournal
