/- Walks. No condition. -/
import Derived.Test.YtdepaileabejgaaGreatDoorTiny
import Derived.Test.YtdepaileabejgaaGreatDoorQFnExactOpenJournalx0
namespace Go.Proofs.YtdepaileabejgaaGreatDoor.PFnExactOpenJournal
open Go.RowKit Go.Proofs.YtdepaileabejgaaGreatDoorW.PrintWords Go.Proofs.YtdepaileabejgaaGreatDoorW.PrintLast Go.Proofs.YtdepaileabejgaaGreatDoorW.PrintMore Go.Proofs.YtdepaileabejgaaGreatDoorW.Short
attribute [local go_sem] max2_int min2_int max_two min_two max_three min_three max_four min_four
set_option maxHeartbeats 8000000
set_option maxRecDepth 100000
set_option linter.unusedVariables false
set_option linter.unusedSimpArgs false
def laws_eqEntry.f (a0_0 : Int) (a0_1 : Int) (a0_2 : ByteArray) (a1_0 : Int) (a1_1 : Int) (a1_2 : ByteArray) : Option (Bool) := if a0_0 = a1_0 then (if a0_1 = a1_1 then (if a0_2.toList = a1_2.toList then (some true) else (some false)) else (some false)) else (some false)
theorem laws_eqEntry.calls (a0_0 : Int) (a0_1 : Int) (a0_2 : ByteArray) (a1_0 : Int) (a1_1 : Int) (a1_2 : ByteArray) (r : Bool) (w : World) (H : laws_eqEntry.f a0_0 a0_1 a0_2 a1_0 a1_1 a1_2 = some r) :
 Calls Tryz.prog 98 #[.agg #[.int .i64 a0_0, .int .i64 a0_1, .string a0_2], .agg #[.int .i64 a1_0, .int .i64 a1_1, .string a1_2]] w fun e w' => e = .returned (.bool r) ∧ Below w.heap.size w w' := by
 have hu105 := Tryz.underlying105; have HB := ak (Below.refl w.heap.size w); unfold laws_eqEntry.f at H; revert H
 refine si (fun c3 H => ?_) fun c3 H => ?_
 focus
  have c3b0 : (a0_0 == a1_0) = true := beq_iff_eq.mpr c3; have c3b1 : (a0_0 != a1_0) = false := bne_eq_false_iff_eq.mpr c3; clear c3; revert H
  refine si (fun c4 H => ?_) fun c4 H => ?_
  focus
   have c4b0 : (a0_1 == a1_1) = true := beq_iff_eq.mpr c4; have c4b1 : (a0_1 != a1_1) = false := bne_eq_false_iff_eq.mpr c4; clear c4; revert H
   refine si (fun c5 H => ?_) fun c5 H => ?_
   have c5b0 : (a0_2.toList == a1_2.toList) = true := beq_iff_eq.mpr c5; have c5b1 : (a0_2.toList != a1_2.toList) = false := bne_eq_false_iff_eq.mpr c5; clear c5; obtain rfl := oj H; rotate_left; have c5b0 : (a0_2.toList == a1_2.toList) = false := beq_eq_false_iff_ne.mpr c5; have c5b1 : (a0_2.toList != a1_2.toList) = true := bne_iff_ne.mpr c5; obtain rfl := oj H
  rotate_left 2; have c4b0 : (a0_1 == a1_1) = false := beq_eq_false_iff_ne.mpr c4; have c4b1 : (a0_1 != a1_1) = true := bne_iff_ne.mpr c4; obtain rfl := oj H
 rotate_left 3; have c3b0 : (a0_0 == a1_0) = false := beq_eq_false_iff_ne.mpr c3; have c3b1 : (a0_0 != a1_0) = true := bne_iff_ne.mpr c3; obtain rfl := oj H
 all_goals
  go_enter Tryz.func98, Tryz.ntmps98
  go_wp2_with (first | ((with_reducible refine gd 2 rfl ?_); refine bx 2 105 #[.int .i64 a0_0, .int .i64 a0_1, .string a0_2] fun gb709 hg w21 BK709 hb => ?_; have GE709 := ge_ hg HB; replace HB := bs1 HB hb; clear hb hg) | ((with_reducible refine gd 3 rfl ?_); refine bx 3 105 #[.int .i64 a1_0, .int .i64 a1_1, .string a1_2] fun gb710 hg w22 BK710 hb => ?_; have GE710 := ge_ hg HB; replace HB := bs1 HB hb; have NB709_710 := nl_ hg BK709; have NB710_709 := nr_ hg BK709; replace BK709 := bb BK709 hb; clear hb hg; have := NB709_710.out; have := NB710_709.out; obtain ⟨_, _, _, _, _, _⟩ := bc3 BK709; obtain ⟨_, _, _, _, _, _⟩ := bc3 BK710))
  go_ret; exact ⟨fe, bt HB⟩
def laws_eqEntryS.l0 : Nat → List (S105) → List (S105) → Int → Option (Bool)
 | 0, _, _, _ => none
 | k + 1, x0, x1, x5 => if x5 < (x0.length : Int) then (if 0 ≤ x5 then (if x5 < (x1.length : Int) then ((laws_eqEntry.f ((rd_T105 x0 x5).f0) ((rd_T105 x0 x5).f1) ((rd_T105 x0 x5).f2) ((rd_T105 x1 x5).f0) ((rd_T105 x1 x5).f1) ((rd_T105 x1 x5).f2)).bind fun t713 => (if t713 = true then (laws_eqEntryS.l0 k x0 x1 (wrap64 (x5 + 1))) else (some false))) else (none)) else (none)) else (some true)
def laws_eqEntryS.f (k : Nat) (l0 : List (S105)) (l1 : List (S105)) : Option (Bool) := if (l0.length : Int) = (l1.length : Int) then (laws_eqEntryS.l0 k l0 l1 0) else (some false)
def laws_eqEntryS.T6 : Bool × List (List Nat × List Nat) := (true, [([], []), ([], []), ([0, 1], [0, 1]), ([2], [2]), ([], []), ([], []), ([4, 5], [4, 5]), ([6], [6]), ([3, 7], [3, 7]), ([8], [8])])
def laws_eqEntryS.B6 : List Nat := [0, 0, 3, 7, 0, 0, 48, 112, 255, 511]
theorem laws_eqEntryS.tab6 : rtab .any (opsOf Tryz.f62 6) = laws_eqEntryS.T6 := by kernel_rfl
theorem laws_eqEntryS.bits6 : waitsOk laws_eqEntryS.T6.2 laws_eqEntryS.B6 = true := by kernel_rfl
theorem laws_eqEntryS.calls (k : Nat) (A0 : Option Addr) (c0 : Nat) (l0 : List (S105)) (A1 : Option Addr) (c1 : Nat) (l1 : List (S105)) (r : Bool) (w : World) (hr0 : Kd.C k105 w A0 l0.length l0) (hc0 : l0.length ≤ c0) (hr1 : Kd.C k105 w A1 l1.length l1) (hc1 : l1.length ≤ c1) (H : laws_eqEntryS.f k l0 l1 = some r) :
 Calls Tryz.prog 62 #[.slice A0 l0.length c0, .slice A1 l1.length c1] w fun e w' => e = .returned (.bool r) ∧ Below w.heap.size w w' := by
 have hu105 := Tryz.underlying105; have HR0 := ak hr0; have HC0 := ak hc0; clear hr0 hc0; have HR1 := ak hr1; have HC1 := ak hc1; clear hr1 hc1; have HB := ak (Below.refl w.heap.size w); unfold laws_eqEntryS.f at H; revert H
 refine si (fun c3 H => ?_) fun c3 H => ?_
 ·have c3b0 : ((l0.length : Int) == (l1.length : Int)) = true := beq_iff_eq.mpr c3; have c3b1 : ((l0.length : Int) != (l1.length : Int)) = false := bne_eq_false_iff_eq.mpr c3
  have c3b2 : (l0.length == l1.length) = true := by first | simpa using c3 | (simp at c3 ⊢; omega)
  clear c3; have H' := ak H; clear H; go_enter Tryz.func62, Tryz.ntmps62; go_wp2
  go_loopg [5] k (fun kq v5 w' => ∃ (x5_1 : Int), v5 = .int .i64 x5_1 ∧ Aside0 (laws_eqEntryS.l0 kq l0 l1 x5_1 = some r) ∧ Aside0 (kq ≤ k) ∧ Aside0 (Below w.heap.size w w'))
  case atStart => exact ⟨(0), fr, H', ⟨Nat.le_refl _⟩, ⟨bt HB⟩⟩
  case round =>
   clear H'; obtain ⟨x5_1, rfl, HA, HK1, HB⟩ := hrel
   cases gk with
   | zero => exact absurd HA.out (by simp [laws_eqEntryS.l0])
   | succ k1 =>
    have H := HA.out; clear HA; simp only [laws_eqEntryS.l0] at H; revert H
    refine si (fun c4 H => ?_) fun c4 H => ?_
    ·have c4b0 := dt c4; clear c4; obtain ⟨c5, H⟩ := ifs H; have c5b0 := dt c5; clear c5; obtain ⟨c6, H⟩ := ifs H; have c6b0 := dt c6; clear c6; obtain ⟨t713, A7, H⟩ := bo H; cases t713; rotate_left; rw [if_pos rfl] at H; have H' := ak H; clear H; rotate_left; rw [if_neg nf] at H; obtain rfl := oj H
     all_goals
      try go_wp2
      replace HB := ak (below_drew1 HB.out); have p711 : 0 ≤ (x5_1 : Int) := da; have q711 : x5_1 < (l0.length : Int) := da; obtain ⟨ad711, e711, hx711_0, hx711_1, hx711_2⟩ := at_T105 HR0.out x5_1 p711 q711; have hw711_2 := hx711_2; have hw711_1 := hx711_1; have hw711_0 := hx711_0; cases e711; replace hx711_0 := xb HB hx711_0; replace hx711_1 := xb HB hx711_1; replace hx711_2 := xb HB hx711_2; replace p711 := eq_true p711; replace q711 := eq_true q711; have p712 : 0 ≤ (x5_1 : Int) := da; have q712 : x5_1 < (l1.length : Int) := da; obtain ⟨ad712, e712, hx712_0, hx712_1, hx712_2⟩ := at_T105 HR1.out x5_1 p712 q712; have hw712_2 := hx712_2; have hw712_1 := hx712_1; have hw712_0 := hx712_0; cases e712; replace hx712_0 := xb HB hx712_0; replace hx712_1 := xb HB hx712_1; replace hx712_2 := xb HB hx712_2; replace p712 := eq_true p712; replace q712 := eq_true q712
      refine st 10 (fun w' => w'.cell? (ad711.add ((x5_1).toNat * 3)) = some (.int .i64 ((rd_T105 l0 x5_1).f0)) ∧ w'.cell? ⟨(ad711.add ((x5_1).toNat * 3)).block, (ad711.add ((x5_1).toNat * 3)).off + 1, none⟩ = some (.int .i64 ((rd_T105 l0 x5_1).f1)) ∧ w'.cell? ⟨(ad711.add ((x5_1).toNat * 3)).block, (ad711.add ((x5_1).toNat * 3)).off + 2, none⟩ = some (.string ((rd_T105 l0 x5_1).f2)) ∧ w'.cell? (ad712.add ((x5_1).toNat * 3)) = some (.int .i64 ((rd_T105 l1 x5_1).f0)) ∧ w'.cell? ⟨(ad712.add ((x5_1).toNat * 3)).block, (ad712.add ((x5_1).toNat * 3)).off + 1, none⟩ = some (.int .i64 ((rd_T105 l1 x5_1).f1)) ∧ w'.cell? ⟨(ad712.add ((x5_1).toNat * 3)).block, (ad712.add ((x5_1).toNat * 3)).off + 2, none⟩ = some (.string ((rd_T105 l1 x5_1).f2))) laws_eqEntryS.tab6 laws_eqEntryS.bits6 ⟨xc HB hw711_0, xc HB hw711_1, xc HB hw711_2, xc HB hw712_0, xc HB hw712_1, xc HB hw712_2⟩ fun hHeld HT_ HW_ => ?_
      generalize wr.drew = w11 at HB hx711_0 hx711_1 hx711_2 hx712_0 hx712_1 hx712_2 hHeld ⊢
      refine pu HT_ 0 17 ?_; refine pu HT_ 1 18 ?_; refine pu HT_ 2 19 ?_; refine pu HT_ 4 21 ?_; refine pu HT_ 5 22 ?_; refine pu HT_ 6 23 ?_; refine tk HT_ HW_ hHeld 3 20 ?_; refine tk HT_ HW_ hHeld 7 24 ?_
      refine on HT_ 8 25 fun K hK => ?_
      refine gq Tryz.func98 (laws_eqEntry.calls ((rd_T105 l0 x5_1).f0) ((rd_T105 l0 x5_1).f1) ((rd_T105 l0 x5_1).f2) ((rd_T105 l1 x5_1).f0) ((rd_T105 l1 x5_1).f1) ((rd_T105 l1 x5_1).f2) _ _ A7.out) fun w12 hb => ?_; replace HB := bs1 HB hb
      refine hK.out _ _ ⟨xc HB hw711_0, xc HB hw711_1, xc HB hw711_2, xc HB hw712_0, xc HB hw712_1, xc HB hw712_2⟩ fun hHeld => ?_
      clear hK K; refine nm 25 ?_; refine pu HT_ 9 26 ?_; refine dn HT_ ?_
      try go_wp2
     ·go_ret; exact ⟨fe, bt HB⟩
     ·go_roundg k1
      case measure => have := HK1.out; omega
      case rel => exact ⟨(wrap64 (x5_1 + 1)), fr, H', ⟨by have := HK1.out; omega⟩, ⟨bt HB⟩⟩
    ·have c4b0 := df c4; clear c4; obtain rfl := oj H; go_wp2; go_ret; exact ⟨fe, bt HB⟩
 ·have c3b0 : ((l0.length : Int) == (l1.length : Int)) = false := beq_eq_false_iff_ne.mpr c3; have c3b1 : ((l0.length : Int) != (l1.length : Int)) = true := bne_iff_ne.mpr c3
  have c3b2 : (l0.length == l1.length) = false := by first | simpa using c3 | (simp at c3 ⊢; omega)
  obtain rfl := oj H; go_enter Tryz.func62, Tryz.ntmps62; go_wp2; go_ret; exact ⟨fe, bt HB⟩
def laws_eqLog.f (k : Nat) (a0_0 : Int) (a0_1 : Int) (l0_2 : List (S105)) (a1_0 : Int) (a1_1 : Int) (l1_2 : List (S105)) : Option (Bool) := if a0_0 = a1_0 then (if a0_1 = a1_1 then ((laws_eqEntryS.f k l0_2 l1_2).bind fun t716 => (if t716 = true then (some true) else (some false))) else (some false)) else (some false)
theorem laws_eqLog.calls (k : Nat) (a0_0 : Int) (a0_1 : Int) (A0_2 : Option Addr) (c0_2 : Nat) (l0_2 : List (S105)) (a1_0 : Int) (a1_1 : Int) (A1_2 : Option Addr) (c1_2 : Nat) (l1_2 : List (S105)) (r : Bool) (w : World) (hr0_2 : Kd.C k105 w A0_2 l0_2.length l0_2) (hc0_2 : l0_2.length ≤ c0_2) (hr1_2 : Kd.C k105 w A1_2 l1_2.length l1_2) (hc1_2 : l1_2.length ≤ c1_2) (H : laws_eqLog.f k a0_0 a0_1 l0_2 a1_0 a1_1 l1_2 = some r) :
 Calls Tryz.prog 33 #[.agg #[.int .i64 a0_0, .int .i64 a0_1, .slice A0_2 l0_2.length c0_2], .agg #[.int .i64 a1_0, .int .i64 a1_1, .slice A1_2 l1_2.length c1_2]] w fun e w' => e = .returned (.bool r) ∧ Below w.heap.size w w' := by
 have hu28 := Tryz.underlying28; have HR0_2 := ak hr0_2; have HC0_2 := ak hc0_2; clear hr0_2 hc0_2; have HR1_2 := ak hr1_2; have HC1_2 := ak hc1_2; clear hr1_2 hc1_2; have HB := ak (Below.refl w.heap.size w); unfold laws_eqLog.f at H; revert H
 refine si (fun c3 H => ?_) fun c3 H => ?_
 focus
  have c3b0 : (a0_0 == a1_0) = true := beq_iff_eq.mpr c3; have c3b1 : (a0_0 != a1_0) = false := bne_eq_false_iff_eq.mpr c3; clear c3; revert H
  refine si (fun c4 H => ?_) fun c4 H => ?_
  focus
   have c4b0 : (a0_1 == a1_1) = true := beq_iff_eq.mpr c4; have c4b1 : (a0_1 != a1_1) = false := bne_eq_false_iff_eq.mpr c4; clear c4; obtain ⟨t716, A5, H⟩ := bo H; cases t716; rotate_left; rw [if_pos rfl] at H; obtain rfl := oj H; rotate_left; rw [if_neg nf] at H; obtain rfl := oj H
  rotate_left 2; have c4b0 : (a0_1 == a1_1) = false := beq_eq_false_iff_ne.mpr c4; have c4b1 : (a0_1 != a1_1) = true := bne_iff_ne.mpr c4; obtain rfl := oj H
 rotate_left 3; have c3b0 : (a0_0 == a1_0) = false := beq_eq_false_iff_ne.mpr c3; have c3b1 : (a0_0 != a1_0) = true := bne_iff_ne.mpr c3; obtain rfl := oj H
 all_goals
  go_enter Tryz.func33, Tryz.ntmps33
  go_wp2_with (first | ((with_reducible refine gd 2 rfl ?_); refine bx 2 28 #[.int .i64 a0_0, .int .i64 a0_1, .slice A0_2 l0_2.length c0_2] fun gb714 hg w13 BK714 hb => ?_; have GE714 := ge_ hg HB; replace HB := bs1 HB hb; clear hb hg) | ((with_reducible refine gd 3 rfl ?_); refine bx 3 28 #[.int .i64 a1_0, .int .i64 a1_1, .slice A1_2 l1_2.length c1_2] fun gb715 hg w14 BK715 hb => ?_; have GE715 := ge_ hg HB; replace HB := bs1 HB hb; have NB714_715 := nl_ hg BK714; have NB715_714 := nr_ hg BK714; replace BK714 := bb BK714 hb; clear hb hg; have := NB714_715.out; have := NB715_714.out; obtain ⟨_, _, _, _, _, _⟩ := bc3 BK714; obtain ⟨_, _, _, _, _, _⟩ := bc3 BK715) | ((with_reducible refine gd 19 rfl ?_); refine gc 19 Tryz.func62 (laws_eqEntryS.calls k _ _ l0_2 _ _ l1_2 _ _ ?s1 ?s2 ?s3 ?s4 A5.out) fun w18 hb => ?_; (case s1 => exact ca HR0_2 HB); (case s2 => exact HC0_2.out); (case s3 => exact ca HR1_2 HB); (case s4 => exact HC1_2.out); replace BK714 := bb BK714 hb; replace BK715 := bb BK715 hb; replace HB := bs1 HB hb))
  go_ret; exact ⟨fe, bt HB⟩
def laws_eqJournal.f (k : Nat) (a0_0 : Int) (a0_1 : Int) (a0_2 : Int) (a0_3 : Int) (a0_4 : Int) (l0_5 : List (S105)) (a1_0 : Int) (a1_1 : Int) (a1_2 : Int) (a1_3 : Int) (a1_4 : Int) (l1_5 : List (S105)) : Option (Bool) := if a0_0 = a1_0 then (if a0_1 = a1_1 then (if a0_2 = a1_2 then ((laws_eqLog.f k a0_3 a0_4 l0_5 a1_3 a1_4 l1_5).bind fun t719 => (if t719 = true then (some true) else (some false))) else (some false)) else (some false)) else (some false)
theorem laws_eqJournal.calls (k : Nat) (a0_0 : Int) (a0_1 : Int) (a0_2 : Int) (a0_3 : Int) (a0_4 : Int) (A0_5 : Option Addr) (c0_5 : Nat) (l0_5 : List (S105)) (a1_0 : Int) (a1_1 : Int) (a1_2 : Int) (a1_3 : Int) (a1_4 : Int) (A1_5 : Option Addr) (c1_5 : Nat) (l1_5 : List (S105)) (r : Bool) (w : World) (hr0_5 : Kd.C k105 w A0_5 l0_5.length l0_5) (hc0_5 : l0_5.length ≤ c0_5) (hr1_5 : Kd.C k105 w A1_5 l1_5.length l1_5) (hc1_5 : l1_5.length ≤ c1_5) (H : laws_eqJournal.f k a0_0 a0_1 a0_2 a0_3 a0_4 l0_5 a1_0 a1_1 a1_2 a1_3 a1_4 l1_5 = some r) :
 Calls Tryz.prog 8 #[.agg #[.int .i64 a0_0, .int .i64 a0_1, .int .i64 a0_2, .int .i64 a0_3, .int .i64 a0_4, .slice A0_5 l0_5.length c0_5], .agg #[.int .i64 a1_0, .int .i64 a1_1, .int .i64 a1_2, .int .i64 a1_3, .int .i64 a1_4, .slice A1_5 l1_5.length c1_5]] w fun e w' => e = .returned (.bool r) ∧ Below w.heap.size w w' := by
 have hu30 := Tryz.underlying30; have hu28 := Tryz.underlying28; have HR0_5 := ak hr0_5; have HC0_5 := ak hc0_5; clear hr0_5 hc0_5; have HR1_5 := ak hr1_5; have HC1_5 := ak hc1_5; clear hr1_5 hc1_5; have HB := ak (Below.refl w.heap.size w); unfold laws_eqJournal.f at H; revert H
 refine si (fun c3 H => ?_) fun c3 H => ?_
 focus
  have c3b0 : (a0_0 == a1_0) = true := beq_iff_eq.mpr c3; have c3b1 : (a0_0 != a1_0) = false := bne_eq_false_iff_eq.mpr c3; clear c3; revert H
  refine si (fun c4 H => ?_) fun c4 H => ?_
  focus
   have c4b0 : (a0_1 == a1_1) = true := beq_iff_eq.mpr c4; have c4b1 : (a0_1 != a1_1) = false := bne_eq_false_iff_eq.mpr c4; clear c4; revert H
   refine si (fun c5 H => ?_) fun c5 H => ?_
   focus
    have c5b0 : (a0_2 == a1_2) = true := beq_iff_eq.mpr c5; have c5b1 : (a0_2 != a1_2) = false := bne_eq_false_iff_eq.mpr c5; clear c5; obtain ⟨t719, A6, H⟩ := bo H; cases t719; rotate_left; rw [if_pos rfl] at H; obtain rfl := oj H; rotate_left; rw [if_neg nf] at H; obtain rfl := oj H
   rotate_left 2; have c5b0 : (a0_2 == a1_2) = false := beq_eq_false_iff_ne.mpr c5; have c5b1 : (a0_2 != a1_2) = true := bne_iff_ne.mpr c5; obtain rfl := oj H
  rotate_left 3; have c4b0 : (a0_1 == a1_1) = false := beq_eq_false_iff_ne.mpr c4; have c4b1 : (a0_1 != a1_1) = true := bne_iff_ne.mpr c4; obtain rfl := oj H
 rotate_left 4; have c3b0 : (a0_0 == a1_0) = false := beq_eq_false_iff_ne.mpr c3; have c3b1 : (a0_0 != a1_0) = true := bne_iff_ne.mpr c3; obtain rfl := oj H
 all_goals
  go_enter Tryz.func8, Tryz.ntmps8
  go_wp2_with (first | ((with_reducible refine gd 2 rfl ?_); refine bx 2 30 #[.int .i64 a0_0, .int .i64 a0_1, .int .i64 a0_2, .int .i64 a0_3, .int .i64 a0_4, .slice A0_5 l0_5.length c0_5] fun gb717 hg w14 BK717 hb => ?_; have GE717 := ge_ hg HB; replace HB := bs1 HB hb; clear hb hg) | ((with_reducible refine gd 3 rfl ?_); refine bx 3 30 #[.int .i64 a1_0, .int .i64 a1_1, .int .i64 a1_2, .int .i64 a1_3, .int .i64 a1_4, .slice A1_5 l1_5.length c1_5] fun gb718 hg w15 BK718 hb => ?_; have GE718 := ge_ hg HB; replace HB := bs1 HB hb; have NB717_718 := nl_ hg BK717; have NB718_717 := nr_ hg BK717; replace BK717 := bb BK717 hb; clear hb hg; have := NB717_718.out; have := NB718_717.out; obtain ⟨_, _, _, _, _, _, _, _, _, _, _, _⟩ := bc6 BK717; obtain ⟨_, _, _, _, _, _, _, _, _, _, _, _⟩ := bc6 BK718) | ((with_reducible refine gd 24 rfl ?_); refine gc 24 Tryz.func33 (laws_eqLog.calls k a0_3 a0_4 _ _ l0_5 a1_3 a1_4 _ _ l1_5 _ _ ?s1 ?s2 ?s3 ?s4 A6.out) fun w19 hb => ?_; (case s1 => exact ca HR0_5 HB); (case s2 => exact HC0_5.out); (case s3 => exact ca HR1_5 HB); (case s4 => exact HC1_5.out); replace BK717 := bb BK717 hb; replace BK718 := bb BK718 hb; replace HB := bs1 HB hb))
  go_ret; exact ⟨fe, bt HB⟩
def laws_eqAct.f (a0_0 : Int) (a0_1 : ByteArray) (a0_2 : ByteArray) (a0_3 : ByteArray) (a1_0 : Int) (a1_1 : ByteArray) (a1_2 : ByteArray) (a1_3 : ByteArray) : Option (Bool) := if a0_0 = a1_0 then (if a0_1.toList = a1_1.toList then (if a0_2.toList = a1_2.toList then (if a0_3.toList = a1_3.toList then (some true) else (some false)) else (some false)) else (some false)) else (some false)
theorem laws_eqAct.calls (a0_0 : Int) (a0_1 : ByteArray) (a0_2 : ByteArray) (a0_3 : ByteArray) (a1_0 : Int) (a1_1 : ByteArray) (a1_2 : ByteArray) (a1_3 : ByteArray) (r : Bool) (w : World) (H : laws_eqAct.f a0_0 a0_1 a0_2 a0_3 a1_0 a1_1 a1_2 a1_3 = some r) :
 Calls Tryz.prog 34 #[.agg #[.int .i64 a0_0, .string a0_1, .string a0_2, .string a0_3], .agg #[.int .i64 a1_0, .string a1_1, .string a1_2, .string a1_3]] w fun e w' => e = .returned (.bool r) ∧ Below w.heap.size w w' := by
 have hu57 := Tryz.underlying57; have HB := ak (Below.refl w.heap.size w); unfold laws_eqAct.f at H; revert H
 refine si (fun c3 H => ?_) fun c3 H => ?_
 focus
  have c3b0 : (a0_0 == a1_0) = true := beq_iff_eq.mpr c3; have c3b1 : (a0_0 != a1_0) = false := bne_eq_false_iff_eq.mpr c3; clear c3; revert H
  refine si (fun c4 H => ?_) fun c4 H => ?_
  focus
   have c4b0 : (a0_1.toList == a1_1.toList) = true := beq_iff_eq.mpr c4; have c4b1 : (a0_1.toList != a1_1.toList) = false := bne_eq_false_iff_eq.mpr c4; clear c4; revert H
   refine si (fun c5 H => ?_) fun c5 H => ?_
   focus
    have c5b0 : (a0_2.toList == a1_2.toList) = true := beq_iff_eq.mpr c5; have c5b1 : (a0_2.toList != a1_2.toList) = false := bne_eq_false_iff_eq.mpr c5; clear c5; revert H
    refine si (fun c6 H => ?_) fun c6 H => ?_
    have c6b0 : (a0_3.toList == a1_3.toList) = true := beq_iff_eq.mpr c6; have c6b1 : (a0_3.toList != a1_3.toList) = false := bne_eq_false_iff_eq.mpr c6; clear c6; obtain rfl := oj H; rotate_left; have c6b0 : (a0_3.toList == a1_3.toList) = false := beq_eq_false_iff_ne.mpr c6; have c6b1 : (a0_3.toList != a1_3.toList) = true := bne_iff_ne.mpr c6; obtain rfl := oj H
   rotate_left 2; have c5b0 : (a0_2.toList == a1_2.toList) = false := beq_eq_false_iff_ne.mpr c5; have c5b1 : (a0_2.toList != a1_2.toList) = true := bne_iff_ne.mpr c5; obtain rfl := oj H
  rotate_left 3; have c4b0 : (a0_1.toList == a1_1.toList) = false := beq_eq_false_iff_ne.mpr c4; have c4b1 : (a0_1.toList != a1_1.toList) = true := bne_iff_ne.mpr c4; obtain rfl := oj H
 rotate_left 4; have c3b0 : (a0_0 == a1_0) = false := beq_eq_false_iff_ne.mpr c3; have c3b1 : (a0_0 != a1_0) = true := bne_iff_ne.mpr c3; obtain rfl := oj H
 all_goals
  go_enter Tryz.func34, Tryz.ntmps34
  go_wp2_with (first | ((with_reducible refine gd 2 rfl ?_); refine bx 2 57 #[.int .i64 a0_0, .string a0_1, .string a0_2, .string a0_3] fun gb720 hg w27 BK720 hb => ?_; have GE720 := ge_ hg HB; replace HB := bs1 HB hb; clear hb hg) | ((with_reducible refine gd 3 rfl ?_); refine bx 3 57 #[.int .i64 a1_0, .string a1_1, .string a1_2, .string a1_3] fun gb721 hg w28 BK721 hb => ?_; have GE721 := ge_ hg HB; replace HB := bs1 HB hb; have NB720_721 := nl_ hg BK720; have NB721_720 := nr_ hg BK720; replace BK720 := bb BK720 hb; clear hb hg; have := NB720_721.out; have := NB721_720.out; have hcz30_0 : w28.cell? ⟨gb720, 0, none⟩ = some (.int .i64 a0_0) := bc BK720 0; have hcz30_1 : w28.cell? ⟨gb720, 1, none⟩ = some (.string a0_1) := bc BK720 1; have hcz30_2 : w28.cell? ⟨gb720, 2, none⟩ = some (.string a0_2) := bc BK720 2; have hcz30_3 : w28.cell? ⟨gb720, 3, none⟩ = some (.string a0_3) := bc BK720 3; have hfz30_0 := blk_frozen BK720.out 0; have hfz30_1 := blk_frozen BK720.out 1; have hfz30_2 := blk_frozen BK720.out 2; have hfz30_3 := blk_frozen BK720.out 3; have hcz31_0 : w28.cell? ⟨gb721, 0, none⟩ = some (.int .i64 a1_0) := bc BK721 0; have hcz31_1 : w28.cell? ⟨gb721, 1, none⟩ = some (.string a1_1) := bc BK721 1; have hcz31_2 : w28.cell? ⟨gb721, 2, none⟩ = some (.string a1_2) := bc BK721 2; have hcz31_3 : w28.cell? ⟨gb721, 3, none⟩ = some (.string a1_3) := bc BK721 3; have hfz31_0 := blk_frozen BK721.out 0; have hfz31_1 := blk_frozen BK721.out 1; have hfz31_2 := blk_frozen BK721.out 2; have hfz31_3 := blk_frozen BK721.out 3))
  go_ret; exact ⟨fe, bt HB⟩
end Go.Proofs.YtdepaileabejgaaGreatDoor.PFnExactOpenJournal
