/- Walks. No condition. -/
import Derived.Test.YtdepaileabejgaaGreatDoorQFnExactOpenJournalx30
namespace Go.Proofs.YtdepaileabejgaaGreatDoor.PFnExactOpenJournal
open Go.RowKit Go.Proofs.YtdepaileabejgaaGreatDoorW.PrintWords Go.Proofs.YtdepaileabejgaaGreatDoorW.PrintLast Go.Proofs.YtdepaileabejgaaGreatDoorW.PrintMore Go.Proofs.YtdepaileabejgaaGreatDoorW.Short
attribute [local go_sem] max2_int min2_int max_two min_two max_three min_three max_four min_four
set_option maxHeartbeats 8000000
set_option maxRecDepth 100000
set_option linter.unusedVariables false
set_option linter.unusedSimpArgs false
def laws_heldEntryS.l0 : Nat → List (S105) → Int → Int → Option (Int)
 | 0, _, _, _ => none
 | k + 1, x0, x1, x5 => if x5 < (x0.length : Int) then (if 0 ≤ x5 then (if ((rd_T105 x0 x5).f0) = x1 then (if ((rd_T105 x0 x5).f1) = (wrap64 (x1 + 1)) then ((laws_markText.f k (wrap64 ((wrap64 (x1 + 1)) + 1))).bind fun t764 => (if ((rd_T105 x0 x5).f2).toList = t764.toList then (laws_heldEntryS.l0 k x0 (wrap64 ((wrap64 ((wrap64 (x1 + 1)) + 1)) + 1)) (wrap64 (x5 + 1))) else (some (-1)))) else (some (-1))) else (some (-1))) else (none)) else (some x1)
def laws_heldEntryS.f (k : Nat) (l0 : List (S105)) (a1 : Int) : Option (Int) := laws_heldEntryS.l0 k l0 a1 0
def laws_heldEntryS.T10 : Bool × List (List Nat × List Nat) := (true, [([], []), ([], []), ([0, 1], [0, 1]), ([2], [2]), ([3], [3]), ([], []), ([5], [5]), ([4, 6], [4, 6])])
def laws_heldEntryS.B10 : List Nat := [0, 0, 3, 7, 15, 0, 32, 127]
theorem laws_heldEntryS.tab10 : rtab .any (opsOf Tryz.f65 10) = laws_heldEntryS.T10 := by kernel_rfl
theorem laws_heldEntryS.bits10 : waitsOk laws_heldEntryS.T10.2 laws_heldEntryS.B10 = true := by kernel_rfl
theorem laws_heldEntryS.calls (k : Nat) (A0 : Option Addr) (c0 : Nat) (l0 : List (S105)) (a1 : Int) (r : Int) (w : World) (hr0 : Kd.C k105 w A0 l0.length l0) (hc0 : l0.length ≤ c0) (H : laws_heldEntryS.f k l0 a1 = some r) :
 Calls Tryz.prog 65 #[.slice A0 l0.length c0, .int .i64 a1] w fun e w' => e = .returned (.int .i64 r) ∧ Below w.heap.size w w' := by
 have HR0 := ak hr0; have HC0 := ak hc0; clear hr0 hc0; have HB := ak (Below.refl w.heap.size w); unfold laws_heldEntryS.f at H; have H' := ak H; clear H; go_enter Tryz.func65, Tryz.ntmps65; go_wp2
 go_loopg [1, 5] k (fun kq v1 v5 w' => ∃ (x1_1 : Int) (x5_1 : Int), v1 = .int .i64 x1_1 ∧ v5 = .int .i64 x5_1 ∧ Aside0 (laws_heldEntryS.l0 kq l0 x1_1 x5_1 = some r) ∧ Aside0 (kq ≤ k) ∧ Aside0 (Below w.heap.size w w'))
 case atStart => exact ⟨(a1), (0), fr, fr, H', ⟨Nat.le_refl _⟩, ⟨bt HB⟩⟩
 case round =>
  clear H'; obtain ⟨x1_1, x5_1, rfl, rfl, HA, HK1, HB⟩ := hrel
  cases gk with
  | zero => exact absurd HA.out (by simp [laws_heldEntryS.l0])
  | succ k1 =>
   have H := HA.out; clear HA; simp only [laws_heldEntryS.l0] at H; revert H
   refine si (fun c3 H => ?_) fun c3 H => ?_
   ·have c3b0 := dt c3; clear c3; obtain ⟨c4, H⟩ := ifs H; have c4b0 := dt c4; clear c4; revert H
    refine si (fun c5 H => ?_) fun c5 H => ?_
    ·have c5b0 : (((rd_T105 l0 x5_1).f0) == x1_1) = true := beq_iff_eq.mpr c5; have c5b1 : (((rd_T105 l0 x5_1).f0) != x1_1) = false := bne_eq_false_iff_eq.mpr c5; clear c5; revert H
     refine si (fun c6 H => ?_) fun c6 H => ?_
     ·have c6b0 : (((rd_T105 l0 x5_1).f1) == (wrap64 (x1_1 + 1))) = true := beq_iff_eq.mpr c6; have c6b1 : (((rd_T105 l0 x5_1).f1) != (wrap64 (x1_1 + 1))) = false := bne_eq_false_iff_eq.mpr c6; clear c6; obtain ⟨t764, A7, H⟩ := bo H; revert H
      refine si (fun c8 H => ?_) fun c8 H => ?_
      have c8b0 : (((rd_T105 l0 x5_1).f2).toList == t764.toList) = true := beq_iff_eq.mpr c8; have c8b1 : (((rd_T105 l0 x5_1).f2).toList != t764.toList) = false := bne_eq_false_iff_eq.mpr c8; clear c8; have H' := ak H; clear H; obtain ⟨ad761, e761, hx761_0, hx761_1, hx761_2, p761, q761⟩ := ax105 HR0 HB x5_1; cases e761; have p762 : 0 ≤ (x5_1 : Int) := da; have q762 : x5_1 < (l0.length : Int) := da; obtain ⟨ad762, e762, hx762_0, hx762_1, hx762_2⟩ := at_T105 HR0.out x5_1 p762 q762
      obtain rfl : ad761 = ad762 := (by injection e762)
      replace hx762_0 := xb HB hx762_0; replace hx762_1 := xb HB hx762_1; replace hx762_2 := xb HB hx762_2; replace p762 := eq_true p762; replace q762 := eq_true q762; rotate_left; have c8b0 : (((rd_T105 l0 x5_1).f2).toList == t764.toList) = false := beq_eq_false_iff_ne.mpr c8; have c8b1 : (((rd_T105 l0 x5_1).f2).toList != t764.toList) = true := bne_iff_ne.mpr c8; obtain rfl := oj H; obtain ⟨ad761, e761, hx761_0, hx761_1, hx761_2, p761, q761⟩ := ax105 HR0 HB x5_1; cases e761; have p762 : 0 ≤ (x5_1 : Int) := da; have q762 : x5_1 < (l0.length : Int) := da; obtain ⟨ad762, e762, hx762_0, hx762_1, hx762_2⟩ := at_T105 HR0.out x5_1 p762 q762
      obtain rfl : ad761 = ad762 := (by injection e762)
      replace hx762_0 := xb HB hx762_0; replace hx762_1 := xb HB hx762_1; replace hx762_2 := xb HB hx762_2; replace p762 := eq_true p762; replace q762 := eq_true q762
      all_goals
       try go_wp2
       replace HB := ak (below_drew1 HB.out); have p763 : 0 ≤ (x5_1 : Int) := da; have q763 : x5_1 < (l0.length : Int) := da; obtain ⟨ad763, e763, hx763_0, hx763_1, hx763_2⟩ := at_T105 HR0.out x5_1 p763 q763; have hw763_2 := hx763_2; have hw763_1 := hx763_1; have hw763_0 := hx763_0
       obtain rfl : ad761 = ad763 := (by injection e763)
       replace hx763_0 := xb HB hx763_0; replace hx763_1 := xb HB hx763_1; replace hx763_2 := xb HB hx763_2; replace p763 := eq_true p763; replace q763 := eq_true q763
       refine st 8 (fun w' => w'.cell? (ad761.add ((x5_1).toNat * 3)) = some (.int .i64 ((rd_T105 l0 x5_1).f0)) ∧ w'.cell? ⟨(ad761.add ((x5_1).toNat * 3)).block, (ad761.add ((x5_1).toNat * 3)).off + 1, none⟩ = some (.int .i64 ((rd_T105 l0 x5_1).f1)) ∧ w'.cell? ⟨(ad761.add ((x5_1).toNat * 3)).block, (ad761.add ((x5_1).toNat * 3)).off + 2, none⟩ = some (.string ((rd_T105 l0 x5_1).f2))) laws_heldEntryS.tab10 laws_heldEntryS.bits10 ⟨xc HB hw763_0, xc HB hw763_1, xc HB hw763_2⟩ fun hHeld HT_ HW_ => ?_
       generalize wr.drew = w11 at HB hx763_0 hx763_1 hx763_2 hHeld ⊢
       refine pu HT_ 0 30 ?_; refine pu HT_ 1 31 ?_; refine pu HT_ 2 32 ?_; refine pu HT_ 3 33 ?_; refine pu HT_ 5 35 ?_; refine tk HT_ HW_ hHeld 4 34 ?_
       refine on HT_ 6 36 fun K hK => ?_
       refine gq Tryz.func38 (laws_markText.calls k1 (wrap64 ((wrap64 (x1_1 + 1)) + 1)) t764 _ A7.out) fun w12 hb => ?_; replace HB := bs1 HB hb
       refine hK.out _ _ ⟨xc HB hw763_0, xc HB hw763_1, xc HB hw763_2⟩ fun hHeld => ?_
       clear hK K; refine nm 36 ?_; refine pu HT_ 7 37 ?_; refine dn HT_ ?_
       try go_wp2
      ·go_ret; exact ⟨fe, bt HB⟩
      ·go_roundg k1
       case measure => have := HK1.out; omega
       case rel => exact ⟨(wrap64 ((wrap64 ((wrap64 (x1_1 + 1)) + 1)) + 1)), (wrap64 (x5_1 + 1)), fr, fr, H', ⟨by have := HK1.out; omega⟩, ⟨bt HB⟩⟩
     ·have c6b0 : (((rd_T105 l0 x5_1).f1) == (wrap64 (x1_1 + 1))) = false := beq_eq_false_iff_ne.mpr c6; have c6b1 : (((rd_T105 l0 x5_1).f1) != (wrap64 (x1_1 + 1))) = true := bne_iff_ne.mpr c6; obtain rfl := oj H; obtain ⟨ad761, e761, hx761_0, hx761_1, hx761_2, p761, q761⟩ := ax105 HR0 HB x5_1; cases e761; have p762 : 0 ≤ (x5_1 : Int) := da; have q762 : x5_1 < (l0.length : Int) := da; obtain ⟨ad762, e762, hx762_0, hx762_1, hx762_2⟩ := at_T105 HR0.out x5_1 p762 q762
      obtain rfl : ad761 = ad762 := (by injection e762)
      replace hx762_0 := xb HB hx762_0; replace hx762_1 := xb HB hx762_1; replace hx762_2 := xb HB hx762_2; replace p762 := eq_true p762; replace q762 := eq_true q762; go_wp2; go_ret; exact ⟨fe, bt HB⟩
    ·have c5b0 : (((rd_T105 l0 x5_1).f0) == x1_1) = false := beq_eq_false_iff_ne.mpr c5; have c5b1 : (((rd_T105 l0 x5_1).f0) != x1_1) = true := bne_iff_ne.mpr c5; obtain rfl := oj H; obtain ⟨ad761, e761, hx761_0, hx761_1, hx761_2, p761, q761⟩ := ax105 HR0 HB x5_1; cases e761; go_wp2; go_ret; exact ⟨fe, bt HB⟩
   ·have c3b0 := df c3; clear c3; obtain rfl := oj H; go_wp2; go_ret; exact ⟨fe, bt HB⟩
def laws_heldLog.f (k : Nat) (a0_0 : Int) (a0_1 : Int) (l0_2 : List (S105)) (a1 : Int) : Option (Int) := (laws_heldEntryS.f k l0_2 a1).bind fun t766 => (if t766 < 0 then (some (-1)) else (some t766))
theorem laws_heldLog.calls (k : Nat) (a0_0 : Int) (a0_1 : Int) (A0_2 : Option Addr) (c0_2 : Nat) (l0_2 : List (S105)) (a1 : Int) (r : Int) (w : World) (hr0_2 : Kd.C k105 w A0_2 l0_2.length l0_2) (hc0_2 : l0_2.length ≤ c0_2) (H : laws_heldLog.f k a0_0 a0_1 l0_2 a1 = some r) :
 Calls Tryz.prog 39 #[.agg #[.int .i64 a0_0, .int .i64 a0_1, .slice A0_2 l0_2.length c0_2], .int .i64 a1] w fun e w' => e = .returned (.int .i64 r) ∧ Below w.heap.size w w' := by
 have hu28 := Tryz.underlying28; have HR0_2 := ak hr0_2; have HC0_2 := ak hc0_2; clear hr0_2 hc0_2; have HB := ak (Below.refl w.heap.size w); unfold laws_heldLog.f at H; obtain ⟨t766, A3, H⟩ := bo H; revert H
 refine si (fun c4 H => ?_) fun c4 H => ?_
 have c4b0 := dt c4; clear c4; obtain rfl := oj H; rotate_left; have c4b0 := df c4; clear c4; obtain rfl := oj H
 all_goals
  go_enter Tryz.func39, Tryz.ntmps39
  go_wp2_with (first | ((with_reducible refine gd 2 rfl ?_); refine bx 2 28 #[.int .i64 a0_0, .int .i64 a0_1, .slice A0_2 l0_2.length c0_2] fun gb765 hg w8 BK765 hb => ?_; have GE765 := ge_ hg HB; replace HB := bs1 HB hb; clear hb hg; obtain ⟨_, _, _, _, _, _⟩ := bc3 BK765) | ((with_reducible refine gd 8 rfl ?_); refine gc 8 Tryz.func65 (laws_heldEntryS.calls k _ _ l0_2 a1 t766 _ ?s1 ?s2 A3.out) fun w10 hb => ?_; (case s1 => exact ca HR0_2 HB); (case s2 => exact HC0_2.out); replace BK765 := bb BK765 hb; replace HB := bs1 HB hb))
  go_ret; exact ⟨fe, bt HB⟩
def laws_heldJournal.f (k : Nat) (a0_0 : Int) (a0_1 : Int) (a0_2 : Int) (a0_3 : Int) (a0_4 : Int) (l0_5 : List (S105)) (a1 : Int) : Option (Int) := (laws_heldLog.f k a0_3 a0_4 l0_5 a1).bind fun t768 => (if t768 < 0 then (some (-1)) else (some t768))
theorem laws_heldJournal.calls (k : Nat) (a0_0 : Int) (a0_1 : Int) (a0_2 : Int) (a0_3 : Int) (a0_4 : Int) (A0_5 : Option Addr) (c0_5 : Nat) (l0_5 : List (S105)) (a1 : Int) (r : Int) (w : World) (hr0_5 : Kd.C k105 w A0_5 l0_5.length l0_5) (hc0_5 : l0_5.length ≤ c0_5) (H : laws_heldJournal.f k a0_0 a0_1 a0_2 a0_3 a0_4 l0_5 a1 = some r) :
 Calls Tryz.prog 14 #[.agg #[.int .i64 a0_0, .int .i64 a0_1, .int .i64 a0_2, .int .i64 a0_3, .int .i64 a0_4, .slice A0_5 l0_5.length c0_5], .int .i64 a1] w fun e w' => e = .returned (.int .i64 r) ∧ Below w.heap.size w w' := by
 have hu30 := Tryz.underlying30; have hu28 := Tryz.underlying28; have HR0_5 := ak hr0_5; have HC0_5 := ak hc0_5; clear hr0_5 hc0_5; have HB := ak (Below.refl w.heap.size w); unfold laws_heldJournal.f at H; obtain ⟨t768, A3, H⟩ := bo H; revert H
 refine si (fun c4 H => ?_) fun c4 H => ?_
 have c4b0 := dt c4; clear c4; obtain rfl := oj H; rotate_left; have c4b0 := df c4; clear c4; obtain rfl := oj H
 all_goals
  go_enter Tryz.func14, Tryz.ntmps14
  go_wp2_with (first | ((with_reducible refine gd 2 rfl ?_); refine bx 2 30 #[.int .i64 a0_0, .int .i64 a0_1, .int .i64 a0_2, .int .i64 a0_3, .int .i64 a0_4, .slice A0_5 l0_5.length c0_5] fun gb767 hg w8 BK767 hb => ?_; have GE767 := ge_ hg HB; replace HB := bs1 HB hb; clear hb hg; obtain ⟨_, _, _, _, _, _, _, _, _, _, _, _⟩ := bc6 BK767) | ((with_reducible refine gd 8 rfl ?_); refine gc 8 Tryz.func39 (laws_heldLog.calls k a0_3 a0_4 _ _ l0_5 a1 t768 _ ?s1 ?s2 A3.out) fun w10 hb => ?_; (case s1 => exact ca HR0_5 HB); (case s2 => exact HC0_5.out); replace BK767 := bb BK767 hb; replace HB := bs1 HB hb))
  go_ret; exact ⟨fe, bt HB⟩
end Go.Proofs.YtdepaileabejgaaGreatDoor.PFnExactOpenJournal
