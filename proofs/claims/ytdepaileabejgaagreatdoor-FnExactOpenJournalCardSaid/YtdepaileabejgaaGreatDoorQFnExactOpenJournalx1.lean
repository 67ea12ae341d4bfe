/- Walks. No condition. -/
import Derived.Test.YtdepaileabejgaaGreatDoorTiny
import Derived.Test.YtdepaileabejgaaGreatDoorQFnExactOpenJournalx0
namespace Go.Proofs.YtdepaileabejgaaGreatDoor.PFnExactOpenJournal
open Go.RowKit Go.Proofs.YtdepaileabejgaaGreatDoorW.PrintWords Go.Proofs.YtdepaileabejgaaGreatDoorW.PrintLast Go.Proofs.YtdepaileabejgaaGreatDoorW.PrintMore Go.Proofs.YtdepaileabejgaaGreatDoorW.Short
attribute [local go_sem] max2_int min2_int max_two min_two max_three min_three max_four min_four
set_option maxHeartbeats 8000000
set_option maxRecDepth 100000
set_option linter.unusedVariables false
set_option linter.unusedSimpArgs false
def laws_szFile.f (a0_0 : ByteArray) (a0_1 : ByteArray) (a0_2 : Int) (a1 : Int) : Option (Int) := if (wrap64 (a1 - (a0_0.size : Int))) < 0 then (some (-1)) else (if (wrap64 ((wrap64 (a1 - (a0_0.size : Int))) - (a0_1.size : Int))) < 0 then (some (-1)) else (some (wrap64 ((wrap64 (a1 - (a0_0.size : Int))) - (a0_1.size : Int)))))
theorem laws_szFile.calls (a0_0 : ByteArray) (a0_1 : ByteArray) (a0_2 : Int) (a1 : Int) (r : Int) (w : World) (H : laws_szFile.f a0_0 a0_1 a0_2 a1 = some r) :
 Calls Tryz.prog 40 #[.agg #[.string a0_0, .string a0_1, .int .i64 a0_2], .int .i64 a1] w fun e w' => e = .returned (.int .i64 r) ∧ Below w.heap.size w w' := by
 have hu72 := Tryz.underlying72; have HB := ak (Below.refl w.heap.size w); unfold laws_szFile.f at H; revert H
 refine si (fun c3 H => ?_) fun c3 H => ?_
 have c3b0 := dt c3; clear c3; obtain rfl := oj H; rotate_left
 focus
  have c3b0 := df c3; clear c3; revert H
  refine si (fun c6 H => ?_) fun c6 H => ?_
  have c6b0 := dt c6; clear c6; obtain rfl := oj H; rotate_left; have c6b0 := df c6; clear c6; obtain rfl := oj H
 all_goals
  go_enter Tryz.func40, Tryz.ntmps40
  go_wp2_with (first | ((with_reducible refine gd 2 rfl ?_); refine bx 2 72 #[.string a0_0, .string a0_1, .int .i64 a0_2] fun gb101 hg w9 BK101 hb => ?_; have GE101 := ge_ hg HB; replace HB := bs1 HB hb; clear hb hg; obtain ⟨_, _, _, _, _, _⟩ := bc3 BK101))
  go_ret; exact ⟨fe, bt HB⟩
def laws_szFileS.l0 : Nat → List (S72) → Int → Int → Option (Int)
 | 0, _, _, _ => none
 | k + 1, x0, x1, x5 => if x5 < (x0.length : Int) then (if 0 ≤ x5 then ((laws_szFile.f ((rd_T72 x0 x5).f0) ((rd_T72 x0 x5).f1) ((rd_T72 x0 x5).f2) x1).bind fun t103 => (if t103 < 0 then (some (-1)) else (laws_szFileS.l0 k x0 t103 (wrap64 (x5 + 1))))) else (none)) else (some x1)
def laws_szFileS.f (k : Nat) (l0 : List (S72)) (a1 : Int) : Option (Int) := if (wrap64 (a1 - (l0.length : Int))) < 0 then (some (-1)) else (laws_szFileS.l0 k l0 (wrap64 (a1 - (l0.length : Int))) 0)
theorem laws_szFileS.calls (k : Nat) (A0 : Option Addr) (c0 : Nat) (l0 : List (S72)) (a1 : Int) (r : Int) (w : World) (hr0 : Kd.C k72 w A0 l0.length l0) (hc0 : l0.length ≤ c0) (H : laws_szFileS.f k l0 a1 = some r) :
 Calls Tryz.prog 16 #[.slice A0 l0.length c0, .int .i64 a1] w fun e w' => e = .returned (.int .i64 r) ∧ Below w.heap.size w w' := by
 have hu72 := Tryz.underlying72; have HR0 := ak hr0; have HC0 := ak hc0; clear hr0 hc0; have HB := ak (Below.refl w.heap.size w); unfold laws_szFileS.f at H; revert H
 refine si (fun c3 H => ?_) fun c3 H => ?_
 ·have c3b0 := dt c3; clear c3; obtain rfl := oj H; go_enter Tryz.func16, Tryz.ntmps16; go_wp2; go_ret; exact ⟨fe, bt HB⟩
 ·have c3b0 := df c3; clear c3; have H' := ak H; clear H; go_enter Tryz.func16, Tryz.ntmps16; go_wp2
  go_loopg [1, 5] k (fun kq v1 v5 w' => ∃ (x1_1 : Int) (x5_1 : Int), v1 = .int .i64 x1_1 ∧ v5 = .int .i64 x5_1 ∧ Aside0 (laws_szFileS.l0 kq l0 x1_1 x5_1 = some r) ∧ Aside0 (kq ≤ k) ∧ Aside0 (Below w.heap.size w w'))
  case atStart => exact ⟨(wrap64 (a1 - (l0.length : Int))), (0), fr, fr, H', ⟨Nat.le_refl _⟩, ⟨bt HB⟩⟩
  case round =>
   clear H'; obtain ⟨x1_1, x5_1, rfl, rfl, HA, HK1, HB⟩ := hrel
   cases gk with
   | zero => exact absurd HA.out (by simp [laws_szFileS.l0])
   | succ k1 =>
    have H := HA.out; clear HA; simp only [laws_szFileS.l0] at H; revert H
    refine si (fun c4 H => ?_) fun c4 H => ?_
    ·have c4b0 := dt c4; clear c4; obtain ⟨c5, H⟩ := ifs H; have c5b0 := dt c5; clear c5; obtain ⟨t103, A6, H⟩ := bo H; revert H
     refine si (fun c7 H => ?_) fun c7 H => ?_
     have c7b0 := dt c7; clear c7; obtain rfl := oj H; obtain ⟨ad102, e102, hx102_0, hx102_1, hx102_2, p102, q102⟩ := ax72 HR0 HB x5_1; cases e102; rotate_left; have c7b0 := df c7; clear c7; have H' := ak H; clear H; obtain ⟨ad102, e102, hx102_0, hx102_1, hx102_2, p102, q102⟩ := ax72 HR0 HB x5_1; cases e102
     all_goals
      go_wp2_with (first | ((with_reducible refine gd 23 rfl ?_); refine gc 23 Tryz.func40 (laws_szFile.calls ((rd_T72 l0 x5_1).f0) ((rd_T72 l0 x5_1).f1) ((rd_T72 l0 x5_1).f2) x1_1 t103 _ A6.out) fun w9 hb => ?_; replace HB := bs1 HB hb))
     ·go_roundg k1
      case measure => have := HK1.out; omega
      case rel => exact ⟨(t103), (wrap64 (x5_1 + 1)), fr, fr, H', ⟨by have := HK1.out; omega⟩, ⟨bt HB⟩⟩
     ·go_ret; exact ⟨fe, bt HB⟩
    ·have c4b0 := df c4; clear c4; obtain rfl := oj H; go_wp2; go_ret; exact ⟨fe, bt HB⟩
def laws_szDisk.f (k : Nat) (l0_0 : List (S72)) (a1 : Int) : Option (Int) := (laws_szFileS.f k l0_0 a1).bind fun t105 => (if t105 < 0 then (some (-1)) else (some t105))
theorem laws_szDisk.calls (k : Nat) (A0_0 : Option Addr) (c0_0 : Nat) (l0_0 : List (S72)) (a1 : Int) (r : Int) (w : World) (hr0_0 : Kd.C k72 w A0_0 l0_0.length l0_0) (hc0_0 : l0_0.length ≤ c0_0) (H : laws_szDisk.f k l0_0 a1 = some r) :
 Calls Tryz.prog 4 #[.agg #[.slice A0_0 l0_0.length c0_0], .int .i64 a1] w fun e w' => e = .returned (.int .i64 r) ∧ Below w.heap.size w w' := by
 have hu24 := Tryz.underlying24; have HR0_0 := ak hr0_0; have HC0_0 := ak hc0_0; clear hr0_0 hc0_0; have HB := ak (Below.refl w.heap.size w); unfold laws_szDisk.f at H; obtain ⟨t105, A3, H⟩ := bo H; revert H
 refine si (fun c4 H => ?_) fun c4 H => ?_
 have c4b0 := dt c4; clear c4; obtain rfl := oj H; rotate_left; have c4b0 := df c4; clear c4; obtain rfl := oj H
 all_goals
  go_enter Tryz.func4, Tryz.ntmps4
  go_wp2_with (first | ((with_reducible refine gd 2 rfl ?_); refine bx 2 24 #[.slice A0_0 l0_0.length c0_0] fun gb104 hg w8 BK104 hb => ?_; have GE104 := ge_ hg HB; replace HB := bs1 HB hb; clear hb hg; obtain ⟨_, _⟩ := bc1 BK104) | ((with_reducible refine gd 8 rfl ?_); refine gc 8 Tryz.func16 (laws_szFileS.calls k _ _ l0_0 a1 t105 _ ?s1 ?s2 A3.out) fun w10 hb => ?_; (case s1 => exact ca HR0_0 HB); (case s2 => exact HC0_0.out); replace BK104 := bb BK104 hb; replace HB := bs1 HB hb))
  go_ret; exact ⟨fe, bt HB⟩
def spec_l01In.f (a0 : Int) (a1 : Int) (a2 : Int) : Option (Bool) := if a0 ≥ a1 then (some (decide (a0 ≤ a2))) else (some false)
theorem spec_l01In.calls (a0 : Int) (a1 : Int) (a2 : Int) (r : Bool) (w : World) (H : spec_l01In.f a0 a1 a2 = some r) :
 Calls Tryz.prog 42 #[.int .i64 a0, .int .i64 a1, .int .i64 a2] w fun e w' => e = .returned (.bool r) ∧ Drawn0 w w' := by
 unfold spec_l01In.f at H; revert H
 refine si (fun c4 H => ?_) fun c4 H => ?_
 have c4b0 : decide (a1 ≤ a0) = true := dt c4; clear c4; obtain rfl := oj H; rotate_left; have c4b0 : decide (a1 ≤ a0) = false := df c4; clear c4; obtain rfl := oj H
 all_goals
  go_enter Tryz.func42, Tryz.ntmps42; go_wp2; go_ret
  exact ⟨fr, d0⟩
def spec_l03Name.f (a0 : ByteArray) : Option (Bool) := (spec_l01In.f (a0.size : Int) 1 8).bind fun t106 => (some t106)
theorem spec_l03Name.calls (a0 : ByteArray) (r : Bool) (w : World) (H : spec_l03Name.f a0 = some r) :
 Calls Tryz.prog 41 #[.string a0] w fun e w' => e = .returned (.bool r) ∧ Drawn0 w w' := by
 unfold spec_l03Name.f at H; obtain ⟨t106, A2, H⟩ := bo H; obtain rfl := oj H; go_enter Tryz.func41, Tryz.ntmps41
 go_wp2_with (first | ((with_reducible refine gd 5 rfl ?_); refine gc 5 Tryz.func42 (spec_l01In.calls (a0.size : Int) 1 8 t106 _ A2.out) fun w' h_ => ?_; obtain ⟨nd, rfl⟩ := h_))
 go_ret
 exact ⟨fr, d0⟩
end Go.Proofs.YtdepaileabejgaaGreatDoor.PFnExactOpenJournal
