/- Walks. No condition. -/
import Derived.Laws.Cover1
import Derived.Test.YtdepaileabejgaaGreatDoorQFnExactOpenJournalx1
namespace Go.Proofs.YtdepaileabejgaaGreatDoor.PFnExactOpenJournal
open Go.RowKit Go.Proofs.YtdepaileabejgaaGreatDoorW.PrintWords Go.Proofs.YtdepaileabejgaaGreatDoorW.PrintLast Go.Proofs.YtdepaileabejgaaGreatDoorW.PrintMore Go.Proofs.YtdepaileabejgaaGreatDoorW.Short
attribute [local go_sem] max2_int min2_int max_two min_two max_three min_three max_four min_four
set_option maxHeartbeats 8000000
set_option maxRecDepth 100000
set_option linter.unusedVariables false
set_option linter.unusedSimpArgs false
def spec_DiskOk.l0 : Nat → Int → List (S49) → Option (Bool)
 | 0, _, _ => none
 | k + 1, x3, x108000 => if x3 < (x108000.length : Int) then (if 0 ≤ x3 then ((spec_l03Name.f ((rd_T49 x108000 x3).f0)).bind fun t110 => (if t110 = true then (if (((rd_T49 x108000 x3).f1).size : Int) > 20000 then (some false) else ((spec_l01In.f ((rd_T49 x108000 x3).f2) 0 (((rd_T49 x108000 x3).f1).size : Int)).bind fun t111 => (if t111 = true then (if x3 > 0 then (if 0 ≤ (wrap64 (x3 - 1)) then (if (wrap64 (x3 - 1)) < (x108000.length : Int) then (if ((Op.bytesLess (((rd_T49 x108000 (wrap64 (x3 - 1))).f0).toList) (((rd_T49 x108000 x3).f0).toList)) = true) then (spec_DiskOk.l0 k (wrap64 (x3 + 1)) x108000) else (some false)) else (none)) else (none)) else (spec_DiskOk.l0 k (wrap64 (x3 + 1)) x108000)) else (some false)))) else (some false))) else (none)) else (some true)
def spec_DiskOk.f (k : Nat) (l0_0 : List (S49)) : Option (Bool) := if (l0_0.length : Int) > 30 then (some false) else (spec_DiskOk.l0 k 0 l0_0)
def spec_DiskOk.T7 : Bool × List (List Nat × List Nat) := (true, [([], []), ([0], [0]), ([1], [1]), ([2], [2]), ([3, 2], [3]), ([4], [4]), ([5, 4], [4, 5]), ([6, 4], [4, 6]), ([7, 4], [4, 7]), ([4, 8], [4, 8]), ([9, 4], [9]), ([10], [10]), ([11, 10], [10, 11]), ([10], [10]), ([13, 10], [10, 13]), ([14, 10], [10, 14]), ([12, 15, 10, 10], [10, 12, 15]), ([16, 10], [10, 16]), ([10, 17], [10, 17]), ([18, 16], [18]), ([19], [19]), ([20, 19], [19, 20]), ([21, 19, 19], [19, 21]), ([22], [22]), ([23, 22], [22, 23]), ([22], [22]), ([25, 22], [22, 25]), ([24, 26, 22], [22, 24, 26]), ([27, 22], [22, 27]), ([28, 22], [22, 28]), ([22], [22]), ([30, 22], [22, 30]), ([29, 31, 22], [22, 29, 31]), ([22, 32, 19], [19, 22, 32]), ([19, 33], [19, 33])])
def spec_DiskOk.B7 : List Nat := [0, 1, 3, 7, 15, 31, 63, 127, 255, 511, 1023, 2047, 4095, 2047, 10239, 26623, 65535, 131071, 262143, 524287, 1048575, 2097151, 4194303, 8388607, 16777215, 8388607, 41943039, 134217727, 268435455, 536870911, 8388607, 1082130431, 4294967295, 8589934591, 17179869183]
theorem spec_DiskOk.tab7 : rtab .any (opsOf Tryz.f17 7) = spec_DiskOk.T7 := by kernel_rfl
theorem spec_DiskOk.bits7 : waitsOk spec_DiskOk.T7.2 spec_DiskOk.B7 = true := by kernel_rfl
set_option maxHeartbeats 80000000 in
set_option maxRecDepth 100000 in
theorem spec_DiskOk.calls (k : Nat) (A0_0 : Option Addr) (c0_0 : Nat) (l0_0 : List (S49)) (r : Bool) (w : World) (hr0_0 : Kd.C k49 w A0_0 l0_0.length l0_0) (hc0_0 : l0_0.length ≤ c0_0) (H : spec_DiskOk.f k l0_0 = some r) :
 Calls Tryz.prog 17 #[.agg #[.slice A0_0 l0_0.length c0_0]] w fun e w' => e = .returned (.bool r) ∧ Below w.heap.size w w' := by
 have hu36 := Tryz.underlying36; have hu49 := Tryz.underlying49; have HR0_0 := ak hr0_0; have HC0_0 := ak hc0_0; clear hr0_0 hc0_0; have HB := ak (Below.refl w.heap.size w); unfold spec_DiskOk.f at H; revert H
 refine si (fun c2 H => ?_) fun c2 H => ?_
 have c2b0 : decide (30 < (l0_0.length : Int)) = true := dt c2
 have c2b1 : decide (30 < l0_0.length) = true := dt (by omega)
 clear c2; obtain rfl := oj H; rotate_left; have c2b0 : decide (30 < (l0_0.length : Int)) = false := df c2
 have c2b1 : decide (30 < l0_0.length) = false := df (by omega)
 clear c2; have H' := ak H; clear H
 all_goals
  go_enter Tryz.func17, Tryz.ntmps17
  go_wp2_with (first | ((with_reducible refine gate_dst (N := 1) rfl ?_); (try (refine gate_guard (by rfl) ?_; dsimp only)); refine box_event ?hg (N := 1) ?hd (cs := #[.slice A0_0 l0_0.length c0_0]) (t := 36) ?hr ?_; (case hd => rfl); (case hg => rfl); (case hr => first | (go_simp; done) | (go_simp; rfl)); intro gb107 hg w5 hbox hb; have BK107 := ak hbox; have GE107 := ge_ hg HB; replace HB := bs1 HB hb; clear hb hbox hg; obtain ⟨_, _⟩ := bc1 BK107))
 ·go_loopg [3] k (fun kq v3 w' => ∃ (x3_1 : Int), v3 = .int .i64 x3_1 ∧ Aside0 (spec_DiskOk.l0 kq x3_1 l0_0 = some r) ∧ Aside0 (kq ≤ k) ∧ Aside0 (w'.heap[gb107]? = some (.cells #[(.slice A0_0 l0_0.length c0_0)] 36 (0, 0))) ∧ Aside0 (Below w.heap.size w w'))
  case atStart => exact ⟨(0), fr, H', ⟨Nat.le_refl _⟩, ⟨bk BK107⟩, ⟨bt HB⟩⟩
  case round =>
   clear H'; obtain ⟨x3_1, rfl, HA, HK1, BK107, HB⟩ := hrel
   cases gk with
   | zero => exact absurd HA.out (by simp [spec_DiskOk.l0])
   | succ k1 =>
    have H := HA.out; clear HA; simp only [spec_DiskOk.l0] at H; revert H
    refine si (fun c7 H => ?_) fun c7 H => ?_
    ·have c7b0 := dt c7; clear c7; obtain ⟨c8, H⟩ := ifs H; have c8b0 := dt c8; clear c8; obtain ⟨t110, A9, H⟩ := bo H; cases t110; rotate_left
     focus
      rw [if_pos rfl] at H; revert H
      refine si (fun c11 H => ?_) fun c11 H => ?_
      have c11b0 : decide (20000 < (((rd_T49 l0_0 x3_1).f1).size : Int)) = true := dt c11
      have c11b1 : decide (20000 < ((rd_T49 l0_0 x3_1).f1).size) = true := dt (by omega)
      clear c11; obtain rfl := oj H; obtain ⟨_, _⟩ := bc1 BK107; obtain ⟨ad108, e108, hx108_0, hx108_1, hx108_2, p108, q108⟩ := ax49 HR0_0 HB x3_1; cases e108; rotate_left
      focus
       have c11b0 : decide (20000 < (((rd_T49 l0_0 x3_1).f1).size : Int)) = false := df c11
       have c11b1 : decide (20000 < ((rd_T49 l0_0 x3_1).f1).size) = false := df (by omega)
       clear c11; obtain ⟨t111, A18, H⟩ := bo H; cases t111; rotate_left
       focus
        rw [if_pos rfl] at H; revert H
        refine si (fun c20 H => ?_) fun c20 H => ?_
        focus
         have c20b0 : decide (0 < x3_1) = true := dt c20; clear c20; obtain ⟨ji21, hji21, hji21w⟩ := jj (x3_1 - 1)
         first | rw [hji21] at H | simp only [hji21] at H
         (try rw [hji21] at A9)
         (try rw [hji21] at A18)
         obtain ⟨c22, H⟩ := ifs H; have c22b0 := dt c22; clear c22; obtain ⟨c23, H⟩ := ifs H; have c23b0 := dt c23; clear c23; revert H
         refine si (fun c24 H => ?_) fun c24 H => ?_
         have c24b0 : (Op.bytesLess (((rd_T49 l0_0 (ji21)).f0).toList) (((rd_T49 l0_0 x3_1).f0).toList)) = true := c24; clear c24; have H' := ak H; clear H; obtain ⟨_, _⟩ := bc1 BK107; obtain ⟨ad108, e108, hx108_0, hx108_1, hx108_2, p108, q108⟩ := ax49 HR0_0 HB x3_1; cases e108; rotate_left
         have c24b0 : (Op.bytesLess (((rd_T49 l0_0 (ji21)).f0).toList) (((rd_T49 l0_0 x3_1).f0).toList)) = false := by simpa using c24
         clear c24; obtain rfl := oj H; obtain ⟨_, _⟩ := bc1 BK107; obtain ⟨ad108, e108, hx108_0, hx108_1, hx108_2, p108, q108⟩ := ax49 HR0_0 HB x3_1; cases e108
        rotate_left 2; have c20b0 : decide (0 < x3_1) = false := df c20; clear c20; have H' := ak H; clear H; obtain ⟨_, _⟩ := bc1 BK107; obtain ⟨ad108, e108, hx108_0, hx108_1, hx108_2, p108, q108⟩ := ax49 HR0_0 HB x3_1; cases e108
       rotate_left 3; rw [if_neg nf] at H; obtain rfl := oj H; obtain ⟨_, _⟩ := bc1 BK107; obtain ⟨ad108, e108, hx108_0, hx108_1, hx108_2, p108, q108⟩ := ax49 HR0_0 HB x3_1; cases e108
     rotate_left 5; rw [if_neg nf] at H; obtain rfl := oj H; obtain ⟨_, _⟩ := bc1 BK107; obtain ⟨ad108, e108, hx108_0, hx108_1, hx108_2, p108, q108⟩ := ax49 HR0_0 HB x3_1; cases e108
     all_goals
      try go_wp2_with (first | ((with_reducible refine gate_dst (N := 4) rfl ?_); (try (refine gate_guard (by rfl) ?_; dsimp only)); refine box_event ?hg (N := 4) ?hd (cs := #[.string (⟨#[]⟩ : ByteArray), .string (⟨#[]⟩ : ByteArray), .int .i64 0]) (t := 49) ?hr ?_; (case hd => rfl); (case hg => rfl); (case hr => first | (go_simp; done) | (go_simp; rfl)); intro gb109 hg w50 hbox hb; have BK109 := ak hbox; have GE109 := ge_ hg HB; replace HB := bs1 HB hb; have NB107_109 := nl_ hg BK107; have NB109_107 := nr_ hg BK107; replace BK107 := bb BK107 hb; clear hb hbox hg; have := NB109_107.out; have := NB107_109.out; obtain ⟨_, _, _, _, _, _⟩ := bc3 BK109))
      have n0_ : Aside0 ((((w50.setCell ⟨gb109, 0, none⟩ (.string ((rd_T49 l0_0 x3_1).f0))).setCell ⟨gb109, 1, none⟩ (.string ((rd_T49 l0_0 x3_1).f1))).setCell ⟨gb109, 2, none⟩ (.int .i64 ((rd_T49 l0_0 x3_1).f2))).heap[gb107]? = some (.cells #[.slice (some ad108) l0_0.length c0_0] 36 (0, 0))) := ⟨bg BK107⟩
      have n1_ : Aside0 ((((w50.setCell ⟨gb109, 0, none⟩ (.string ((rd_T49 l0_0 x3_1).f0))).setCell ⟨gb109, 1, none⟩ (.string ((rd_T49 l0_0 x3_1).f1))).setCell ⟨gb109, 2, none⟩ (.int .i64 ((rd_T49 l0_0 x3_1).f2))).heap[gb109]? = some (.cells #[.string ((rd_T49 l0_0 x3_1).f0), .string ((rd_T49 l0_0 x3_1).f1), .int .i64 ((rd_T49 l0_0 x3_1).f2)] 49 (0, 0))) := ⟨by refine bk_ ?_; refine blk_put (cs := #[.string ((rd_T49 l0_0 x3_1).f0), .string ((rd_T49 l0_0 x3_1).f1), .int .i64 0]) ?_ 2 _ rfl; refine bk_ ?_; refine blk_put (cs := #[.string ((rd_T49 l0_0 x3_1).f0), .string (⟨#[]⟩ : ByteArray), .int .i64 0]) ?_ 1 _ rfl; refine bk_ ?_; refine blk_put (cs := #[.string (⟨#[]⟩ : ByteArray), .string (⟨#[]⟩ : ByteArray), .int .i64 0]) ?_ 0 _ rfl; refine bk_ ?_; exact BK109.out⟩
      have n2_ : Aside0 (Below w.heap.size w (((w50.setCell ⟨gb109, 0, none⟩ (.string ((rd_T49 l0_0 x3_1).f0))).setCell ⟨gb109, 1, none⟩ (.string ((rd_T49 l0_0 x3_1).f1))).setCell ⟨gb109, 2, none⟩ (.int .i64 ((rd_T49 l0_0 x3_1).f2)))) := ⟨bt HB⟩
      (try clear BK107)
      (try clear BK109)
      (try clear HB)
     ·generalize (((w50.setCell ⟨gb109, 0, none⟩ (.string ((rd_T49 l0_0 x3_1).f0))).setCell ⟨gb109, 1, none⟩ (.string ((rd_T49 l0_0 x3_1).f1))).setCell ⟨gb109, 2, none⟩ (.int .i64 ((rd_T49 l0_0 x3_1).f2))) = w53 at n0_ n1_ n2_ ⊢
      have BK107 := n0_; have BK109 := n1_; have HB := n2_; clear n0_ n1_ n2_; replace BK107 := ak (blk_drew BK107.out); replace BK109 := ak (blk_drew BK109.out); replace HB := ak (below_drew1 HB.out)
      refine st 35 (fun w' => d3 w' gb109 (.string ((rd_T49 l0_0 x3_1).f0)) (.string ((rd_T49 l0_0 x3_1).f1)) (.int .i64 ((rd_T49 l0_0 x3_1).f2))) spec_DiskOk.tab7 spec_DiskOk.bits7 hp fun hHeld HT_ HW_ => ?_
      generalize w53.drew = w54 at BK107 BK109 HB hHeld ⊢
      refine pu HT_ 0 21 ?_; refine tk HT_ HW_ hHeld 1 22 ?_
      refine on HT_ 2 23 fun K hK => ?_
      refine gq Tryz.func41 (spec_l03Name.calls ((rd_T49 l0_0 x3_1).f0) false _ A9.out) fun w' h_ => ?_; obtain ⟨nd, rfl⟩ := h_
      refine hK.out _ _ hp fun hHeld => ?_
      clear hK K; refine nm 23 ?_; refine pu HT_ 3 24 ?_; refine pu HT_ 4 25 ?_; refine pz HT_ 5 26 ?_; refine pz HT_ 6 27 ?_; refine pz HT_ 7 28 ?_; refine pz HT_ 8 29 ?_; refine pu HT_ 9 30 ?_; refine pu HT_ 10 31 ?_; refine pz HT_ 11 32 ?_; refine pz HT_ 12 33 ?_; refine pz HT_ 13 34 ?_; refine pz HT_ 14 35 ?_; refine pz HT_ 15 36 ?_; refine pz HT_ 16 37 ?_; refine pz HT_ 17 38 ?_; refine pu HT_ 18 39 ?_; refine pu HT_ 19 40 ?_; refine pz HT_ 20 41 ?_; refine pz HT_ 21 42 ?_; refine pz HT_ 22 43 ?_; refine pz HT_ 23 44 ?_; refine pz HT_ 24 45 ?_; refine pz HT_ 25 46 ?_; refine pz HT_ 26 47 ?_; refine pz HT_ 27 48 ?_; refine pz HT_ 28 49 ?_; refine pz HT_ 29 50 ?_; refine pz HT_ 30 51 ?_; refine pz HT_ 31 52 ?_; refine pz HT_ 32 53 ?_; refine pz HT_ 33 54 ?_; refine pu HT_ 34 55 ?_; refine dn HT_ ?_
      try go_wp2
      go_ret; exact ⟨fe, bt HB⟩
     ·generalize (((w50.setCell ⟨gb109, 0, none⟩ (.string ((rd_T49 l0_0 x3_1).f0))).setCell ⟨gb109, 1, none⟩ (.string ((rd_T49 l0_0 x3_1).f1))).setCell ⟨gb109, 2, none⟩ (.int .i64 ((rd_T49 l0_0 x3_1).f2))) = w47 at n0_ n1_ n2_ ⊢
      have BK107 := n0_; have BK109 := n1_; have HB := n2_; clear n0_ n1_ n2_; replace BK107 := ak (blk_drew BK107.out); replace BK109 := ak (blk_drew BK109.out); replace HB := ak (below_drew1 HB.out)
      refine st 35 (fun w' => d3 w' gb109 (.string ((rd_T49 l0_0 x3_1).f0)) (.string ((rd_T49 l0_0 x3_1).f1)) (.int .i64 ((rd_T49 l0_0 x3_1).f2))) spec_DiskOk.tab7 spec_DiskOk.bits7 hp fun hHeld HT_ HW_ => ?_
      generalize w47.drew = w48 at BK107 BK109 HB hHeld ⊢
      refine pu HT_ 0 21 ?_; refine tk HT_ HW_ hHeld 1 22 ?_
      refine on HT_ 2 23 fun K hK => ?_
      refine gq Tryz.func41 (spec_l03Name.calls ((rd_T49 l0_0 x3_1).f0) true _ A9.out) fun w' h_ => ?_; obtain ⟨nd, rfl⟩ := h_
      refine hK.out _ _ hp fun hHeld => ?_
      clear hK K; refine nm 23 ?_; refine pu HT_ 3 24 ?_; refine pu HT_ 4 25 ?_; refine pu HT_ 5 26 ?_; refine tk HT_ HW_ hHeld 6 27 ?_; refine pu HT_ 7 28 ?_; refine pu HT_ 8 29 ?_; refine pu HT_ 9 30 ?_; refine pu HT_ 10 31 ?_; refine pu HT_ 11 32 ?_; refine pu HT_ 13 34 ?_; refine tk HT_ HW_ hHeld 12 33 ?_; refine tk HT_ HW_ hHeld 14 35 ?_; refine pu HT_ 15 36 ?_
      refine on HT_ 16 37 fun K hK => ?_
      refine gq Tryz.func42 (spec_l01In.calls ((rd_T49 l0_0 x3_1).f2) 0 (((rd_T49 l0_0 x3_1).f1).size : Int) false _ A18.out) fun w' h_ => ?_; obtain ⟨nd, rfl⟩ := h_
      refine hK.out _ _ hp fun hHeld => ?_
      clear hK K; refine nm 37 ?_; refine pu HT_ 17 38 ?_; refine pu HT_ 18 39 ?_; refine pu HT_ 19 40 ?_; refine pz HT_ 20 41 ?_; refine pz HT_ 21 42 ?_; refine pz HT_ 22 43 ?_; refine pz HT_ 23 44 ?_; refine pz HT_ 24 45 ?_; refine pz HT_ 25 46 ?_; refine pz HT_ 26 47 ?_; refine pz HT_ 27 48 ?_; refine pz HT_ 28 49 ?_; refine pz HT_ 29 50 ?_; refine pz HT_ 30 51 ?_; refine pz HT_ 31 52 ?_; refine pz HT_ 32 53 ?_; refine pz HT_ 33 54 ?_; refine pu HT_ 34 55 ?_; refine dn HT_ ?_
      try go_wp2
      go_ret; exact ⟨fe, bt HB⟩
     ·generalize (((w50.setCell ⟨gb109, 0, none⟩ (.string ((rd_T49 l0_0 x3_1).f0))).setCell ⟨gb109, 1, none⟩ (.string ((rd_T49 l0_0 x3_1).f1))).setCell ⟨gb109, 2, none⟩ (.int .i64 ((rd_T49 l0_0 x3_1).f2))) = w41 at n0_ n1_ n2_ ⊢
      have BK107 := n0_; have BK109 := n1_; have HB := n2_; clear n0_ n1_ n2_; replace BK107 := ak (blk_drew BK107.out); replace BK109 := ak (blk_drew BK109.out); replace HB := ak (below_drew1 HB.out)
      refine st 35 (fun w' => d3 w' gb109 (.string ((rd_T49 l0_0 x3_1).f0)) (.string ((rd_T49 l0_0 x3_1).f1)) (.int .i64 ((rd_T49 l0_0 x3_1).f2))) spec_DiskOk.tab7 spec_DiskOk.bits7 hp fun hHeld HT_ HW_ => ?_
      generalize w41.drew = w42 at BK107 BK109 HB hHeld ⊢
      refine pu HT_ 0 21 ?_; refine tk HT_ HW_ hHeld 1 22 ?_
      refine on HT_ 2 23 fun K hK => ?_
      refine gq Tryz.func41 (spec_l03Name.calls ((rd_T49 l0_0 x3_1).f0) true _ A9.out) fun w' h_ => ?_; obtain ⟨nd, rfl⟩ := h_
      refine hK.out _ _ hp fun hHeld => ?_
      clear hK K; refine nm 23 ?_; refine pu HT_ 3 24 ?_; refine pu HT_ 4 25 ?_; refine pu HT_ 5 26 ?_; refine tk HT_ HW_ hHeld 6 27 ?_; refine pu HT_ 7 28 ?_; refine pu HT_ 8 29 ?_; refine pu HT_ 9 30 ?_; refine pu HT_ 10 31 ?_; refine pu HT_ 11 32 ?_; refine pu HT_ 13 34 ?_; refine tk HT_ HW_ hHeld 12 33 ?_; refine tk HT_ HW_ hHeld 14 35 ?_; refine pu HT_ 15 36 ?_
      refine on HT_ 16 37 fun K hK => ?_
      refine gq Tryz.func42 (spec_l01In.calls ((rd_T49 l0_0 x3_1).f2) 0 (((rd_T49 l0_0 x3_1).f1).size : Int) true _ A18.out) fun w' h_ => ?_; obtain ⟨nd, rfl⟩ := h_
      refine hK.out _ _ hp fun hHeld => ?_
      clear hK K; refine nm 37 ?_; refine pu HT_ 17 38 ?_; refine pu HT_ 18 39 ?_; refine pu HT_ 19 40 ?_; refine pu HT_ 20 41 ?_; refine pu HT_ 21 42 ?_; refine pu HT_ 22 43 ?_; refine pz HT_ 23 44 ?_; refine pz HT_ 24 45 ?_; refine pz HT_ 25 46 ?_; refine pz HT_ 26 47 ?_; refine pz HT_ 27 48 ?_; refine pz HT_ 28 49 ?_; refine pz HT_ 29 50 ?_; refine pz HT_ 30 51 ?_; refine pz HT_ 31 52 ?_; refine pz HT_ 32 53 ?_; refine pu HT_ 33 54 ?_; refine pu HT_ 34 55 ?_; refine dn HT_ ?_
      try go_wp2
      go_roundg k1
      case measure => have := HK1.out; omega
      case rel => exact ⟨(wrap64 (x3_1 + 1)), fr, H', ⟨by have := HK1.out; omega⟩, ⟨bk BK107⟩, ⟨bt HB⟩⟩
     ·generalize (((w50.setCell ⟨gb109, 0, none⟩ (.string ((rd_T49 l0_0 x3_1).f0))).setCell ⟨gb109, 1, none⟩ (.string ((rd_T49 l0_0 x3_1).f1))).setCell ⟨gb109, 2, none⟩ (.int .i64 ((rd_T49 l0_0 x3_1).f2))) = w35 at n0_ n1_ n2_ ⊢
      have BK107 := n0_; have BK109 := n1_; have HB := n2_; clear n0_ n1_ n2_; replace BK107 := ak (blk_drew BK107.out); replace BK109 := ak (blk_drew BK109.out); replace HB := ak (below_drew1 HB.out); have p112 : 0 ≤ ((ji21) : Int) := da; have q112 : (ji21) < (l0_0.length : Int) := da; obtain ⟨ad112, e112, hx112_0, hx112_1, hx112_2⟩ := at_T49 HR0_0.out (ji21) p112 q112; have hw112_2 := hx112_2; have hw112_1 := hx112_1; have hw112_0 := hx112_0
      obtain rfl : ad108 = ad112 := (by injection e112)
      replace hx112_0 := xb HB hx112_0; replace hx112_1 := xb HB hx112_1; replace hx112_2 := xb HB hx112_2; replace p112 := eq_true p112; replace q112 := eq_true q112
      refine st 35 (fun w' => c3 w' gb109 (.string ((rd_T49 l0_0 x3_1).f0)) (.string ((rd_T49 l0_0 x3_1).f1)) (.int .i64 ((rd_T49 l0_0 x3_1).f2)) (w'.cell? ⟨gb107, 0, none⟩ = some (.slice (some ad108) l0_0.length c0_0) ∧ w'.cell? (ad108.add (((ji21)).toNat * 3)) = some (.string ((rd_T49 l0_0 (ji21)).f0)) ∧ w'.cell? ⟨(ad108.add (((ji21)).toNat * 3)).block, (ad108.add (((ji21)).toNat * 3)).off + 1, none⟩ = some (.string ((rd_T49 l0_0 (ji21)).f1)) ∧ w'.cell? ⟨(ad108.add (((ji21)).toNat * 3)).block, (ad108.add (((ji21)).toNat * 3)).off + 2, none⟩ = some (.int .i64 ((rd_T49 l0_0 (ji21)).f2)))) spec_DiskOk.tab7 spec_DiskOk.bits7 ⟨bc BK109 0, bc BK109 1, bc BK109 2, bc BK107 0, xc HB hw112_0, xc HB hw112_1, xc HB hw112_2⟩ fun hHeld HT_ HW_ => ?_
      generalize w35.drew = w36 at BK107 BK109 HB hx112_0 hx112_1 hx112_2 hHeld ⊢
      refine pu HT_ 0 21 ?_; refine tk HT_ HW_ hHeld 1 22 ?_
      refine on HT_ 2 23 fun K hK => ?_
      refine gq Tryz.func41 (spec_l03Name.calls ((rd_T49 l0_0 x3_1).f0) true _ A9.out) fun w' h_ => ?_; obtain ⟨nd, rfl⟩ := h_
      refine hK.out _ _ ⟨bc BK109 0, bc BK109 1, bc BK109 2, bc BK107 0, xc HB hw112_0, xc HB hw112_1, xc HB hw112_2⟩ fun hHeld => ?_
      clear hK K; refine nm 23 ?_; refine pu HT_ 3 24 ?_; refine pu HT_ 4 25 ?_; refine pu HT_ 5 26 ?_; refine tk HT_ HW_ hHeld 6 27 ?_; refine pu HT_ 7 28 ?_; refine pu HT_ 8 29 ?_; refine pu HT_ 9 30 ?_; refine pu HT_ 10 31 ?_; refine pu HT_ 11 32 ?_; refine pu HT_ 13 34 ?_; refine tk HT_ HW_ hHeld 12 33 ?_; refine tk HT_ HW_ hHeld 14 35 ?_; refine pu HT_ 15 36 ?_
      refine on HT_ 16 37 fun K hK => ?_
      refine gq Tryz.func42 (spec_l01In.calls ((rd_T49 l0_0 x3_1).f2) 0 (((rd_T49 l0_0 x3_1).f1).size : Int) true _ A18.out) fun w' h_ => ?_; obtain ⟨nd, rfl⟩ := h_
      refine hK.out _ _ ⟨bc BK109 0, bc BK109 1, bc BK109 2, bc BK107 0, xc HB hw112_0, xc HB hw112_1, xc HB hw112_2⟩ fun hHeld => ?_
      clear hK K; refine nm 37 ?_; refine pu HT_ 17 38 ?_; refine pu HT_ 18 39 ?_; refine pu HT_ 19 40 ?_; refine pu HT_ 20 41 ?_; refine pu HT_ 21 42 ?_; refine pu HT_ 22 43 ?_; refine pu HT_ 23 44 ?_; refine pu HT_ 25 46 ?_; refine pu HT_ 26 47 ?_; refine pu HT_ 30 51 ?_; refine tk HT_ HW_ hHeld 24 45 ?_; refine pu HT_ 27 48 ?_; refine pu HT_ 28 49 ?_; refine tk HT_ HW_ hHeld 29 50 ?_; refine tk HT_ HW_ hHeld 31 52 ?_; refine pu HT_ 32 53 ?_; refine pu HT_ 33 54 ?_; refine pu HT_ 34 55 ?_; refine dn HT_ ?_
      try go_wp2
      go_ret
      exact ⟨by first | rfl | (simp [errW_none, errW_some] <;> rfl) | (simp only [← hji21]; first | rfl | (simp [errW_none, errW_some] <;> rfl)) | (simp [*, errW_none, errW_some] <;> rfl), bt HB⟩
     ·generalize (((w50.setCell ⟨gb109, 0, none⟩ (.string ((rd_T49 l0_0 x3_1).f0))).setCell ⟨gb109, 1, none⟩ (.string ((rd_T49 l0_0 x3_1).f1))).setCell ⟨gb109, 2, none⟩ (.int .i64 ((rd_T49 l0_0 x3_1).f2))) = w29 at n0_ n1_ n2_ ⊢
      have BK107 := n0_; have BK109 := n1_; have HB := n2_; clear n0_ n1_ n2_; replace BK107 := ak (blk_drew BK107.out); replace BK109 := ak (blk_drew BK109.out); replace HB := ak (below_drew1 HB.out); have p112 : 0 ≤ ((ji21) : Int) := da; have q112 : (ji21) < (l0_0.length : Int) := da; obtain ⟨ad112, e112, hx112_0, hx112_1, hx112_2⟩ := at_T49 HR0_0.out (ji21) p112 q112; have hw112_2 := hx112_2; have hw112_1 := hx112_1; have hw112_0 := hx112_0
      obtain rfl : ad108 = ad112 := (by injection e112)
      replace hx112_0 := xb HB hx112_0; replace hx112_1 := xb HB hx112_1; replace hx112_2 := xb HB hx112_2; replace p112 := eq_true p112; replace q112 := eq_true q112
      refine st 35 (fun w' => c3 w' gb109 (.string ((rd_T49 l0_0 x3_1).f0)) (.string ((rd_T49 l0_0 x3_1).f1)) (.int .i64 ((rd_T49 l0_0 x3_1).f2)) (w'.cell? ⟨gb107, 0, none⟩ = some (.slice (some ad108) l0_0.length c0_0) ∧ w'.cell? (ad108.add (((ji21)).toNat * 3)) = some (.string ((rd_T49 l0_0 (ji21)).f0)) ∧ w'.cell? ⟨(ad108.add (((ji21)).toNat * 3)).block, (ad108.add (((ji21)).toNat * 3)).off + 1, none⟩ = some (.string ((rd_T49 l0_0 (ji21)).f1)) ∧ w'.cell? ⟨(ad108.add (((ji21)).toNat * 3)).block, (ad108.add (((ji21)).toNat * 3)).off + 2, none⟩ = some (.int .i64 ((rd_T49 l0_0 (ji21)).f2)))) spec_DiskOk.tab7 spec_DiskOk.bits7 ⟨bc BK109 0, bc BK109 1, bc BK109 2, bc BK107 0, xc HB hw112_0, xc HB hw112_1, xc HB hw112_2⟩ fun hHeld HT_ HW_ => ?_
      generalize w29.drew = w30 at BK107 BK109 HB hx112_0 hx112_1 hx112_2 hHeld ⊢
      refine pu HT_ 0 21 ?_; refine tk HT_ HW_ hHeld 1 22 ?_
      refine on HT_ 2 23 fun K hK => ?_
      refine gq Tryz.func41 (spec_l03Name.calls ((rd_T49 l0_0 x3_1).f0) true _ A9.out) fun w' h_ => ?_; obtain ⟨nd, rfl⟩ := h_
      refine hK.out _ _ ⟨bc BK109 0, bc BK109 1, bc BK109 2, bc BK107 0, xc HB hw112_0, xc HB hw112_1, xc HB hw112_2⟩ fun hHeld => ?_
      clear hK K; refine nm 23 ?_; refine pu HT_ 3 24 ?_; refine pu HT_ 4 25 ?_; refine pu HT_ 5 26 ?_; refine tk HT_ HW_ hHeld 6 27 ?_; refine pu HT_ 7 28 ?_; refine pu HT_ 8 29 ?_; refine pu HT_ 9 30 ?_; refine pu HT_ 10 31 ?_; refine pu HT_ 11 32 ?_; refine pu HT_ 13 34 ?_; refine tk HT_ HW_ hHeld 12 33 ?_; refine tk HT_ HW_ hHeld 14 35 ?_; refine pu HT_ 15 36 ?_
      refine on HT_ 16 37 fun K hK => ?_
      refine gq Tryz.func42 (spec_l01In.calls ((rd_T49 l0_0 x3_1).f2) 0 (((rd_T49 l0_0 x3_1).f1).size : Int) true _ A18.out) fun w' h_ => ?_; obtain ⟨nd, rfl⟩ := h_
      refine hK.out _ _ ⟨bc BK109 0, bc BK109 1, bc BK109 2, bc BK107 0, xc HB hw112_0, xc HB hw112_1, xc HB hw112_2⟩ fun hHeld => ?_
      clear hK K; refine nm 37 ?_; refine pu HT_ 17 38 ?_; refine pu HT_ 18 39 ?_; refine pu HT_ 19 40 ?_; refine pu HT_ 20 41 ?_; refine pu HT_ 21 42 ?_; refine pu HT_ 22 43 ?_; refine pu HT_ 23 44 ?_; refine pu HT_ 25 46 ?_; refine pu HT_ 26 47 ?_; refine pu HT_ 30 51 ?_; refine tk HT_ HW_ hHeld 24 45 ?_; refine pu HT_ 27 48 ?_; refine pu HT_ 28 49 ?_; refine tk HT_ HW_ hHeld 29 50 ?_; refine tk HT_ HW_ hHeld 31 52 ?_; refine pu HT_ 32 53 ?_; refine pu HT_ 33 54 ?_; refine pu HT_ 34 55 ?_; refine dn HT_ ?_
      try go_wp2
      go_roundg k1
      case measure => have := HK1.out; omega
      case rel => exact ⟨(wrap64 (x3_1 + 1)), fr, H', ⟨by have := HK1.out; omega⟩, ⟨bk BK107⟩, ⟨bt HB⟩⟩
     ·generalize (((w50.setCell ⟨gb109, 0, none⟩ (.string ((rd_T49 l0_0 x3_1).f0))).setCell ⟨gb109, 1, none⟩ (.string ((rd_T49 l0_0 x3_1).f1))).setCell ⟨gb109, 2, none⟩ (.int .i64 ((rd_T49 l0_0 x3_1).f2))) = w16 at n0_ n1_ n2_ ⊢
      have BK107 := n0_; have BK109 := n1_; have HB := n2_; clear n0_ n1_ n2_; replace BK107 := ak (blk_drew BK107.out); replace BK109 := ak (blk_drew BK109.out); replace HB := ak (below_drew1 HB.out)
      refine st 35 (fun w' => d3 w' gb109 (.string ((rd_T49 l0_0 x3_1).f0)) (.string ((rd_T49 l0_0 x3_1).f1)) (.int .i64 ((rd_T49 l0_0 x3_1).f2))) spec_DiskOk.tab7 spec_DiskOk.bits7 hp fun hHeld HT_ HW_ => ?_
      generalize w16.drew = w17 at BK107 BK109 HB hHeld ⊢
      refine pu HT_ 0 21 ?_; refine tk HT_ HW_ hHeld 1 22 ?_
      refine on HT_ 2 23 fun K hK => ?_
      refine gq Tryz.func41 (spec_l03Name.calls ((rd_T49 l0_0 x3_1).f0) true _ A9.out) fun w' h_ => ?_; obtain ⟨nd, rfl⟩ := h_
      refine hK.out _ _ hp fun hHeld => ?_
      clear hK K; refine nm 23 ?_; refine pu HT_ 3 24 ?_; refine pu HT_ 4 25 ?_; refine pu HT_ 5 26 ?_; refine tk HT_ HW_ hHeld 6 27 ?_; refine pu HT_ 7 28 ?_; refine pu HT_ 8 29 ?_; refine pu HT_ 9 30 ?_; refine pu HT_ 10 31 ?_; refine pz HT_ 11 32 ?_; refine pz HT_ 12 33 ?_; refine pz HT_ 13 34 ?_; refine pz HT_ 14 35 ?_; refine pz HT_ 15 36 ?_; refine pz HT_ 16 37 ?_; refine pz HT_ 17 38 ?_; refine pu HT_ 18 39 ?_; refine pu HT_ 19 40 ?_; refine pz HT_ 20 41 ?_; refine pz HT_ 21 42 ?_; refine pz HT_ 22 43 ?_; refine pz HT_ 23 44 ?_; refine pz HT_ 24 45 ?_; refine pz HT_ 25 46 ?_; refine pz HT_ 26 47 ?_; refine pz HT_ 27 48 ?_; refine pz HT_ 28 49 ?_; refine pz HT_ 29 50 ?_; refine pz HT_ 30 51 ?_; refine pz HT_ 31 52 ?_; refine pz HT_ 32 53 ?_; refine pz HT_ 33 54 ?_; refine pu HT_ 34 55 ?_; refine dn HT_ ?_
      try go_wp2
      go_ret; exact ⟨fe, bt HB⟩
    ·have c7b0 := df c7; clear c7; obtain rfl := oj H; obtain ⟨_, _⟩ := bc1 BK107; go_wp2; go_ret; exact ⟨fe, bt HB⟩
 ·go_ret; exact ⟨fe, bt HB⟩
end Go.Proofs.YtdepaileabejgaaGreatDoor.PFnExactOpenJournal
