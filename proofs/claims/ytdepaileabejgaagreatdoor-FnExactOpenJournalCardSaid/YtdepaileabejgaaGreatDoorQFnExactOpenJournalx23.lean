/- Walks. No condition. -/
import Derived.Laws.Cover1
import Derived.Test.YtdepaileabejgaaGreatDoorQFnExactOpenJournalx22
namespace Go.Proofs.YtdepaileabejgaaGreatDoor.PFnExactOpenJournal
open Go.RowKit Go.Proofs.YtdepaileabejgaaGreatDoorW.PrintWords Go.Proofs.YtdepaileabejgaaGreatDoorW.PrintLast Go.Proofs.YtdepaileabejgaaGreatDoorW.PrintMore Go.Proofs.YtdepaileabejgaaGreatDoorW.Short
attribute [local go_sem] max2_int min2_int max_two min_two max_three min_three max_four min_four
set_option maxHeartbeats 8000000
set_option maxRecDepth 100000
set_option linter.unusedVariables false
set_option linter.unusedSimpArgs false
def impl_DiskOk.l0 : Nat → List (S49) → Int → Int → List (S49) → Option (Bool)
 | 0, _, _, _, _ => none
 | k + 1, x6, x7, x8, x603000 => if x8 < x7 then (if 0 ≤ x8 then (if x8 < (x6.length : Int) then ((impl_fileOk.f ((rd_T49 x6 x8).f0) ((rd_T49 x6 x8).f1) ((rd_T49 x6 x8).f2)).bind fun t605 => (if t605 = true then (if x8 > 0 then (if 0 ≤ (wrap64 (x8 - 1)) then (if (wrap64 (x8 - 1)) < (x603000.length : Int) then (if ((Op.bytesLess (((rd_T49 x603000 (wrap64 (x8 - 1))).f0).toList) (((rd_T49 x6 x8).f0).toList)) = true) then (impl_DiskOk.l0 k x6 x7 (wrap64 (x8 + 1)) x603000) else (some false)) else (none)) else (none)) else (impl_DiskOk.l0 k x6 x7 (wrap64 (x8 + 1)) x603000)) else (some false))) else (none)) else (none)) else (some (decide ((x603000.length : Int) ≤ 30)))
def impl_DiskOk.f (k : Nat) (l0_0 : List (S49)) : Option (Bool) := impl_DiskOk.l0 k l0_0 (l0_0.length : Int) 0 l0_0
def impl_DiskOk.T4 : Bool × List (List Nat × List Nat) := (true, [([], []), ([0], [0]), ([1], [1]), ([2, 1], [2]), ([3], [3]), ([4, 3], [3, 4]), ([5, 3, 3], [3, 5]), ([6], [6]), ([7, 6], [6, 7]), ([6], [6]), ([9, 6], [6, 9]), ([8, 10, 6], [6, 8, 10]), ([11, 6], [6, 11]), ([12, 6], [6, 12]), ([6], [6]), ([14, 6], [6, 14]), ([13, 15, 6], [6, 13, 15]), ([6, 16, 3], [3, 6, 16]), ([3, 17], [3, 17])])
def impl_DiskOk.B4 : List Nat := [0, 1, 3, 7, 15, 31, 63, 127, 255, 127, 639, 2047, 4095, 8191, 127, 16511, 65535, 131071, 262143]
theorem impl_DiskOk.tab4 : rtab .any (opsOf Tryz.f30 4) = impl_DiskOk.T4 := by kernel_rfl
theorem impl_DiskOk.bits4 : waitsOk impl_DiskOk.T4.2 impl_DiskOk.B4 = true := by kernel_rfl
set_option maxHeartbeats 80000000 in
set_option maxRecDepth 100000 in
theorem impl_DiskOk.calls (k : Nat) (A0_0 : Option Addr) (c0_0 : Nat) (l0_0 : List (S49)) (r : Bool) (w : World) (hr0_0 : Kd.C k49 w A0_0 l0_0.length l0_0) (hc0_0 : l0_0.length ≤ c0_0) (H : impl_DiskOk.f k l0_0 = some r) :
 Calls Tryz.prog 30 #[.agg #[.slice A0_0 l0_0.length c0_0]] w fun e w' => e = .returned (.bool r) ∧ Below w.heap.size w w' := by
 have hu36 := Tryz.underlying36; have hu49 := Tryz.underlying49; have HR0_0 := ak hr0_0; have HC0_0 := ak hc0_0; clear hr0_0 hc0_0; have HB := ak (Below.refl w.heap.size w); unfold impl_DiskOk.f at H; have H' := ak H; clear H; go_enter Tryz.func30, Tryz.ntmps30
 go_wp2_with (first | ((with_reducible refine gd 1 rfl ?_); refine bx 1 36 #[.slice A0_0 l0_0.length c0_0] fun gb602 hg w2 BK602 hb => ?_; have GE602 := ge_ hg HB; replace HB := bs1 HB hb; clear hb hg; obtain ⟨_, _⟩ := bc1 BK602))
 go_loopg [8] k (fun kq v8 w' => ∃ (x8_1 : Int), v8 = .int .i64 x8_1 ∧ Aside0 (impl_DiskOk.l0 kq l0_0 (l0_0.length : Int) x8_1 l0_0 = some r) ∧ Aside0 (kq ≤ k) ∧ Aside0 (w'.heap[gb602]? = some (.cells #[(.slice A0_0 l0_0.length c0_0)] 36 (0, 0))) ∧ Aside0 (Below w.heap.size w w'))
 case atStart => exact ⟨(0), fr, H', ⟨Nat.le_refl _⟩, ⟨bk BK602⟩, ⟨bt HB⟩⟩
 case round =>
  clear H'; obtain ⟨x8_1, rfl, HA, HK1, BK602, HB⟩ := hrel
  cases gk with
  | zero => exact absurd HA.out (by simp [impl_DiskOk.l0])
  | succ k1 =>
   have H := HA.out; clear HA; simp only [impl_DiskOk.l0] at H; revert H
   refine si (fun c4 H => ?_) fun c4 H => ?_
   ·have c4b0 := dt c4; clear c4; obtain ⟨c5, H⟩ := ifs H; have c5b0 := dt c5; clear c5; obtain ⟨c6, H⟩ := ifs H; have c6b0 := dt c6; clear c6; obtain ⟨t605, A7, H⟩ := bo H; cases t605; rotate_left
    focus
     rw [if_pos rfl] at H; revert H
     refine si (fun c9 H => ?_) fun c9 H => ?_
     focus
      have c9b0 : decide (0 < x8_1) = true := dt c9; clear c9; obtain ⟨ji10, hji10, hji10w⟩ := jj (x8_1 - 1)
      first | rw [hji10] at H | simp only [hji10] at H
      (try rw [hji10] at A7)
      obtain ⟨c11, H⟩ := ifs H; have c11b0 := dt c11; clear c11; obtain ⟨c12, H⟩ := ifs H; have c12b0 := dt c12; clear c12; revert H
      refine si (fun c13 H => ?_) fun c13 H => ?_
      have c13b0 : (Op.bytesLess (((rd_T49 l0_0 (ji10)).f0).toList) (((rd_T49 l0_0 x8_1).f0).toList)) = true := c13; clear c13; have H' := ak H; clear H; obtain ⟨ad603, e603, hx603_0, hx603_1, hx603_2, p603, q603⟩ := ax49 HR0_0 HB x8_1; cases e603; rotate_left
      have c13b0 : (Op.bytesLess (((rd_T49 l0_0 (ji10)).f0).toList) (((rd_T49 l0_0 x8_1).f0).toList)) = false := by simpa using c13
      clear c13; obtain rfl := oj H; obtain ⟨ad603, e603, hx603_0, hx603_1, hx603_2, p603, q603⟩ := ax49 HR0_0 HB x8_1; cases e603
     rotate_left 2; have c9b0 : decide (0 < x8_1) = false := df c9; clear c9; have H' := ak H; clear H; obtain ⟨ad603, e603, hx603_0, hx603_1, hx603_2, p603, q603⟩ := ax49 HR0_0 HB x8_1; cases e603
    rotate_left 3; rw [if_neg nf] at H; obtain rfl := oj H; obtain ⟨ad603, e603, hx603_0, hx603_1, hx603_2, p603, q603⟩ := ax49 HR0_0 HB x8_1; cases e603
    all_goals
     try go_wp2_with (first | ((with_reducible refine gd 4 rfl ?_); refine bx 4 49 #[.string (⟨#[]⟩ : ByteArray), .string (⟨#[]⟩ : ByteArray), .int .i64 0] fun gb604 hg w32 BK604 hb => ?_; have GE604 := ge_ hg HB; replace HB := bs1 HB hb; have NB602_604 := nl_ hg BK602; have NB604_602 := nr_ hg BK602; replace BK602 := bb BK602 hb; clear hb hg; have := NB604_602.out; have := NB602_604.out; obtain ⟨_, _, _, _, _, _⟩ := bc3 BK604))
     have n0_ : Aside0 ((((w32.setCell ⟨gb604, 0, none⟩ (.string ((rd_T49 l0_0 x8_1).f0))).setCell ⟨gb604, 1, none⟩ (.string ((rd_T49 l0_0 x8_1).f1))).setCell ⟨gb604, 2, none⟩ (.int .i64 ((rd_T49 l0_0 x8_1).f2))).heap[gb602]? = some (.cells #[.slice (some ad603) l0_0.length c0_0] 36 (0, 0))) := ⟨bg BK602⟩
     have n1_ : Aside0 ((((w32.setCell ⟨gb604, 0, none⟩ (.string ((rd_T49 l0_0 x8_1).f0))).setCell ⟨gb604, 1, none⟩ (.string ((rd_T49 l0_0 x8_1).f1))).setCell ⟨gb604, 2, none⟩ (.int .i64 ((rd_T49 l0_0 x8_1).f2))).heap[gb604]? = some (.cells #[.string ((rd_T49 l0_0 x8_1).f0), .string ((rd_T49 l0_0 x8_1).f1), .int .i64 ((rd_T49 l0_0 x8_1).f2)] 49 (0, 0))) := ⟨by refine bk_ ?_; refine blk_put (cs := #[.string ((rd_T49 l0_0 x8_1).f0), .string ((rd_T49 l0_0 x8_1).f1), .int .i64 0]) ?_ 2 _ rfl; refine bk_ ?_; refine blk_put (cs := #[.string ((rd_T49 l0_0 x8_1).f0), .string (⟨#[]⟩ : ByteArray), .int .i64 0]) ?_ 1 _ rfl; refine bk_ ?_; refine blk_put (cs := #[.string (⟨#[]⟩ : ByteArray), .string (⟨#[]⟩ : ByteArray), .int .i64 0]) ?_ 0 _ rfl; refine bk_ ?_; exact BK604.out⟩
     have n2_ : Aside0 (Below w.heap.size w (((w32.setCell ⟨gb604, 0, none⟩ (.string ((rd_T49 l0_0 x8_1).f0))).setCell ⟨gb604, 1, none⟩ (.string ((rd_T49 l0_0 x8_1).f1))).setCell ⟨gb604, 2, none⟩ (.int .i64 ((rd_T49 l0_0 x8_1).f2)))) := ⟨bt HB⟩
     (try clear BK602)
     (try clear BK604)
     (try clear HB)
    ·generalize (((w32.setCell ⟨gb604, 0, none⟩ (.string ((rd_T49 l0_0 x8_1).f0))).setCell ⟨gb604, 1, none⟩ (.string ((rd_T49 l0_0 x8_1).f1))).setCell ⟨gb604, 2, none⟩ (.int .i64 ((rd_T49 l0_0 x8_1).f2))) = w35 at n0_ n1_ n2_ ⊢
     have BK602 := n0_; have BK604 := n1_; have HB := n2_; clear n0_ n1_ n2_; replace BK602 := ak (blk_drew BK602.out); replace BK604 := ak (blk_drew BK604.out); replace HB := ak (below_drew1 HB.out)
     refine st 19 (fun w' => d3 w' gb604 (.string ((rd_T49 l0_0 x8_1).f0)) (.string ((rd_T49 l0_0 x8_1).f1)) (.int .i64 ((rd_T49 l0_0 x8_1).f2))) impl_DiskOk.tab4 impl_DiskOk.bits4 hp fun hHeld HT_ HW_ => ?_
     generalize w35.drew = w36 at BK602 BK604 HB hHeld ⊢
     refine tk HT_ HW_ hHeld 0 13 ?_
     refine on HT_ 1 14 fun K hK => ?_
     refine gq Tryz.func60 (impl_fileOk.calls ((rd_T49 l0_0 x8_1).f0) ((rd_T49 l0_0 x8_1).f1) ((rd_T49 l0_0 x8_1).f2) false _ A7.out) fun w37 hb => ?_; replace BK602 := bb BK602 hb; replace BK604 := bb BK604 hb; replace HB := bs1 HB hb
     refine hK.out _ _ hp fun hHeld => ?_
     clear hK K; refine nm 14 ?_; refine pu HT_ 2 15 ?_; refine pu HT_ 3 16 ?_; refine pz HT_ 4 17 ?_; refine pz HT_ 5 18 ?_; refine pz HT_ 6 19 ?_; refine pz HT_ 7 20 ?_; refine pz HT_ 8 21 ?_; refine pz HT_ 9 22 ?_; refine pz HT_ 10 23 ?_; refine pz HT_ 11 24 ?_; refine pz HT_ 12 25 ?_; refine pz HT_ 13 26 ?_; refine pz HT_ 14 27 ?_; refine pz HT_ 15 28 ?_; refine pz HT_ 16 29 ?_; refine pz HT_ 17 30 ?_; refine pu HT_ 18 31 ?_; refine dn HT_ ?_
     try go_wp2
     go_ret; exact ⟨fe, bt HB⟩
    ·generalize (((w32.setCell ⟨gb604, 0, none⟩ (.string ((rd_T49 l0_0 x8_1).f0))).setCell ⟨gb604, 1, none⟩ (.string ((rd_T49 l0_0 x8_1).f1))).setCell ⟨gb604, 2, none⟩ (.int .i64 ((rd_T49 l0_0 x8_1).f2))) = w29 at n0_ n1_ n2_ ⊢
     have BK602 := n0_; have BK604 := n1_; have HB := n2_; clear n0_ n1_ n2_; replace BK602 := ak (blk_drew BK602.out); replace BK604 := ak (blk_drew BK604.out); replace HB := ak (below_drew1 HB.out)
     refine st 19 (fun w' => d3 w' gb604 (.string ((rd_T49 l0_0 x8_1).f0)) (.string ((rd_T49 l0_0 x8_1).f1)) (.int .i64 ((rd_T49 l0_0 x8_1).f2))) impl_DiskOk.tab4 impl_DiskOk.bits4 hp fun hHeld HT_ HW_ => ?_
     generalize w29.drew = w30 at BK602 BK604 HB hHeld ⊢
     refine tk HT_ HW_ hHeld 0 13 ?_
     refine on HT_ 1 14 fun K hK => ?_
     refine gq Tryz.func60 (impl_fileOk.calls ((rd_T49 l0_0 x8_1).f0) ((rd_T49 l0_0 x8_1).f1) ((rd_T49 l0_0 x8_1).f2) true _ A7.out) fun w31 hb => ?_; replace BK602 := bb BK602 hb; replace BK604 := bb BK604 hb; replace HB := bs1 HB hb
     refine hK.out _ _ hp fun hHeld => ?_
     clear hK K; refine nm 14 ?_; refine pu HT_ 2 15 ?_; refine pu HT_ 3 16 ?_; refine pu HT_ 4 17 ?_; refine pu HT_ 5 18 ?_; refine pu HT_ 6 19 ?_; refine pz HT_ 7 20 ?_; refine pz HT_ 8 21 ?_; refine pz HT_ 9 22 ?_; refine pz HT_ 10 23 ?_; refine pz HT_ 11 24 ?_; refine pz HT_ 12 25 ?_; refine pz HT_ 13 26 ?_; refine pz HT_ 14 27 ?_; refine pz HT_ 15 28 ?_; refine pz HT_ 16 29 ?_; refine pu HT_ 17 30 ?_; refine pu HT_ 18 31 ?_; refine dn HT_ ?_
     try go_wp2
     go_roundg k1
     case measure => have := HK1.out; omega
     case rel => exact ⟨(wrap64 (x8_1 + 1)), fr, H', ⟨by have := HK1.out; omega⟩, ⟨bk BK602⟩, ⟨bt HB⟩⟩
    ·generalize (((w32.setCell ⟨gb604, 0, none⟩ (.string ((rd_T49 l0_0 x8_1).f0))).setCell ⟨gb604, 1, none⟩ (.string ((rd_T49 l0_0 x8_1).f1))).setCell ⟨gb604, 2, none⟩ (.int .i64 ((rd_T49 l0_0 x8_1).f2))) = w23 at n0_ n1_ n2_ ⊢
     have BK602 := n0_; have BK604 := n1_; have HB := n2_; clear n0_ n1_ n2_; replace BK602 := ak (blk_drew BK602.out); replace BK604 := ak (blk_drew BK604.out); replace HB := ak (below_drew1 HB.out); have p606 : 0 ≤ ((ji10) : Int) := da; have q606 : (ji10) < (l0_0.length : Int) := da; obtain ⟨ad606, e606, hx606_0, hx606_1, hx606_2⟩ := at_T49 HR0_0.out (ji10) p606 q606; have hw606_2 := hx606_2; have hw606_1 := hx606_1; have hw606_0 := hx606_0
     obtain rfl : ad603 = ad606 := (by injection e606)
     replace hx606_0 := xb HB hx606_0; replace hx606_1 := xb HB hx606_1; replace hx606_2 := xb HB hx606_2; replace p606 := eq_true p606; replace q606 := eq_true q606
     refine st 19 (fun w' => c3 w' gb604 (.string ((rd_T49 l0_0 x8_1).f0)) (.string ((rd_T49 l0_0 x8_1).f1)) (.int .i64 ((rd_T49 l0_0 x8_1).f2)) (w'.cell? ⟨gb602, 0, none⟩ = some (.slice (some ad603) l0_0.length c0_0) ∧ w'.cell? (ad603.add (((ji10)).toNat * 3)) = some (.string ((rd_T49 l0_0 (ji10)).f0)) ∧ w'.cell? ⟨(ad603.add (((ji10)).toNat * 3)).block, (ad603.add (((ji10)).toNat * 3)).off + 1, none⟩ = some (.string ((rd_T49 l0_0 (ji10)).f1)) ∧ w'.cell? ⟨(ad603.add (((ji10)).toNat * 3)).block, (ad603.add (((ji10)).toNat * 3)).off + 2, none⟩ = some (.int .i64 ((rd_T49 l0_0 (ji10)).f2)))) impl_DiskOk.tab4 impl_DiskOk.bits4 ⟨bc BK604 0, bc BK604 1, bc BK604 2, bc BK602 0, xc HB hw606_0, xc HB hw606_1, xc HB hw606_2⟩ fun hHeld HT_ HW_ => ?_
     generalize w23.drew = w24 at BK602 BK604 HB hx606_0 hx606_1 hx606_2 hHeld ⊢
     refine tk HT_ HW_ hHeld 0 13 ?_
     refine on HT_ 1 14 fun K hK => ?_
     refine gq Tryz.func60 (impl_fileOk.calls ((rd_T49 l0_0 x8_1).f0) ((rd_T49 l0_0 x8_1).f1) ((rd_T49 l0_0 x8_1).f2) true _ A7.out) fun w25 hb => ?_; replace BK602 := bb BK602 hb; replace BK604 := bb BK604 hb; replace HB := bs1 HB hb
     refine hK.out _ _ ⟨bc BK604 0, bc BK604 1, bc BK604 2, bc BK602 0, xc HB hw606_0, xc HB hw606_1, xc HB hw606_2⟩ fun hHeld => ?_
     clear hK K; refine nm 14 ?_; refine pu HT_ 2 15 ?_; refine pu HT_ 3 16 ?_; refine pu HT_ 4 17 ?_; refine pu HT_ 5 18 ?_; refine pu HT_ 6 19 ?_; refine pu HT_ 7 20 ?_; refine pu HT_ 9 22 ?_; refine pu HT_ 10 23 ?_; refine pu HT_ 14 27 ?_; refine tk HT_ HW_ hHeld 8 21 ?_; refine pu HT_ 11 24 ?_; refine pu HT_ 12 25 ?_; refine tk HT_ HW_ hHeld 13 26 ?_; refine tk HT_ HW_ hHeld 15 28 ?_; refine pu HT_ 16 29 ?_; refine pu HT_ 17 30 ?_; refine pu HT_ 18 31 ?_; refine dn HT_ ?_
     try go_wp2
     go_ret
     exact ⟨by first | rfl | (simp [errW_none, errW_some] <;> rfl) | (simp only [← hji10]; first | rfl | (simp [errW_none, errW_some] <;> rfl)) | (simp [*, errW_none, errW_some] <;> rfl), bt HB⟩
    ·generalize (((w32.setCell ⟨gb604, 0, none⟩ (.string ((rd_T49 l0_0 x8_1).f0))).setCell ⟨gb604, 1, none⟩ (.string ((rd_T49 l0_0 x8_1).f1))).setCell ⟨gb604, 2, none⟩ (.int .i64 ((rd_T49 l0_0 x8_1).f2))) = w17 at n0_ n1_ n2_ ⊢
     have BK602 := n0_; have BK604 := n1_; have HB := n2_; clear n0_ n1_ n2_; replace BK602 := ak (blk_drew BK602.out); replace BK604 := ak (blk_drew BK604.out); replace HB := ak (below_drew1 HB.out); have p606 : 0 ≤ ((ji10) : Int) := da; have q606 : (ji10) < (l0_0.length : Int) := da; obtain ⟨ad606, e606, hx606_0, hx606_1, hx606_2⟩ := at_T49 HR0_0.out (ji10) p606 q606; have hw606_2 := hx606_2; have hw606_1 := hx606_1; have hw606_0 := hx606_0
     obtain rfl : ad603 = ad606 := (by injection e606)
     replace hx606_0 := xb HB hx606_0; replace hx606_1 := xb HB hx606_1; replace hx606_2 := xb HB hx606_2; replace p606 := eq_true p606; replace q606 := eq_true q606
     refine st 19 (fun w' => c3 w' gb604 (.string ((rd_T49 l0_0 x8_1).f0)) (.string ((rd_T49 l0_0 x8_1).f1)) (.int .i64 ((rd_T49 l0_0 x8_1).f2)) (w'.cell? ⟨gb602, 0, none⟩ = some (.slice (some ad603) l0_0.length c0_0) ∧ w'.cell? (ad603.add (((ji10)).toNat * 3)) = some (.string ((rd_T49 l0_0 (ji10)).f0)) ∧ w'.cell? ⟨(ad603.add (((ji10)).toNat * 3)).block, (ad603.add (((ji10)).toNat * 3)).off + 1, none⟩ = some (.string ((rd_T49 l0_0 (ji10)).f1)) ∧ w'.cell? ⟨(ad603.add (((ji10)).toNat * 3)).block, (ad603.add (((ji10)).toNat * 3)).off + 2, none⟩ = some (.int .i64 ((rd_T49 l0_0 (ji10)).f2)))) impl_DiskOk.tab4 impl_DiskOk.bits4 ⟨bc BK604 0, bc BK604 1, bc BK604 2, bc BK602 0, xc HB hw606_0, xc HB hw606_1, xc HB hw606_2⟩ fun hHeld HT_ HW_ => ?_
     generalize w17.drew = w18 at BK602 BK604 HB hx606_0 hx606_1 hx606_2 hHeld ⊢
     refine tk HT_ HW_ hHeld 0 13 ?_
     refine on HT_ 1 14 fun K hK => ?_
     refine gq Tryz.func60 (impl_fileOk.calls ((rd_T49 l0_0 x8_1).f0) ((rd_T49 l0_0 x8_1).f1) ((rd_T49 l0_0 x8_1).f2) true _ A7.out) fun w19 hb => ?_; replace BK602 := bb BK602 hb; replace BK604 := bb BK604 hb; replace HB := bs1 HB hb
     refine hK.out _ _ ⟨bc BK604 0, bc BK604 1, bc BK604 2, bc BK602 0, xc HB hw606_0, xc HB hw606_1, xc HB hw606_2⟩ fun hHeld => ?_
     clear hK K; refine nm 14 ?_; refine pu HT_ 2 15 ?_; refine pu HT_ 3 16 ?_; refine pu HT_ 4 17 ?_; refine pu HT_ 5 18 ?_; refine pu HT_ 6 19 ?_; refine pu HT_ 7 20 ?_; refine pu HT_ 9 22 ?_; refine pu HT_ 10 23 ?_; refine pu HT_ 14 27 ?_; refine tk HT_ HW_ hHeld 8 21 ?_; refine pu HT_ 11 24 ?_; refine pu HT_ 12 25 ?_; refine tk HT_ HW_ hHeld 13 26 ?_; refine tk HT_ HW_ hHeld 15 28 ?_; refine pu HT_ 16 29 ?_; refine pu HT_ 17 30 ?_; refine pu HT_ 18 31 ?_; refine dn HT_ ?_
     try go_wp2
     go_roundg k1
     case measure => have := HK1.out; omega
     case rel => exact ⟨(wrap64 (x8_1 + 1)), fr, H', ⟨by have := HK1.out; omega⟩, ⟨bk BK602⟩, ⟨bt HB⟩⟩
   ·have c4b0 := df c4; clear c4; obtain rfl := oj H; obtain ⟨_, _⟩ := bc1 BK602; go_wp2; go_ret; exact ⟨fe, bt HB⟩
end Go.Proofs.YtdepaileabejgaaGreatDoor.PFnExactOpenJournal
