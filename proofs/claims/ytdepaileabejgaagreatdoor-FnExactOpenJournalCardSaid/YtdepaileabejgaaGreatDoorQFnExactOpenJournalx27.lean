/- Walks. No condition. -/
import Derived.Test.YtdepaileabejgaaGreatDoorRki
import Derived.Test.YtdepaileabejgaaGreatDoorQFnExactOpenJournalx23
import Derived.Test.YtdepaileabejgaaGreatDoorQFnExactOpenJournalx26
namespace Go.Proofs.YtdepaileabejgaaGreatDoor.PFnExactOpenJournal
open Go.RowKit Go.Proofs.YtdepaileabejgaaGreatDoorW.PrintWords Go.Proofs.YtdepaileabejgaaGreatDoorW.PrintLast Go.Proofs.YtdepaileabejgaaGreatDoorW.PrintMore Go.Proofs.YtdepaileabejgaaGreatDoorW.Short
attribute [local go_sem] max2_int min2_int max_two min_two max_three min_three max_four min_four
set_option maxHeartbeats 8000000
set_option maxRecDepth 100000
set_option linter.unusedVariables false
set_option linter.unusedSimpArgs false
def impl_OpenJournal.j0 : Nat → Int → ByteArray → Int → Bool → List (S49) → Int → Int → Int → Int → Int → List (S105) → Option (Int × Int × Int × Int × Int × (List (S105)) × (List (S57)) × Bool)
 | 0, _, _, _, _, _, _, _, _, _, _, _ => none
 | k + 1, x5, x6, x9, x40, x680000, x696000, x696001, x696002, x696003, x696004, x696005 => if x40 = true then (some (0, 0, 0, 0, 0, ([] : List (S105)), ([] : List (S57)), false)) else ((impl_JournalName.f x5).bind fun t697 => ((impl_dropOthers.f k x680000 (⟨#[106, 43]⟩ : ByteArray) (⟨#[106]⟩ : ByteArray) 999 t697).bind fun t698 => (if x9 = (x6.size : Int) then (some (x696000, x696001, x696002, x696003, x696004, x696005, t698, true)) else ((impl_JournalName.f x5).bind fun t701 => ((impl_renewActs.f k (wrap64 (x696000 + 1)) x696001 x696002 x696003 x696004 x696005 t701).bind fun bt702 => (if bt702.2 = true then (if t698.length + bt702.1.length < 2513169434916 then (some (wrap64 (x696000 + 1), x696001, x696002, x696003, x696004, x696005, (t698 ++ bt702.1), true)) else (none)) else (some (0, 0, 0, 0, 0, ([] : List (S105)), ([] : List (S57)), false))))))))
def impl_OpenJournal.f (k : Nat) (l0_0 : List (S49)) : Option (Int × Int × Int × Int × Int × (List (S105)) × (List (S57)) × Bool) := (impl_newestJournal.f k l0_0).bind fun t681 => ((impl_JournalName.f t681).bind fun t682 => ((impl_FileAt.f l0_0 t682).bind fun bt683 => ((impl_ReadJournal.f k t681 bt683.1).bind fun bt685 => ((impl_DiskOk.f k l0_0).bind fun t696 => (if t696 = true then (if t681 < 0 then (impl_OpenJournal.j0 k t681 bt683.1 bt685.2.2.2.2.2.2.1 true l0_0 bt685.1 bt685.2.1 bt685.2.2.1 bt685.2.2.2.1 bt685.2.2.2.2.1 bt685.2.2.2.2.2.1) else (impl_OpenJournal.j0 k t681 bt683.1 bt685.2.2.2.2.2.2.1 (!bt685.2.2.2.2.2.2.2) l0_0 bt685.1 bt685.2.1 bt685.2.2.1 bt685.2.2.2.1 bt685.2.2.2.2.1 bt685.2.2.2.2.2.1)) else (impl_OpenJournal.j0 k t681 bt683.1 bt685.2.2.2.2.2.2.1 true l0_0 bt685.1 bt685.2.1 bt685.2.2.1 bt685.2.2.2.1 bt685.2.2.2.2.1 bt685.2.2.2.2.2.1))))))
def impl_OpenJournal.T2 : Bool × List (List Nat × List Nat) := (true, [([], []), ([], []), ([1], [1]), ([0, 2, 2], [0, 2]), ([3], [3]), ([4], [4]), ([4], [4]), ([5, 3, 0, 1, 2, 3, 4, 5], [5]), ([6, 7, 0, 1, 2, 3, 4, 5, 6, 7], [6])])
def impl_OpenJournal.B2 : List Nat := [0, 0, 2, 7, 15, 31, 31, 63, 255]
theorem impl_OpenJournal.tab2 : rtab .any (opsOf Tryz.f7 2) = impl_OpenJournal.T2 := by kernel_rfl
theorem impl_OpenJournal.bits2 : waitsOk impl_OpenJournal.T2.2 impl_OpenJournal.B2 = true := by kernel_rfl
def impl_OpenJournal.T10 : Bool × List (List Nat × List Nat) := (true, [([], []), ([], []), ([1], [1]), ([0, 2, 2], [0, 2]), ([3], [3]), ([4], [4]), ([4], [4]), ([5, 3, 0, 1, 2, 3, 4, 5], [5]), ([6, 7, 0, 1, 2, 3, 4, 5, 6, 7], [6])])
def impl_OpenJournal.B10 : List Nat := [0, 0, 2, 7, 15, 31, 31, 63, 255]
theorem impl_OpenJournal.tab10 : rtab .any (opsOf Tryz.f7 10) = impl_OpenJournal.T10 := by kernel_rfl
theorem impl_OpenJournal.bits10 : waitsOk impl_OpenJournal.T10.2 impl_OpenJournal.B10 = true := by kernel_rfl
theorem impl_OpenJournal.calls (k : Nat) (A0_0 : Option Addr) (c0_0 : Nat) (l0_0 : List (S49)) (r1 : Int) (r2 : Int) (r3 : Int) (r4 : Int) (r5 : Int) (r6 : List (S105)) (r7 : List (S57)) (r8 : Bool) (w : World) (hr0_0 : Kd.C k49 w A0_0 l0_0.length l0_0) (hc0_0 : l0_0.length ≤ c0_0) (H : impl_OpenJournal.f k l0_0 = some (r1, r2, r3, r4, r5, r6, r7, r8)) (HT0 : TabE w) :
 Calls Tryz.prog 7 #[.agg #[.slice A0_0 l0_0.length c0_0]] w fun e w' => ∃ v5_ v6_ : Value, e = .returned (.tuple #[.agg #[.int .i64 r1, .int .i64 r2, .int .i64 r3, .int .i64 r4, .int .i64 r5, v5_], v6_, .bool r8]) ∧ Kd.R k105 105 w' w.heap.size (fun _ => True) v5_ r6 ∧ Kd.R k57 57 w' w.heap.size (fun _ => True) v6_ r7 ∧ Below w.heap.size w w' := by
 have hu36 := Tryz.underlying36; have hu30 := Tryz.underlying30; have HR0_0 := ak hr0_0; have HC0_0 := ak hc0_0; clear hr0_0 hc0_0; have HB := ak (Below.refl w.heap.size w); have HT := ak HT0; clear HT0; unfold impl_OpenJournal.f at H; obtain ⟨t681, A2, H⟩ := bo H; obtain ⟨t682, A3, H⟩ := bo H; obtain ⟨⟨t683, t684⟩, A4, H⟩ := bo H
 try dsimp only at H
 obtain ⟨⟨t685, t686, t687, t688, t689, t690, t693, t694⟩, A5, H⟩ := bo H
 try dsimp only at H
 have HC6 := ak H; clear H; go_enter Tryz.func7, Tryz.ntmps7
 try go_wp2_with (first | ((with_reducible refine gd 1 rfl ?_); refine bx 1 36 #[.slice A0_0 l0_0.length c0_0] fun gb679 hg w7 BK679 hb => ?_; have GE679 := ge_ hg HB; replace HB := bs1 HB hb; clear hb hg) | ((with_reducible refine gd 2 rfl ?_); refine bx 2 30 #[.int .i64 0, .int .i64 0, .int .i64 0, .int .i64 0, .int .i64 0, .slice none 0 0] fun gb680 hg w8 BK680 hb => ?_; have GE680 := ge_ hg HB; replace HB := bs1 HB hb; have NB679_680 := nl_ hg BK679; have NB680_679 := nr_ hg BK679; replace BK679 := bb BK679 hb; clear hb hg; have := NB679_680.out; have := NB680_679.out; obtain ⟨_, _⟩ := bc1 BK679) | ((with_reducible refine gd 15 rfl ?_); refine gc 15 Tryz.func26 (impl_newestJournal.calls k _ _ l0_0 t681 _ ?s1 ?s2 A2.out (tabE_below HT (bt HB))) fun w11 hb => ?_; (case s1 => exact ca HR0_0 HB); (case s2 => exact HC0_0.out); replace BK679 := bb BK679 hb; replace BK680 := bb BK680 hb; replace HB := bs1 HB hb))
 replace BK679 := ak (blk_drew BK679.out); replace BK680 := ak (blk_drew BK680.out); replace HB := ak (below_drew1 HB.out)
 refine st 9 (fun w' => w'.cell? ⟨gb679, 0, none⟩ = some (.slice A0_0 l0_0.length c0_0)) impl_OpenJournal.tab2 impl_OpenJournal.bits2 (bc BK679 0) fun hHeld HT_ HW_ => ?_
 generalize w11.drew = w12 at BK679 BK680 HB hHeld ⊢
 refine pu HT_ 1 18 ?_; refine tk HT_ HW_ hHeld 0 17 ?_
 refine on HT_ 2 19 fun K hK => ?_
 refine gq Tryz.func28 (impl_JournalName.calls t681 t682 _ A3.out (tab_below (tabE_tab HT) (bt HB))) fun w13 hb => ?_; replace BK679 := bb BK679 hb; replace BK680 := bb BK680 hb; replace HB := bs1 HB hb
 refine hK.out _ _ (bc BK679 0) fun hHeld => ?_
 clear hK K; refine nm 19 ?_
 refine on HT_ 3 20 fun K hK => ?_
 refine gq Tryz.func27 (impl_FileAt.calls _ _ l0_0 t682 t683 t684 _ ?s1 ?s2 A4.out) fun w14 hb => ?_; (case s1 => exact ca HR0_0 HB); (case s2 => exact HC0_0.out); replace BK679 := bb BK679 hb; replace BK680 := bb BK680 hb; replace HB := bs1 HB hb
 refine hK.out _ _ (bc BK679 0) fun hHeld => ?_
 clear hK K; refine nm 20 ?_; refine pu HT_ 4 16 ?_; refine pu HT_ 5 21 ?_; refine pu HT_ 6 22 ?_; refine pu HT_ 7 6 ?_; refine pu HT_ 8 7 ?_; refine dn HT_ ?_
 go_upto_region 4 with (first | ((with_reducible refine gd 26 rfl ?_); refine gcv 26 Tryz.func29 (impl_ReadJournal.calls k t681 t683 t685 t686 t687 t688 t689 t690 t693 t694 _ A5.out) fun v691 w15 h_ => ?_; obtain ⟨ho0, hb⟩ := h_; have HO692 := ak (Kd.R_lower ho0 (below_size (bt HB))); replace BK679 := bb BK679 hb; replace BK680 := bb BK680 hb; replace HB := bs1 HB hb; (try clear ho0)) | ((with_reducible refine gd 8 rfl ?_); refine bx 8 30 #[.int .i64 0, .int .i64 0, .int .i64 0, .int .i64 0, .int .i64 0, .slice none 0 0] fun gb695 hg w16 BK695 hb => ?_; replace HO692 := rb HO692 hb; have GE695 := ge_ hg HB; replace HB := bs1 HB hb; have NB679_695 := nl_ hg BK679; have NB695_679 := nr_ hg BK679; replace BK679 := bb BK679 hb; have NB680_695 := nl_ hg BK680; have NB695_680 := nr_ hg BK680; replace BK680 := bb BK680 hb; clear hb hg; have := NB695_679.out; have := NB679_695.out; have := NB695_680.out; have := NB680_695.out; obtain ⟨_, _, _, _, _, _, _, _, _, _, _, _⟩ := bc6 BK695; obtain ⟨Ao20, co20, eo20⟩ := Kd.R_slice HO692.out; subst eo20))
 (try simp only [Act.put, zA, zB, zC])
 go_cut [40] (fun v40 wc => ∃ (kq : Nat) (x40_5 : Bool), v40 = .bool x40_5 ∧ Aside0 (impl_OpenJournal.j0 kq t681 t683 t693 x40_5 l0_0 t685 t686 t687 t688 t689 t690 = some (r1, r2, r3, r4, r5, r6, r7, r8)) ∧ Aside0 (kq ≤ k) ∧ Aside0 (Kd.R k105 105 wc w.heap.size (fun _ => True) (.slice Ao20 t690.length co20) t690) ∧ Aside0 (wc.heap[gb679]? = some (.cells #[(.slice A0_0 l0_0.length c0_0)] 36 (0, 0))) ∧ Aside0 (wc.heap[gb680]? = some (.cells #[.int .i64 0, .int .i64 0, .int .i64 0, .int .i64 0, .int .i64 0, (.slice none 0 0)] 30 (0, 0))) ∧ Aside0 (wc.heap[gb695]? = some (.cells #[.int .i64 t685, .int .i64 t686, .int .i64 t687, .int .i64 t688, .int .i64 t689, (.slice Ao20 t690.length co20)] 30 (0, 0))) ∧ Aside0 (Below w.heap.size w wc))
 case first =>
  have H := HC6.out; clear HC6; obtain ⟨t696, A21, H⟩ := bo H; cases t696; rotate_left
  focus
   rw [if_pos rfl] at H; revert H
   refine si (fun c23 H => ?_) fun c23 H => ?_
   have c23b0 := dt c23; clear c23
   (first | rw [c23b0] | (simp only [i64_w, i32_w]; rw [c23b0]) | skip)
   have H' := ak H; clear H; have := NB679_680.out; have := NB680_679.out; have := NB679_695.out; have := NB695_679.out; obtain ⟨_, _⟩ := bc1 BK679; rotate_left; have c23b0 := df c23; clear c23
   (first | rw [c23b0] | (simp only [i64_w, i32_w]; rw [c23b0]) | skip)
   have H' := ak H; clear H; have := NB679_680.out; have := NB680_679.out; have := NB679_695.out; have := NB695_679.out; obtain ⟨_, _⟩ := bc1 BK679
  rotate_left 2; rw [if_neg nf] at H; have H' := ak H; clear H; have := NB679_680.out; have := NB680_679.out; have := NB679_695.out; have := NB695_679.out; obtain ⟨_, _⟩ := bc1 BK679
  all_goals
   go_wp2_with (first | ((with_reducible refine gd 31 rfl ?_); refine gc 31 Tryz.func30 (impl_DiskOk.calls k _ _ l0_0 _ _ ?s1 ?s2 A21.out) fun w35 hb => ?_; (case s1 => exact Kd.C_below HR0_0.out (bt HB)); (case s2 => exact HC0_0.out); replace HO692 := rfb HO692 BK695 hb; replace BK679 := bbg BK679 hb; replace BK680 := bbg BK680 hb; replace BK695 := bbp BK695 hb #[.int .i64 t685, .int .i64 t686, .int .i64 t687, .int .i64 t688, .int .i64 t689, .slice Ao20 t690.length co20]; replace HB := bs1 HB hb))
  rotate_left
  ·go_meet
   case rel => exact ⟨_, (!t694), fr, H', ⟨by first | omega | exact Nat.le_refl _⟩, ⟨rk HO692⟩, ⟨bk BK679⟩, ⟨bk BK680⟩, ⟨bk BK695⟩, ⟨bt HB⟩⟩
  all_goals
   go_meet
   case rel => exact ⟨_, (true), fr, H', ⟨by first | omega | exact Nat.le_refl _⟩, ⟨rk HO692⟩, ⟨bk BK679⟩, ⟨bk BK680⟩, ⟨bk BK695⟩, ⟨bt HB⟩⟩
 case rest =>
  clear HC6; obtain ⟨kq, x40_5, rfl, HA, HJ5, HO_696005, BK679, BK680, BK695, HB⟩ := hcut
  cases kq with
  | zero => exact absurd HA.out (by simp [impl_OpenJournal.j0])
  | succ kj5 =>
   have H := HA.out; clear HA; simp only [impl_OpenJournal.j0] at H; cases x40_5; rotate_left
   ·rw [if_pos rfl] at H; obtain ⟨rfl, rfl, rfl, rfl, rfl, rfl, rfl, rfl⟩ := o8 H; have := NB680_679.out; have := NB679_680.out; have := NB680_695.out; have := NB695_680.out; obtain ⟨_, _, _, _, _, _, _, _, _, _, _, _⟩ := bc6 BK680; go_wp2
    refine bodyPost_ret (results_ctt rfl _ _ gb680 30 #[.int .i64 0, .int .i64 0, .int .i64 0, .int .i64 0, .int .i64 0, .slice none 0 0] (0, 0) _ rfl (bp BK680) Tryz.underlying30 rfl (by kernel_rfl)) rfl ?_
    exact ⟨_, _, fe, by first | exact Kd.R_nil _ _ _ _ _ | exact Kd.N_nil _ _ _ _ _ | exact Kd.V_nil _ _ _ _ _ | exact Kd.Q_nil _ _ _ _ _ | exact Kd.S_nil _ _ _ _ _, by first | exact Kd.R_nil _ _ _ _ _ | exact Kd.N_nil _ _ _ _ _ | exact Kd.V_nil _ _ _ _ _ | exact Kd.Q_nil _ _ _ _ _ | exact Kd.S_nil _ _ _ _ _, bt HB⟩
   ·rw [if_neg nf] at H; obtain ⟨t697, A40, H⟩ := bo H; obtain ⟨t698, A41, H⟩ := bo H; revert H
    refine si (fun c42 H => ?_) fun c42 H => ?_
    have c42b0 : (t693 == (t683.size : Int)) = true := beq_iff_eq.mpr c42; have c42b1 : (t693 != (t683.size : Int)) = false := bne_eq_false_iff_eq.mpr c42; clear c42; obtain ⟨rfl, rfl, rfl, rfl, rfl, rfl, rfl, rfl⟩ := o8 H; rotate_left
    focus
     have c42b0 : (t693 == (t683.size : Int)) = false := beq_eq_false_iff_ne.mpr c42; have c42b1 : (t693 != (t683.size : Int)) = true := bne_iff_ne.mpr c42; obtain ⟨t701, A51, H⟩ := bo H; obtain ⟨⟨t702, t705⟩, A52, H⟩ := bo H
     try dsimp only at H
     cases t705; rotate_left; rw [if_pos rfl] at H; obtain ⟨c54, H⟩ := ifs H; have LMc54 := ak c54; clear c54; obtain ⟨y706, hy706⟩ : ∃ y_ : List (S57), y_ = (t698 ++ t702) := ⟨_, rfl⟩
     first | replace H := bs hy706 H | rw [← hy706] at H
     have Ny706 := ak hy706; clear hy706; obtain ⟨rfl, rfl, rfl, rfl, rfl, rfl, rfl, rfl⟩ := o8 H; rotate_left; rw [if_neg nf] at H; obtain ⟨rfl, rfl, rfl, rfl, rfl, rfl, rfl, rfl⟩ := o8 H
    all_goals
     try go_wp2
     replace HO_696005 := ak (Kd.R_drew HO_696005.out); replace BK679 := ak (blk_drew BK679.out); replace BK680 := ak (blk_drew BK680.out); replace BK695 := ak (blk_drew BK695.out); replace HB := ak (below_drew1 HB.out)
     refine st0 5 (fun w' => w'.cell? ⟨gb679, 0, none⟩ = some (.slice A0_0 l0_0.length c0_0)) (bc BK679 0) fun hHeld => ?_
     generalize wc.drew = w74 at HO_696005 BK679 BK680 BK695 HB hHeld ⊢
     refine pv 1 43 ?_; refine tv hHeld 0 42 ?_
     refine ov 2 44 fun K hK => ?_
     refine gq Tryz.func28 (impl_JournalName.calls t681 t697 _ A40.out (tab_below (tabE_tab HT) (bt HB))) fun w75 hb => ?_; replace HO_696005 := rb HO_696005 hb; replace BK679 := bb BK679 hb; replace BK680 := bb BK680 hb; replace BK695 := bb BK695 hb; replace HB := bs1 HB hb
     refine hK.out _ _ (bc BK679 0) fun hHeld => ?_
     clear hK K; refine nm 44 ?_
     refine ov 3 45 fun K hK => ?_
     refine gqv Tryz.func31 (impl_dropOthers.calls kj5 _ _ l0_0 (⟨#[106, 43]⟩ : ByteArray) (⟨#[106]⟩ : ByteArray) 999 t697 t698 _ ?s1 ?s2 A41.out (tabE_below HT (bt HB))) fun v699 w76 h_ => ?_; (case s1 => exact ca HR0_0 HB); (case s2 => exact HC0_0.out); obtain ⟨ho0, hb⟩ := h_; replace HO_696005 := rb HO_696005 hb; have HO700 := ak (Kd.R_lower ho0 (below_size (bt HB))); replace BK679 := bb BK679 hb; replace BK680 := bb BK680 hb; replace BK695 := bb BK695 hb; replace HB := bs1 HB hb
     (try clear ho0)
     refine hK.out _ _ (bc BK679 0) fun hHeld => ?_
     clear hK K; refine nm 45 ?_; refine pv 4 11 ?_; refine dv ?_; have := NB695_679.out; have := NB679_695.out; have := NB695_680.out; have := NB680_695.out; obtain ⟨_, _, _, _, _, _, _, _, _, _, _, _⟩ := bc6 BK695
     try have := NB680_679.out
     try have := NB679_680.out
     try obtain ⟨_, _, _, _, _, _, _, _, _, _, _, _⟩ := bc6 BK680
     try go_wp2
    ·have n0_ : Aside0 (Kd.R k105 105 (w76.setCell ⟨gb695, 0, none⟩ (.int .i64 (wrap64 (t685 + 1)))) w.heap.size (fun _ => True) (.slice Ao20 t690.length co20) t690) := ⟨by (with_reducible repeat (first | apply Kd.R_alloc | apply Kd.R_drewN | apply Kd.R_drew)); exact rfm HO_696005 BK695⟩
     have n1_ : Aside0 (Kd.R k57 57 (w76.setCell ⟨gb695, 0, none⟩ (.int .i64 (wrap64 (t685 + 1)))) w.heap.size (fun _ => True) v699 t698) := ⟨by (with_reducible repeat (first | apply Kd.R_alloc | apply Kd.R_drewN | apply Kd.R_drew)); exact rfm HO700 BK695⟩
     have n2_ : Aside0 ((w76.setCell ⟨gb695, 0, none⟩ (.int .i64 (wrap64 (t685 + 1)))).heap[gb679]? = some (.cells #[.slice A0_0 l0_0.length c0_0] 36 (0, 0))) := ⟨bg BK679⟩; have n3_ : Aside0 ((w76.setCell ⟨gb695, 0, none⟩ (.int .i64 (wrap64 (t685 + 1)))).heap[gb680]? = some (.cells #[.int .i64 0, .int .i64 0, .int .i64 0, .int .i64 0, .int .i64 0, .slice none 0 0] 30 (0, 0))) := ⟨bg BK680⟩
     have n4_ : Aside0 ((w76.setCell ⟨gb695, 0, none⟩ (.int .i64 (wrap64 (t685 + 1)))).heap[gb695]? = some (.cells #[.int .i64 (wrap64 (t685 + 1)), .int .i64 t686, .int .i64 t687, .int .i64 t688, .int .i64 t689, .slice Ao20 t690.length co20] 30 (0, 0))) := ⟨by refine bk_ ?_; refine blk_put (cs := #[.int .i64 t685, .int .i64 t686, .int .i64 t687, .int .i64 t688, .int .i64 t689, .slice Ao20 t690.length co20]) ?_ 0 _ rfl; refine bk_ ?_; exact BK695.out⟩
     have n5_ : Aside0 (Below w.heap.size w (w76.setCell ⟨gb695, 0, none⟩ (.int .i64 (wrap64 (t685 + 1))))) := ⟨bt HB⟩
     (try clear HO_696005)
     (try clear HO700)
     (try clear BK679)
     (try clear BK680)
     (try clear BK695)
     (try clear HB)
     generalize (w76.setCell ⟨gb695, 0, none⟩ (.int .i64 (wrap64 (t685 + 1)))) = w80 at n0_ n1_ n2_ n3_ n4_ n5_ ⊢
     have HO_696005 := n0_; have HO700 := n1_; have BK679 := n2_; have BK680 := n3_; have BK695 := n4_; have HB := n5_; clear n0_ n1_ n2_ n3_ n4_ n5_; replace HO_696005 := ak (Kd.R_drew HO_696005.out); replace HO700 := ak (Kd.R_drew HO700.out); replace BK679 := ak (blk_drew BK679.out); replace BK680 := ak (blk_drew BK680.out); replace BK695 := ak (blk_drew BK695.out); replace HB := ak (below_drew1 HB.out)
     refine st 9 (fun w' => d6 w' gb695 (.int .i64 (wrap64 (t685 + 1))) (.int .i64 t686) (.int .i64 t687) (.int .i64 t688) (.int .i64 t689) (.slice Ao20 t690.length co20)) impl_OpenJournal.tab10 impl_OpenJournal.bits10 hp fun hHeld HT_ HW_ => ?_
     generalize w80.drew = w81 at HO_696005 HO700 BK679 BK680 BK695 HB hHeld ⊢
     refine pu HT_ 1 58 ?_; refine tk HT_ HW_ hHeld 0 57 ?_
     refine on HT_ 2 59 fun K hK => ?_
     refine gq Tryz.func28 (impl_JournalName.calls t681 t701 _ A51.out (tab_below (tabE_tab HT) (bt HB))) fun w82 hb => ?_; replace HO_696005 := rb HO_696005 hb; replace HO700 := rb HO700 hb; replace BK679 := bb BK679 hb; replace BK680 := bb BK680 hb; replace BK695 := bb BK695 hb; replace HB := bs1 HB hb
     refine hK.out _ _ hp fun hHeld => ?_
     clear hK K; refine nm 59 ?_
     refine on HT_ 3 60 fun K hK => ?_
     refine gqv Tryz.func32 (impl_renewActs.calls kj5 (wrap64 (t685 + 1)) t686 t687 t688 t689 _ _ t690 t701 t702 false _ ?s1 ?s2 A52.out (tab_below (tabE_tab HT) (bt HB))) fun v703 w83 h_ => ?_; (case s1 => exact cr HO_696005); (case s2 => exact (Kd.R_reads' HO_696005.out).2.1); obtain ⟨ho0, hb⟩ := h_; replace HO_696005 := rb HO_696005 hb; have HO704 := ak (Kd.R_lower (Kd.R_new' ho0 (Kd.R_lt (rk HO700))) (below_size (bt HB))); replace HO700 := ak (Kd.R_elder' (rk HO700) (Kd.R_base ho0) hb); replace BK679 := bb BK679 hb; replace BK680 := bb BK680 hb; replace BK695 := bb BK695 hb; replace HB := bs1 HB hb
     (try clear ho0)
     refine hK.out _ _ hp fun hHeld => ?_
     clear hK K; refine nm 60 ?_; refine pu HT_ 4 56 ?_; refine pu HT_ 5 61 ?_; refine pu HT_ 6 62 ?_; refine pu HT_ 7 12 ?_; refine pu HT_ 8 13 ?_; refine dn HT_ ?_; have := NB680_679.out; have := NB679_680.out; obtain ⟨_, _, _, _, _, _, _, _, _, _, _, _⟩ := bc6 BK680
     try go_wp2
     refine bodyPost_ret (results_ctt rfl _ _ gb680 30 #[.int .i64 0, .int .i64 0, .int .i64 0, .int .i64 0, .int .i64 0, .slice none 0 0] (0, 0) _ rfl (bp BK680) Tryz.underlying30 rfl (by kernel_rfl)) rfl ?_
     exact ⟨_, _, fe, by first | exact Kd.R_nil _ _ _ _ _ | exact Kd.N_nil _ _ _ _ _ | exact Kd.V_nil _ _ _ _ _ | exact Kd.Q_nil _ _ _ _ _ | exact Kd.S_nil _ _ _ _ _, by first | exact Kd.R_nil _ _ _ _ _ | exact Kd.N_nil _ _ _ _ _ | exact Kd.V_nil _ _ _ _ _ | exact Kd.Q_nil _ _ _ _ _ | exact Kd.S_nil _ _ _ _ _, bt HB⟩
    ·have n0_ : Aside0 (Kd.R k105 105 (w76.setCell ⟨gb695, 0, none⟩ (.int .i64 (wrap64 (t685 + 1)))) w.heap.size (fun _ => True) (.slice Ao20 t690.length co20) t690) := ⟨by (with_reducible repeat (first | apply Kd.R_alloc | apply Kd.R_drewN | apply Kd.R_drew)); exact rfm HO_696005 BK695⟩
     have n1_ : Aside0 (Kd.R k57 57 (w76.setCell ⟨gb695, 0, none⟩ (.int .i64 (wrap64 (t685 + 1)))) w.heap.size (fun _ => True) v699 t698) := ⟨by (with_reducible repeat (first | apply Kd.R_alloc | apply Kd.R_drewN | apply Kd.R_drew)); exact rfm HO700 BK695⟩
     have n2_ : Aside0 ((w76.setCell ⟨gb695, 0, none⟩ (.int .i64 (wrap64 (t685 + 1)))).heap[gb679]? = some (.cells #[.slice A0_0 l0_0.length c0_0] 36 (0, 0))) := ⟨bg BK679⟩; have n3_ : Aside0 ((w76.setCell ⟨gb695, 0, none⟩ (.int .i64 (wrap64 (t685 + 1)))).heap[gb680]? = some (.cells #[.int .i64 0, .int .i64 0, .int .i64 0, .int .i64 0, .int .i64 0, .slice none 0 0] 30 (0, 0))) := ⟨bg BK680⟩
     have n4_ : Aside0 ((w76.setCell ⟨gb695, 0, none⟩ (.int .i64 (wrap64 (t685 + 1)))).heap[gb695]? = some (.cells #[.int .i64 (wrap64 (t685 + 1)), .int .i64 t686, .int .i64 t687, .int .i64 t688, .int .i64 t689, .slice Ao20 t690.length co20] 30 (0, 0))) := ⟨by refine bk_ ?_; refine blk_put (cs := #[.int .i64 t685, .int .i64 t686, .int .i64 t687, .int .i64 t688, .int .i64 t689, .slice Ao20 t690.length co20]) ?_ 0 _ rfl; refine bk_ ?_; exact BK695.out⟩
     have n5_ : Aside0 (Below w.heap.size w (w76.setCell ⟨gb695, 0, none⟩ (.int .i64 (wrap64 (t685 + 1))))) := ⟨bt HB⟩
     (try clear HO_696005)
     (try clear HO700)
     (try clear BK679)
     (try clear BK680)
     (try clear BK695)
     (try clear HB)
     generalize (w76.setCell ⟨gb695, 0, none⟩ (.int .i64 (wrap64 (t685 + 1)))) = w61 at n0_ n1_ n2_ n3_ n4_ n5_ ⊢
     have HO_696005 := n0_; have HO700 := n1_; have BK679 := n2_; have BK680 := n3_; have BK695 := n4_; have HB := n5_; clear n0_ n1_ n2_ n3_ n4_ n5_; replace HO_696005 := ak (Kd.R_drew HO_696005.out); replace HO700 := ak (Kd.R_drew HO700.out); replace BK679 := ak (blk_drew BK679.out); replace BK680 := ak (blk_drew BK680.out); replace BK695 := ak (blk_drew BK695.out); replace HB := ak (below_drew1 HB.out)
     refine st 9 (fun w' => d6 w' gb695 (.int .i64 (wrap64 (t685 + 1))) (.int .i64 t686) (.int .i64 t687) (.int .i64 t688) (.int .i64 t689) (.slice Ao20 t690.length co20)) impl_OpenJournal.tab10 impl_OpenJournal.bits10 hp fun hHeld HT_ HW_ => ?_
     generalize w61.drew = w62 at HO_696005 HO700 BK679 BK680 BK695 HB hHeld ⊢
     refine pu HT_ 1 58 ?_; refine tk HT_ HW_ hHeld 0 57 ?_
     refine on HT_ 2 59 fun K hK => ?_
     refine gq Tryz.func28 (impl_JournalName.calls t681 t701 _ A51.out (tab_below (tabE_tab HT) (bt HB))) fun w63 hb => ?_; replace HO_696005 := rb HO_696005 hb; replace HO700 := rb HO700 hb; replace BK679 := bb BK679 hb; replace BK680 := bb BK680 hb; replace BK695 := bb BK695 hb; replace HB := bs1 HB hb
     refine hK.out _ _ hp fun hHeld => ?_
     clear hK K; refine nm 59 ?_
     refine on HT_ 3 60 fun K hK => ?_
     refine gqv Tryz.func32 (impl_renewActs.calls kj5 (wrap64 (t685 + 1)) t686 t687 t688 t689 _ _ t690 t701 t702 true _ ?s1 ?s2 A52.out (tab_below (tabE_tab HT) (bt HB))) fun v703 w64 h_ => ?_; (case s1 => exact cr HO_696005); (case s2 => exact (Kd.R_reads' HO_696005.out).2.1); obtain ⟨ho0, hb⟩ := h_; replace HO_696005 := rb HO_696005 hb; have HO704 := ak (Kd.R_lower (Kd.R_new' ho0 (Kd.R_lt (rk HO700))) (below_size (bt HB))); replace HO700 := ak (Kd.R_elder' (rk HO700) (Kd.R_base ho0) hb); replace BK679 := bb BK679 hb; replace BK680 := bb BK680 hb; replace BK695 := bb BK695 hb; replace HB := bs1 HB hb
     (try clear ho0)
     refine hK.out _ _ hp fun hHeld => ?_
     clear hK K; refine nm 60 ?_; refine pu HT_ 4 56 ?_; refine pu HT_ 5 61 ?_; refine pu HT_ 6 62 ?_; refine pu HT_ 7 12 ?_; refine pu HT_ 8 13 ?_; refine dn HT_ ?_
     try go_wp2
     replace HO_696005 := ak (Kd.R_drew HO_696005.out); replace HO700 := ak (Kd.R_drew HO700.out); replace HO704 := ak (Kd.R_drew HO704.out); replace BK679 := ak (blk_drew BK679.out); replace BK680 := ak (blk_drew BK680.out); replace BK695 := ak (blk_drew BK695.out); replace HB := ak (below_drew1 HB.out); obtain ⟨Ao67, co67, eo67⟩ := Kd.R_slice HO704.out
     (first | subst eo67 | (injection eo67 with f1_ f2_ f3_; have f4_ := f1_.symm; have f5_ := f3_.symm; clear f1_ f2_ f3_; subst f4_; subst f5_))
     refine st0 7 (fun w' => d6 w' gb695 (.int .i64 (wrap64 (t685 + 1))) (.int .i64 t686) (.int .i64 t687) (.int .i64 t688) (.int .i64 t689) (.slice Ao20 t690.length co20)) hp fun hHeld => ?_
     generalize w64.drew = w65 at HO_696005 HO700 HO704 BK679 BK680 BK695 HB hHeld ⊢
     refine pv 1 67 ?_; refine pv 2 68 ?_; refine tv hHeld 0 66 ?_
     refine ov 3 69 fun K hK => ?_
     refine Kd.R_append_rows_step k57 (w0 := w) w.heap.size (by rfl) (.tmp 67) (.tmp 68) 31 57 (.agg #[(.int .i64 0), (.string ⟨#[]⟩), (.string ⟨#[]⟩), (.string ⟨#[]⟩)]) 56 rfl Tryz.underlying31 info57 rfl (by decide) (by omega) v699 t698 t702 _ _ _ (fun k_ => some k_ ≠ (.slice Ao67 t702.length co67 : Value).ownBlock) (fun _ => False) rfl rfl ?aO ?aR (fun _ _ h => h) (fun _ h => h.elim) ?aF ?aB ?aS ?aL ?_
     (case aR => exact cr HO704)
     (case aB => exact (bt HB))
     (case aF => exact (fun k_ hk => Kd.fresh' (Kd.R_lt (rk HO704)) k_ hk))
     (case aO => exact (Kd.R_mono (rk HO700) (fun _ hk => hk.2)))
     (case aS => exact (below_size (bt HB)))
     (case aL => have := LMc54.out; omega)
     intro v707 w66 ho hb hg hat; rw [← Ny706.out] at ho
     have n0_ := ak (Kd.R_over' (rk HO_696005) (Kd.R_typed (rk HO700)) (by decide) hg)
     have n1_ := ak (blk_grown (g := gb679) (o := .cells #[.slice A0_0 l0_0.length c0_0] 36 (0, 0)) (bk BK679) hg (Kd.R_ne HO700.out BK679.out (by decide)))
     have n2_ := ak (blk_grown (g := gb680) (o := .cells #[.int .i64 0, .int .i64 0, .int .i64 0, .int .i64 0, .int .i64 0, .slice none 0 0] 30 (0, 0)) (bk BK680) hg (Kd.R_ne HO700.out BK680.out (by decide)))
     have n3_ := ak (blk_grown (g := gb695) (o := .cells #[.int .i64 (wrap64 (t685 + 1)), .int .i64 t686, .int .i64 t687, .int .i64 t688, .int .i64 t689, .slice Ao20 t690.length co20] 30 (0, 0)) (bk BK695) hg (Kd.R_ne HO700.out BK695.out (by decide)))
     have n4_ := ak (Kd.R_after (ok := (fun _ => True)) (rk HO704) hg hat)
     have n5_ := ak hb; have n6_ := ak ho; clear HO_696005 BK679 BK680 BK695 HO704 HB HO700; revert n0_ n1_ n2_ n3_ n4_ n5_ n6_; intro HO_696005 BK679 BK680 BK695 HO704 HB HO708; clear ho hb hg hat
     refine hK.out _ _ hp fun hHeld => ?_
     clear hK K; refine nm 69 ?_
     refine ov0 4 fun K hK => ?_
     have hs68 : w66.cell? ⟨gb680, 0, none⟩ = some (.int .i64 0) := bc BK680 0; have hfs68 := blk_frozen BK680.out 0; have hns68_0 := NB679_680.out; have hns68_2 := NB695_680.out; have hms68_0 := NB680_679.out; have hms68_2 := NB680_695.out; have hs69 : w66.cell? ⟨gb680, 1, none⟩ = some (.int .i64 0) := bc BK680 1; have hfs69 := blk_frozen BK680.out 1; have hns69_0 := NB679_680.out; have hns69_2 := NB695_680.out; have hms69_0 := NB680_679.out; have hms69_2 := NB680_695.out; have hs70 : w66.cell? ⟨gb680, 2, none⟩ = some (.int .i64 0) := bc BK680 2; have hfs70 := blk_frozen BK680.out 2; have hns70_0 := NB679_680.out; have hns70_2 := NB695_680.out; have hms70_0 := NB680_679.out; have hms70_2 := NB680_695.out; have hs71 : w66.cell? ⟨gb680, 3, none⟩ = some (.int .i64 0) := bc BK680 3; have hfs71 := blk_frozen BK680.out 3; have hns71_0 := NB679_680.out; have hns71_2 := NB695_680.out; have hms71_0 := NB680_679.out; have hms71_2 := NB680_695.out; have hs72 : w66.cell? ⟨gb680, 4, none⟩ = some (.int .i64 0) := bc BK680 4; have hfs72 := blk_frozen BK680.out 4; have hns72_0 := NB679_680.out; have hns72_2 := NB695_680.out; have hms72_0 := NB680_679.out; have hms72_2 := NB680_695.out; have hs73 : w66.cell? ⟨gb680, 5, none⟩ = some (.slice none 0 0) := bc BK680 5; have hfs73 := blk_frozen BK680.out 5; have hns73_0 := NB679_680.out; have hns73_2 := NB695_680.out; have hms73_0 := NB680_679.out; have hms73_2 := NB680_695.out; refine sk ?_
     refine hK.out _ _ hp fun hHeld => ?_
     clear hK K; refine pv 5 3 ?_; refine pv 6 4 ?_; refine dv ?_
     try go_wp2
     refine bodyPost_ret (results_ctt rfl _ _ gb680 30 #[.int .i64 (wrap64 (t685 + 1)), .int .i64 t686, .int .i64 t687, .int .i64 t688, .int .i64 t689, .slice Ao20 t690.length co20] (0, 0) _ rfl (bp BK680) Tryz.underlying30 rfl (by kernel_rfl)) rfl ?_
     exact ⟨_, _, fe, by (with_reducible repeat (first | apply Kd.R_alloc | apply Kd.R_drewN | apply Kd.R_drew)); exact rfm HO_696005 BK680, by (with_reducible repeat (first | apply Kd.R_alloc | apply Kd.R_drewN | apply Kd.R_drew)); exact rfm HO708 BK680, bt HB⟩
    ·refine bodyPost_ret (results_ctt rfl _ _ gb680 30 #[.int .i64 t685, .int .i64 t686, .int .i64 t687, .int .i64 t688, .int .i64 t689, .slice Ao20 t690.length co20] (0, 0) _ rfl (bp BK680) Tryz.underlying30 rfl (by kernel_rfl)) rfl ?_
     exact ⟨_, _, fe, by (with_reducible repeat (first | apply Kd.R_alloc | apply Kd.R_drewN | apply Kd.R_drew)); exact rfm HO_696005 BK680, by (with_reducible repeat (first | apply Kd.R_alloc | apply Kd.R_drewN | apply Kd.R_drew)); exact rfm HO700 BK680, bt HB⟩
end Go.Proofs.YtdepaileabejgaaGreatDoor.PFnExactOpenJournal
