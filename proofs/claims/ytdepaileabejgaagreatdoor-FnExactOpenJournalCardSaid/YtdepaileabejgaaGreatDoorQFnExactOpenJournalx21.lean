/- Walks. No condition. -/
import Derived.Test.YtdepaileabejgaaGreatDoorQFnExactOpenJournalx20
namespace Go.Proofs.YtdepaileabejgaaGreatDoor.PFnExactOpenJournal
open Go.RowKit Go.Proofs.YtdepaileabejgaaGreatDoorW.PrintWords Go.Proofs.YtdepaileabejgaaGreatDoorW.PrintLast Go.Proofs.YtdepaileabejgaaGreatDoorW.PrintMore Go.Proofs.YtdepaileabejgaaGreatDoorW.Short
attribute [local go_sem] max2_int min2_int max_two min_two max_three min_three max_four min_four
set_option maxHeartbeats 8000000
set_option maxRecDepth 100000
set_option linter.unusedVariables false
set_option linter.unusedSimpArgs false
def impl_LogPut.j0 : Nat → Int → Bool → Int → Int → List (S105) → Int → Int → ByteArray → Option (Int × Int × (List (S105)) × Bool)
 | 0, _, _, _, _, _, _, _, _ => none
 | k + 1, x1, x22, x564000, x564001, x564002, x565000, x565001, x565002 => if x22 = true then (some (0, 0, ([] : List (S105)), false)) else ((impl_cloneLog.f x564000 x564001 x564002).bind fun bt569 => (if 0 ≤ (wrap64 ((wrap64 (x1 - x564000)) - 1)) then (if (wrap64 ((wrap64 (x1 - x564000)) - 1)) ≤ (bt569.2.2.length : Int) then ((some (bt569.2.2.take ((wrap64 ((wrap64 (x1 - x564000)) - 1)) : Int).toNat : List (S105))).bind fun y575 => (if y575.length < 4398046511104 then ((some (y575 ++ [(⟨x565000, x565001, x565002⟩ : S105)] : List (S105))).bind fun y578 => ((impl_LogOk.f k bt569.1 bt569.2.1 y578).bind fun t581 => (if t581 = true then (some (bt569.1, bt569.2.1, y578, true)) else (some (0, 0, ([] : List (S105)), false))))) else (none))) else (none)) else (none)))
def impl_LogPut.f (k : Nat) (a0_0 : Int) (a0_1 : Int) (l0_2 : List (S105)) (a1 : Int) (a2_0 : Int) (a2_1 : Int) (a2_2 : ByteArray) : Option (Int × Int × (List (S105)) × Bool) := (impl_LogOk.f k a0_0 a0_1 l0_2).bind fun t566 => (if t566 = true then ((impl_lastOf.f a0_0 a0_1 l0_2).bind fun t567 => ((impl_in.f a1 (wrap64 (a0_0 + 1)) (wrap64 (t567 + 1))).bind fun t568 => (impl_LogPut.j0 k a1 (!t568) a0_0 a0_1 l0_2 a2_0 a2_1 a2_2))) else (impl_LogPut.j0 k a1 true a0_0 a0_1 l0_2 a2_0 a2_1 a2_2))
def impl_LogPut.T1 : Bool × List (List Nat × List Nat) := (true, [([], []), ([0], [0]), ([1], [1]), ([2, 1], [2]), ([3], [3]), ([3], [3]), ([5, 3], [3, 5]), ([6, 3], [3, 6]), ([3], [3]), ([8, 3, 3], [3, 8]), ([9, 3], [3, 9]), ([4, 7, 10, 9, 3], [3, 4, 7, 10]), ([11, 3], [3, 11]), ([3, 12], [3, 12])])
def impl_LogPut.B1 : List Nat := [0, 1, 3, 7, 15, 15, 47, 111, 15, 271, 783, 2047, 4095, 8191]
theorem impl_LogPut.tab1 : rtab .any (opsOf Tryz.f92 1) = impl_LogPut.T1 := by kernel_rfl
theorem impl_LogPut.bits1 : waitsOk impl_LogPut.T1.2 impl_LogPut.B1 = true := by kernel_rfl
def impl_LogPut.T4 : Bool × List (List Nat × List Nat) := (true, [([], []), ([0], [0]), ([], []), ([], []), ([3], [3]), ([2, 4], [2, 4]), ([5], [5]), ([1, 6], [1, 6]), ([], []), ([8], [8]), ([7, 9], [7, 9]), ([0, 1, 2, 3, 4, 5, 6, 7, 8, 9, 10], []), ([11, 10, 10, 0, 1, 2, 3, 4, 5, 6, 7, 8, 9, 10], [10, 11])])
def impl_LogPut.B4 : List Nat := [0, 1, 0, 0, 8, 28, 60, 127, 0, 256, 1023, 2047, 4095]
theorem impl_LogPut.tab4 : rtab .any (opsOf Tryz.f92 4) = impl_LogPut.T4 := by kernel_rfl
theorem impl_LogPut.bits4 : waitsOk impl_LogPut.T4.2 impl_LogPut.B4 = true := by kernel_rfl
theorem impl_LogPut.calls (k : Nat) (a0_0 : Int) (a0_1 : Int) (A0_2 : Option Addr) (c0_2 : Nat) (l0_2 : List (S105)) (a1 : Int) (a2_0 : Int) (a2_1 : Int) (a2_2 : ByteArray) (r1 : Int) (r2 : Int) (r3 : List (S105)) (r4 : Bool) (w : World) (hr0_2 : Kd.C k105 w A0_2 l0_2.length l0_2) (hc0_2 : l0_2.length ≤ c0_2) (H : impl_LogPut.f k a0_0 a0_1 l0_2 a1 a2_0 a2_1 a2_2 = some (r1, r2, r3, r4)) :
 Calls Tryz.prog 92 #[.agg #[.int .i64 a0_0, .int .i64 a0_1, .slice A0_2 l0_2.length c0_2], .int .i64 a1, .agg #[.int .i64 a2_0, .int .i64 a2_1, .string a2_2]] w fun e w' => ∃ v2_ : Value, e = .returned (.tuple #[.agg #[.int .i64 r1, .int .i64 r2, v2_], .bool r4]) ∧ Kd.R k105 105 w' w.heap.size (fun _ => True) v2_ r3 ∧ Below w.heap.size w w' := by
 have hu28 := Tryz.underlying28; have hu105 := Tryz.underlying105; have HR0_2 := ak hr0_2; have HC0_2 := ak hc0_2; clear hr0_2 hc0_2; have HB := ak (Below.refl w.heap.size w); unfold impl_LogPut.f at H; have HC4 := ak H; clear H; go_enter Tryz.func92, Tryz.ntmps92
 go_upto_region 1 with (first | ((with_reducible refine gd 3 rfl ?_); refine bx 3 28 #[.int .i64 a0_0, .int .i64 a0_1, .slice A0_2 l0_2.length c0_2] fun gb563 hg w5 BK563 hb => ?_; have GE563 := ge_ hg HB; replace HB := bs1 HB hb; clear hb hg) | ((with_reducible refine gd 5 rfl ?_); refine bx 5 105 #[.int .i64 a2_0, .int .i64 a2_1, .string a2_2] fun gb564 hg w6 BK564 hb => ?_; have GE564 := ge_ hg HB; replace HB := bs1 HB hb; have NB563_564 := nl_ hg BK563; have NB564_563 := nr_ hg BK563; replace BK563 := bb BK563 hb; clear hb hg) | ((with_reducible refine gd 6 rfl ?_); refine bx 6 28 #[.int .i64 0, .int .i64 0, .slice none 0 0] fun gb565 hg w7 BK565 hb => ?_; have GE565 := ge_ hg HB; replace HB := bs1 HB hb; have NB563_565 := nl_ hg BK563; have NB565_563 := nr_ hg BK563; replace BK563 := bb BK563 hb; have NB564_565 := nl_ hg BK564; have NB565_564 := nr_ hg BK564; replace BK564 := bb BK564 hb; clear hb hg))
 (try simp only [Act.put, zA, zB, zC])
 go_cut [22] (fun v22 wc => ∃ (kq : Nat) (x22_3 : Bool), v22 = .bool x22_3 ∧ Aside0 (impl_LogPut.j0 kq a1 x22_3 a0_0 a0_1 l0_2 a2_0 a2_1 a2_2 = some (r1, r2, r3, r4)) ∧ Aside0 (kq ≤ k) ∧ Aside0 (wc.heap[gb563]? = some (.cells #[.int .i64 a0_0, .int .i64 a0_1, (.slice A0_2 l0_2.length c0_2)] 28 (0, 0))) ∧ Aside0 (wc.heap[gb564]? = some (.cells #[.int .i64 a2_0, .int .i64 a2_1, .string a2_2] 105 (0, 0))) ∧ Aside0 (wc.heap[gb565]? = some (.cells #[.int .i64 0, .int .i64 0, (.slice none 0 0)] 28 (0, 0))) ∧ Aside0 (Below w.heap.size w wc))
 case first =>
  have H := HC4.out; clear HC4; obtain ⟨t566, A8, H⟩ := bo H; cases t566; rotate_left; rw [if_pos rfl] at H; obtain ⟨t567, A10, H⟩ := bo H; obtain ⟨t568, A11, H⟩ := bo H; have H' := ak H; clear H; rotate_left; rw [if_neg nf] at H; have H' := ak H; clear H
  all_goals
   try go_wp2
   replace BK563 := ak (blk_drew BK563.out); replace BK564 := ak (blk_drew BK564.out); replace BK565 := ak (blk_drew BK565.out); replace HB := ak (below_drew1 HB.out)
   refine st 14 (fun w' => d3 w' gb563 (.int .i64 a0_0) (.int .i64 a0_1) (.slice A0_2 l0_2.length c0_2)) impl_LogPut.tab1 impl_LogPut.bits1 hp fun hHeld HT_ HW_ => ?_
   generalize w7.drew = w15 at BK563 BK564 BK565 HB hHeld ⊢
   refine tk HT_ HW_ hHeld 0 9 ?_
   refine on HT_ 1 10 fun K hK => ?_
   refine gq Tryz.func58 (impl_LogOk.calls k a0_0 a0_1 _ _ l0_2 _ _ ?s1 ?s2 A8.out) fun w16 hb => ?_; (case s1 => exact ca HR0_2 HB); (case s2 => exact HC0_2.out); replace BK563 := bb BK563 hb; replace BK564 := bb BK564 hb; replace BK565 := bb BK565 hb; replace HB := bs1 HB hb
   refine hK.out _ _ hp fun hHeld => ?_
   clear hK K; refine nm 10 ?_; refine pu HT_ 2 11 ?_; refine pu HT_ 3 12 ?_
  ·refine pz HT_ 4 13 ?_; refine pz HT_ 5 14 ?_; refine pz HT_ 6 15 ?_; refine pz HT_ 7 16 ?_; refine pz HT_ 8 17 ?_; refine pz HT_ 9 18 ?_; refine pz HT_ 10 19 ?_; refine pz HT_ 11 20 ?_; refine pz HT_ 12 21 ?_; refine pu HT_ 13 22 ?_; refine dn HT_ ?_
   try go_wp2
   go_meet
   case rel => exact ⟨_, (true), fr, H', ⟨by first | omega | exact Nat.le_refl _⟩, ⟨bk BK563⟩, ⟨bk BK564⟩, ⟨bk BK565⟩, ⟨bt HB⟩⟩
  ·refine pu HT_ 4 13 ?_; refine pu HT_ 5 14 ?_; refine tk HT_ HW_ hHeld 6 15 ?_; refine pu HT_ 7 16 ?_; refine tk HT_ HW_ hHeld 8 17 ?_
   refine on HT_ 9 18 fun K hK => ?_
   refine gq Tryz.func110 (impl_lastOf.calls a0_0 a0_1 _ _ l0_2 t567 _ ?s1 ?s2 A10.out) fun w14 hb => ?_; (case s1 => exact ca HR0_2 HB); (case s2 => exact HC0_2.out); replace BK563 := bb BK563 hb; replace BK564 := bb BK564 hb; replace BK565 := bb BK565 hb; replace HB := bs1 HB hb
   refine hK.out _ _ hp fun hHeld => ?_
   clear hK K; refine nm 18 ?_; refine pu HT_ 10 19 ?_
   refine on HT_ 11 20 fun K hK => ?_
   refine gq Tryz.func54 (impl_in.calls a1 (wrap64 (a0_0 + 1)) (wrap64 (t567 + 1)) t568 _ A11.out) fun w' h_ => ?_; obtain ⟨nd, rfl⟩ := h_
   refine hK.out _ _ hp fun hHeld => ?_
   clear hK K; refine nm 20 ?_; refine pu HT_ 12 21 ?_; refine pu HT_ 13 22 ?_; refine dn HT_ ?_
   try go_wp2
   go_meet
   case rel => exact ⟨_, (!t568), fr, H', ⟨by first | omega | exact Nat.le_refl _⟩, ⟨bk BK563⟩, ⟨bk BK564⟩, ⟨bk BK565⟩, ⟨bt HB⟩⟩
 case rest =>
  clear HC4; obtain ⟨kq, x22_3, rfl, HA, HJ3, BK563, BK564, BK565, HB⟩ := hcut
  cases kq with
  | zero => exact absurd HA.out (by simp [impl_LogPut.j0])
  | succ kj3 =>
   have H := HA.out; clear HA; simp only [impl_LogPut.j0] at H; cases x22_3; rotate_left
   ·rw [if_pos rfl] at H; obtain ⟨rfl, rfl, rfl, rfl⟩ := o4 H; have := NB565_563.out; have := NB563_565.out; have := NB565_564.out; have := NB564_565.out; obtain ⟨_, _, _, _, _, _⟩ := bc3 BK565; go_wp2
    refine bodyPost_ret (results_ct rfl _ _ gb565 28 #[.int .i64 0, .int .i64 0, .slice none 0 0] (0, 0) _ rfl (bp BK565) Tryz.underlying28 rfl (by kernel_rfl)) rfl ?_
    exact ⟨_, fe, by first | exact Kd.R_nil _ _ _ _ _ | exact Kd.N_nil _ _ _ _ _ | exact Kd.V_nil _ _ _ _ _ | exact Kd.Q_nil _ _ _ _ _ | exact Kd.S_nil _ _ _ _ _, bt HB⟩
   ·rw [if_neg nf] at H; obtain ⟨⟨t569, t570, t571⟩, A21, H⟩ := bo H
    try dsimp only at H
    obtain ⟨ji22, hji22, hji22w⟩ := jj ((wrap64 (a1 - a0_0)) - 1)
    first | rw [hji22] at H | simp only [hji22] at H
    (try rw [hji22] at A21)
    obtain ⟨c23, H⟩ := ifs H; have c23b0 := eq_true c23; have c23b1 := dt c23; clear c23; obtain ⟨c24, H⟩ := ifs H; have c24b0 := eq_true c24; have c24b1 := dt c24; clear c24; obtain ⟨y575, hy575⟩ : ∃ y_ : List (S105), y_ = (t571.take ((ji22) : Int).toNat) := ⟨_, rfl⟩
    first | replace H := bs hy575 H | rw [← hy575] at H
    have Ny575 := ak hy575; clear hy575; obtain ⟨c25, H⟩ := ifs H; have LMc25 := ak c25; clear c25; obtain ⟨y578, hy578⟩ : ∃ y_ : List (S105), y_ = (y575 ++ [(⟨a2_0, a2_1, a2_2⟩ : S105)]) := ⟨_, rfl⟩
    first | replace H := bs hy578 H | rw [← hy578] at H
    have Ny578 := ak hy578; clear hy578; obtain ⟨t581, A26, H⟩ := bo H; cases t581; rotate_left; rw [if_pos rfl] at H; obtain ⟨rfl, rfl, rfl, rfl⟩ := o4 H; have := NB563_564.out; have := NB564_563.out; have := NB563_565.out; have := NB565_563.out; obtain ⟨_, _, _, _, _, _⟩ := bc3 BK563; rotate_left; rw [if_neg nf] at H; obtain ⟨rfl, rfl, rfl, rfl⟩ := o4 H; have := NB563_564.out; have := NB564_563.out; have := NB563_565.out; have := NB565_563.out; obtain ⟨_, _, _, _, _, _⟩ := bc3 BK563
    all_goals
     try go_wp2_with (first | ((with_reducible refine gd 25 rfl ?_); refine gcv 25 Tryz.func111 (impl_cloneLog.calls a0_0 a0_1 _ _ l0_2 t569 t570 t571 _ ?s1 ?s2 A21.out) fun v572 w52 h_ => ?_; (case s1 => exact ca HR0_2 HB); (case s2 => exact HC0_2.out); obtain ⟨ho0, hb⟩ := h_; have HO573 := ak (Kd.R_lower (Kd.R_newB ho0 (g := gb564) (o := .cells #[.int .i64 a2_0, .int .i64 a2_1, .string a2_2] 105 (0, 0)) (bk BK564)) (below_size (bt HB))); replace BK563 := bb BK563 hb; replace BK564 := bb BK564 hb; replace BK565 := bb BK565 hb; replace HB := bs1 HB hb; (try clear ho0)) | ((with_reducible refine gd 8 rfl ?_); refine bx 8 28 #[.int .i64 0, .int .i64 0, .slice none 0 0] fun gb574 hg w53 BK574 hb => ?_; replace HO573 := rb HO573 hb; have GE574 := ge_ hg HB; replace HB := bs1 HB hb; have NB563_574 := nl_ hg BK563; have NB574_563 := nr_ hg BK563; replace BK563 := bb BK563 hb; have NB564_574 := nl_ hg BK564; have NB574_564 := nr_ hg BK564; replace BK564 := bb BK564 hb; have NB565_574 := nl_ hg BK565; have NB574_565 := nr_ hg BK565; replace BK565 := bb BK565 hb; clear hb hg; have := NB574_563.out; have := NB563_574.out; have := NB574_564.out; have := NB564_574.out; have := NB574_565.out; have := NB565_574.out; obtain ⟨_, _, _, _, _, _⟩ := bc3 BK574; obtain ⟨Ao58, co58, eo58⟩ := Kd.R_slice HO573.out; subst eo58))
     have n0_ : Aside0 (Kd.R k105 105 (((w53.setCell ⟨gb574, 0, none⟩ (.int .i64 t569)).setCell ⟨gb574, 1, none⟩ (.int .i64 t570)).setCell ⟨gb574, 2, none⟩ (.slice Ao58 t571.length co58)) w.heap.size (fun k_ => k_ ≠ gb564) (.slice Ao58 t571.length co58) t571) := ⟨by (with_reducible repeat (first | apply Kd.R_alloc | apply Kd.R_drewN | apply Kd.R_drew)); exact Kd.R_mono (Kd.R_far (p := ⟨gb574, 2, none⟩) (Kd.R_far (p := ⟨gb574, 1, none⟩) (Kd.R_far (p := ⟨gb574, 0, none⟩) (Kd.R_types HO573.out BK574.out (by decide)) (fun _ hk => hk.2) (.int .i64 t569)) (fun _ hk => hk.2) (.int .i64 t570)) (fun _ hk => hk.2) (.slice Ao58 t571.length co58)) (fun _ hk => hk.1.2)⟩
     have n1_ : Aside0 ((((w53.setCell ⟨gb574, 0, none⟩ (.int .i64 t569)).setCell ⟨gb574, 1, none⟩ (.int .i64 t570)).setCell ⟨gb574, 2, none⟩ (.slice Ao58 t571.length co58)).heap[gb563]? = some (.cells #[.int .i64 a0_0, .int .i64 a0_1, .slice A0_2 l0_2.length c0_2] 28 (0, 0))) := ⟨bg BK563⟩; have n2_ : Aside0 ((((w53.setCell ⟨gb574, 0, none⟩ (.int .i64 t569)).setCell ⟨gb574, 1, none⟩ (.int .i64 t570)).setCell ⟨gb574, 2, none⟩ (.slice Ao58 t571.length co58)).heap[gb564]? = some (.cells #[.int .i64 a2_0, .int .i64 a2_1, .string a2_2] 105 (0, 0))) := ⟨bg BK564⟩; have n3_ : Aside0 ((((w53.setCell ⟨gb574, 0, none⟩ (.int .i64 t569)).setCell ⟨gb574, 1, none⟩ (.int .i64 t570)).setCell ⟨gb574, 2, none⟩ (.slice Ao58 t571.length co58)).heap[gb565]? = some (.cells #[.int .i64 0, .int .i64 0, .slice none 0 0] 28 (0, 0))) := ⟨bg BK565⟩
     have n4_ : Aside0 ((((w53.setCell ⟨gb574, 0, none⟩ (.int .i64 t569)).setCell ⟨gb574, 1, none⟩ (.int .i64 t570)).setCell ⟨gb574, 2, none⟩ (.slice Ao58 t571.length co58)).heap[gb574]? = some (.cells #[.int .i64 t569, .int .i64 t570, .slice Ao58 t571.length co58] 28 (0, 0))) := ⟨by refine bk_ ?_; refine blk_put (cs := #[.int .i64 t569, .int .i64 t570, .slice none 0 0]) ?_ 2 _ rfl; refine bk_ ?_; refine blk_put (cs := #[.int .i64 t569, .int .i64 0, .slice none 0 0]) ?_ 1 _ rfl; refine bk_ ?_; refine blk_put (cs := #[.int .i64 0, .int .i64 0, .slice none 0 0]) ?_ 0 _ rfl; refine bk_ ?_; exact BK574.out⟩
     have n5_ : Aside0 (Below w.heap.size w (((w53.setCell ⟨gb574, 0, none⟩ (.int .i64 t569)).setCell ⟨gb574, 1, none⟩ (.int .i64 t570)).setCell ⟨gb574, 2, none⟩ (.slice Ao58 t571.length co58))) := ⟨bt HB⟩
     (try clear HO573)
     (try clear BK563)
     (try clear BK564)
     (try clear BK565)
     (try clear BK574)
     (try clear HB)
     generalize (((w53.setCell ⟨gb574, 0, none⟩ (.int .i64 t569)).setCell ⟨gb574, 1, none⟩ (.int .i64 t570)).setCell ⟨gb574, 2, none⟩ (.slice Ao58 t571.length co58)) = w59 at n0_ n1_ n2_ n3_ n4_ n5_ ⊢
     have HO573 := n0_; have BK563 := n1_; have BK564 := n2_; have BK565 := n3_; have BK574 := n4_; have HB := n5_; clear n0_ n1_ n2_ n3_ n4_ n5_; replace HO573 := ak (Kd.R_drew HO573.out); replace BK563 := ak (blk_drew BK563.out); replace BK564 := ak (blk_drew BK564.out); replace BK565 := ak (blk_drew BK565.out); replace BK574 := ak (blk_drew BK574.out); replace HB := ak (below_drew1 HB.out); have q61 : ((ji22) : Int) ≤ ((t571.length : Int) : Int) := da; obtain ⟨i061, hi061, _, hsz61, _⟩ := info_parts info105; have hcut61 := cut_to (P := Tryz.prog) 26 105 .i64 Tryz.underlying26 hi061 Ao58 t571.length co58 (ji22) (da) q61 (Kd.R_reads' HO573.out).2.1
     have hr61 := Kd.R_take (m := ((ji22) : Int).toNat) HO573.out (by omega)
     have hy61 : y575.length = ((ji22) : Int).toNat := (by rw [Ny575.out, List.length_take]; omega)
     rw [← Ny575.out] at hr61; rw [← hy61] at hr61 hcut61; clear hy61 hi061 hsz61 HO573; have HO577 := ak hr61; clear hr61; replace q61 := eq_true q61
     refine start_ (n := 13) (S := fun w' => w'.cell? ⟨gb574, 0, none⟩ = some (.int .i64 t569) ∧ w'.cell? ⟨gb574, 1, none⟩ = some (.int .i64 t570) ∧ w'.cell? ⟨gb574, 2, none⟩ = some (.slice Ao58 t571.length co58) ∧ w'.cell? ⟨gb563, 0, none⟩ = some (.int .i64 a0_0) ∧ w'.cell? ⟨gb563, 1, none⟩ = some (.int .i64 a0_1) ∧ w'.cell? ⟨gb563, 2, none⟩ = some (.slice A0_2 l0_2.length c0_2) ∧ w'.cell? ⟨gb564, 0, none⟩ = some (.int .i64 a2_0) ∧ w'.cell? ⟨gb564, 1, none⟩ = some (.int .i64 a2_1) ∧ w'.cell? ⟨gb564, 2, none⟩ = some (.string a2_2)) (ds := [12]) #[false, false, false, false, false, false, false, false, false, false, false, false, false] (by kernel_rfl) rfl rfl ⟨bc BK574 0, bc BK574 1, bc BK574 2, bc BK563 0, bc BK563 1, bc BK563 2, bc BK564 0, bc BK564 1, bc BK564 2⟩ (fun hHeld => ?_); refine with_tabW impl_LogPut.tab4 impl_LogPut.bits4 (fun HT_ HW_ => ?_)
     generalize w59.drew = w60 at BK563 BK564 BK565 BK574 HB HO577 hHeld ⊢
     refine pu HT_ 0 26 ?_; refine pu HT_ 2 28 ?_; refine pu HT_ 3 29 ?_; refine tk HT_ HW_ hHeld 1 27 ?_; refine tk HT_ HW_ hHeld 4 30 ?_; refine pu HT_ 5 31 ?_; refine pu HT_ 6 32 ?_; refine pu HT_ 7 33 ?_; refine tk HT_ HW_ hHeld 8 34 ?_
     refine on HT_ 9 35 fun K hK => ?_
    ·refine value_ (w1 := ?_) (v := ?_) (by rfl) rfl ?_ ?_
     rotate_left 2
     ·go_simp
      constructor
      ·rfl
      ·rfl
     refine hK.out _ _ ⟨(blk_cell (blk_alloc BK574.out _) 0).trans rfl, (blk_cell (blk_alloc BK574.out _) 1).trans rfl, (blk_cell (blk_alloc BK574.out _) 2).trans rfl, (blk_cell (blk_alloc BK563.out _) 0).trans rfl, (blk_cell (blk_alloc BK563.out _) 1).trans rfl, (blk_cell (blk_alloc BK563.out _) 2).trans rfl, (blk_cell (blk_alloc BK564.out _) 0).trans rfl, (blk_cell (blk_alloc BK564.out _) 1).trans rfl, (blk_cell (blk_alloc BK564.out _) 2).trans rfl⟩ fun hHeld => ?_
     clear hK K; refine nm 35 ?_
     refine on HT_ 10 36 fun K hK => ?_
     refine Kd.R_append_step k105 (w0 := w) w.heap.size (by rfl) (.tmp 33) (.tmp 35) 26 105 (.agg #[(.int .i64 0), (.int .i64 0), (.string ⟨#[]⟩)]) 32 rfl Tryz.underlying26 info105 rfl (by decide) (by omega) (.slice Ao58 y575.length co58) y575 (⟨a2_0, a2_1, a2_2⟩ : S105) [.int .i64 a2_0, .int .i64 a2_1, .string a2_2] (fun k_ => k_ ≠ gb564) (fun _ => False) rfl rfl ?aP (fun _ hk => hk.elim) ?aF ?aO ?aB ?aS ?aL ?_
     (case aP => exact k105_mkM _ _ _ (⟨a2_0, a2_1, a2_2⟩ : S105))
     (case aB => exact (bt HB))
     (case aF => exact (fun k_ hk => Kd.freshB (g := gb564) (o := .cells #[.int .i64 a2_0, .int .i64 a2_1, .string a2_2] 105 (0, 0)) (bk BK564) k_ hk))
     (case aO => exact (rk HO577))
     (case aS => exact (below_size (bt HB)))
     (case aL => have := LMc25.out; omega)
     intro v579 w62 ho hb hg hat; rw [← Ny578.out] at ho
     have n0_ := ak (blk_grown (g := gb563) (o := .cells #[.int .i64 a0_0, .int .i64 a0_1, .slice A0_2 l0_2.length c0_2] 28 (0, 0)) (bk BK563) hg (Kd.R_ne HO577.out BK563.out (by decide)))
     have n1_ := ak (blk_grown (g := gb564) (o := .cells #[.int .i64 a2_0, .int .i64 a2_1, .string a2_2] 105 (0, 0)) (bk BK564) hg (Kd.R_away HO577.out (fun _ hk => hk)))
     have n2_ := ak (blk_grown (g := gb565) (o := .cells #[.int .i64 0, .int .i64 0, .slice none 0 0] 28 (0, 0)) (bk BK565) hg (Kd.R_ne HO577.out BK565.out (by decide)))
     have n3_ := ak (blk_grown (g := gb574) (o := .cells #[.int .i64 t569, .int .i64 t570, .slice Ao58 t571.length co58] 28 (0, 0)) (bk BK574) hg (Kd.R_ne HO577.out BK574.out (by decide)))
     have n4_ := ak hb; have n5_ := ak ho; clear BK563 BK564 BK565 BK574 HB HO577; revert n0_ n1_ n2_ n3_ n4_ n5_; intro BK563 BK564 BK565 BK574 HB HO580; clear ho hb hg hat; obtain ⟨Ao63, co63, eo63⟩ := Kd.R_slice HO580.out
     (first | subst eo63 | (injection eo63 with f1_ f2_ f3_; have f4_ := f1_.symm; have f5_ := f3_.symm; clear f1_ f2_ f3_; subst f4_; subst f5_))
     refine hK.out _ _ hp fun hHeld => ?_
     clear hK K; refine nm 36 ?_; refine pu HT_ 11 37 ?_
     refine last_ (i := 12) (N := none) #[true, true, true, true, true, true, true, true, true, true, true, true, true] rfl rfl (one_of HT_.out (by kernel_rfl)) (by decide) (fun K hK => ?_)
     have hs64 : w62.cell? ⟨gb574, 2, none⟩ = some (.slice Ao58 t571.length co58) := bc BK574 2; have hfs64 := blk_frozen BK574.out 2; have hns64_0 := NB563_574.out; have hns64_1 := NB564_574.out; have hns64_2 := NB565_574.out; have hms64_0 := NB574_563.out; have hms64_1 := NB574_564.out; have hms64_2 := NB574_565.out; refine sk ?_; refine hK.out _ _ ?_; clear hK K; refine dn HT_ ?_; obtain ⟨_, _, _, _, _, _⟩ := bc3 BK574
     try go_wp2_with (first | ((with_reducible refine gd 39 rfl ?_); refine gc 39 Tryz.func58 (impl_LogOk.calls kj3 t569 t570 _ _ y578 false _ ?s1 ?s2 A26.out) fun w66 hb => ?_; (case s1 => exact rcf HO580 BK574); (case s2 => exact (Kd.R_reads' HO580.out).2.1); replace HO580 := rfb HO580 BK574 hb; replace BK563 := bbg BK563 hb; replace BK564 := bbg BK564 hb; replace BK565 := bbg BK565 hb; replace BK574 := bbp BK574 hb #[.int .i64 t569, .int .i64 t570, .slice Ao63 y578.length co63]; replace HB := bs1 HB hb; have := NB565_564.out; have := NB564_565.out; obtain ⟨_, _, _, _, _, _⟩ := bc3 BK565))
     refine bodyPost_ret (results_ct rfl _ _ gb565 28 #[.int .i64 0, .int .i64 0, .slice none 0 0] (0, 0) _ rfl (bp BK565) Tryz.underlying28 rfl (by kernel_rfl)) rfl ?_
     exact ⟨_, by first | rfl | (simp [errW_none, errW_some] <;> rfl) | (simp only [← hji22]; first | rfl | (simp [errW_none, errW_some] <;> rfl)) | (simp [*, errW_none, errW_some] <;> rfl), by first | exact Kd.R_nil _ _ _ _ _ | exact Kd.N_nil _ _ _ _ _ | exact Kd.V_nil _ _ _ _ _ | exact Kd.Q_nil _ _ _ _ _ | exact Kd.S_nil _ _ _ _ _, bt HB⟩
    ·refine value_ (w1 := ?_) (v := ?_) (by rfl) rfl ?_ ?_
     rotate_left 2
     ·go_simp
      constructor
      ·rfl
      ·rfl
     refine hK.out _ _ ⟨(blk_cell (blk_alloc BK574.out _) 0).trans rfl, (blk_cell (blk_alloc BK574.out _) 1).trans rfl, (blk_cell (blk_alloc BK574.out _) 2).trans rfl, (blk_cell (blk_alloc BK563.out _) 0).trans rfl, (blk_cell (blk_alloc BK563.out _) 1).trans rfl, (blk_cell (blk_alloc BK563.out _) 2).trans rfl, (blk_cell (blk_alloc BK564.out _) 0).trans rfl, (blk_cell (blk_alloc BK564.out _) 1).trans rfl, (blk_cell (blk_alloc BK564.out _) 2).trans rfl⟩ fun hHeld => ?_
     clear hK K; refine nm 35 ?_
     refine on HT_ 10 36 fun K hK => ?_
     refine Kd.R_append_step k105 (w0 := w) w.heap.size (by rfl) (.tmp 33) (.tmp 35) 26 105 (.agg #[(.int .i64 0), (.int .i64 0), (.string ⟨#[]⟩)]) 32 rfl Tryz.underlying26 info105 rfl (by decide) (by omega) (.slice Ao58 y575.length co58) y575 (⟨a2_0, a2_1, a2_2⟩ : S105) [.int .i64 a2_0, .int .i64 a2_1, .string a2_2] (fun k_ => k_ ≠ gb564) (fun _ => False) rfl rfl ?aP (fun _ hk => hk.elim) ?aF ?aO ?aB ?aS ?aL ?_
     (case aP => exact k105_mkM _ _ _ (⟨a2_0, a2_1, a2_2⟩ : S105))
     (case aB => exact (bt HB))
     (case aF => exact (fun k_ hk => Kd.freshB (g := gb564) (o := .cells #[.int .i64 a2_0, .int .i64 a2_1, .string a2_2] 105 (0, 0)) (bk BK564) k_ hk))
     (case aO => exact (rk HO577))
     (case aS => exact (below_size (bt HB)))
     (case aL => have := LMc25.out; omega)
     intro v579 w41 ho hb hg hat; rw [← Ny578.out] at ho
     have n0_ := ak (blk_grown (g := gb563) (o := .cells #[.int .i64 a0_0, .int .i64 a0_1, .slice A0_2 l0_2.length c0_2] 28 (0, 0)) (bk BK563) hg (Kd.R_ne HO577.out BK563.out (by decide)))
     have n1_ := ak (blk_grown (g := gb564) (o := .cells #[.int .i64 a2_0, .int .i64 a2_1, .string a2_2] 105 (0, 0)) (bk BK564) hg (Kd.R_away HO577.out (fun _ hk => hk)))
     have n2_ := ak (blk_grown (g := gb565) (o := .cells #[.int .i64 0, .int .i64 0, .slice none 0 0] 28 (0, 0)) (bk BK565) hg (Kd.R_ne HO577.out BK565.out (by decide)))
     have n3_ := ak (blk_grown (g := gb574) (o := .cells #[.int .i64 t569, .int .i64 t570, .slice Ao58 t571.length co58] 28 (0, 0)) (bk BK574) hg (Kd.R_ne HO577.out BK574.out (by decide)))
     have n4_ := ak hb; have n5_ := ak ho; clear BK563 BK564 BK565 BK574 HB HO577; revert n0_ n1_ n2_ n3_ n4_ n5_; intro BK563 BK564 BK565 BK574 HB HO580; clear ho hb hg hat; obtain ⟨Ao42, co42, eo42⟩ := Kd.R_slice HO580.out
     (first | subst eo42 | (injection eo42 with f1_ f2_ f3_; have f4_ := f1_.symm; have f5_ := f3_.symm; clear f1_ f2_ f3_; subst f4_; subst f5_))
     refine hK.out _ _ hp fun hHeld => ?_
     clear hK K; refine nm 36 ?_; refine pu HT_ 11 37 ?_
     refine last_ (i := 12) (N := none) #[true, true, true, true, true, true, true, true, true, true, true, true, true] rfl rfl (one_of HT_.out (by kernel_rfl)) (by decide) (fun K hK => ?_)
     have hs43 : w41.cell? ⟨gb574, 2, none⟩ = some (.slice Ao58 t571.length co58) := bc BK574 2; have hfs43 := blk_frozen BK574.out 2; have hns43_0 := NB563_574.out; have hns43_1 := NB564_574.out; have hns43_2 := NB565_574.out; have hms43_0 := NB574_563.out; have hms43_1 := NB574_564.out; have hms43_2 := NB574_565.out; refine sk ?_; refine hK.out _ _ ?_; clear hK K; refine dn HT_ ?_; obtain ⟨_, _, _, _, _, _⟩ := bc3 BK574
     try go_wp2_with (first | ((with_reducible refine gd 39 rfl ?_); refine gc 39 Tryz.func58 (impl_LogOk.calls kj3 t569 t570 _ _ y578 true _ ?s1 ?s2 A26.out) fun w45 hb => ?_; (case s1 => exact rcf HO580 BK574); (case s2 => exact (Kd.R_reads' HO580.out).2.1); replace HO580 := rfb HO580 BK574 hb; replace BK563 := bbg BK563 hb; replace BK564 := bbg BK564 hb; replace BK565 := bbg BK565 hb; replace BK574 := bbp BK574 hb #[.int .i64 t569, .int .i64 t570, .slice Ao42 y578.length co42]; replace HB := bs1 HB hb; obtain ⟨_, _, _, _, _, _⟩ := bc3 BK574; have := NB565_564.out; have := NB564_565.out; obtain ⟨_, _, _, _, _, _⟩ := bc3 BK565))
     refine bodyPost_ret (results_ct rfl _ _ gb565 28 #[.int .i64 t569, .int .i64 t570, .slice Ao42 y578.length co42] (0, 0) _ rfl (bp BK565) Tryz.underlying28 rfl (by kernel_rfl)) rfl ?_
     exact ⟨_, by first | rfl | (simp [errW_none, errW_some] <;> rfl) | (simp only [← hji22]; first | rfl | (simp [errW_none, errW_some] <;> rfl)) | (simp [*, errW_none, errW_some] <;> rfl), by (with_reducible repeat (first | apply Kd.R_alloc | apply Kd.R_drewN | apply Kd.R_drew)); exact rfm HO580 BK565, bt HB⟩
end Go.Proofs.YtdepaileabejgaaGreatDoor.PFnExactOpenJournal
