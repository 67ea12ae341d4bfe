/- Walks. No condition. -/
import Derived.Test.YtdepaileabejgaaGreatDoorQFnExactOpenJournalx9
namespace Go.Proofs.YtdepaileabejgaaGreatDoor.PFnExactOpenJournal
open Go.RowKit Go.Proofs.YtdepaileabejgaaGreatDoorW.PrintWords Go.Proofs.YtdepaileabejgaaGreatDoorW.PrintLast Go.Proofs.YtdepaileabejgaaGreatDoorW.PrintMore Go.Proofs.YtdepaileabejgaaGreatDoorW.Short
attribute [local go_sem] max2_int min2_int max_two min_two max_three min_three max_four min_four
set_option maxHeartbeats 8000000
set_option maxRecDepth 100000
set_option linter.unusedVariables false
set_option linter.unusedSimpArgs false
def spec_LogPut.j0 : Nat → Int → Bool → Int → Int → List (S105) → Int → Int → ByteArray → Option (Int × Int × (List (S105)) × Bool)
 | 0, _, _, _, _, _, _, _, _ => none
 | k + 1, x1, x22, x250000, x250001, x250002, x251000, x251001, x251002 => if x22 = true then (some (0, 0, ([] : List (S105)), false)) else ((some (([] : List (S105)) : List (S105))).bind fun y255 => (if 0 ≤ (wrap64 ((wrap64 (x1 - x250000)) - 1)) then (if (wrap64 ((wrap64 (x1 - x250000)) - 1)) ≤ (x250002.length : Int) then ((some (x250002.take ((wrap64 ((wrap64 (x1 - x250000)) - 1)) : Int).toNat : List (S105))).bind fun y258 => (if y255.length + y258.length < 4398046511104 then ((some (y255 ++ y258 : List (S105))).bind fun y262 => ((some (([(⟨x251000, x251001, x251002⟩ : S105)] : List (S105)) : List (S105))).bind fun y265 => (if y262.length + y265.length < 4398046511104 then ((some (y262 ++ y265 : List (S105))).bind fun y268 => ((spec_LogOk.f k x250000 x250001 y268).bind fun t272 => (if t272 = true then (some (x250000, x250001, y268, true)) else (some (0, 0, ([] : List (S105)), false))))) else (none)))) else (none))) else (none)) else (none)))
def spec_LogPut.f (k : Nat) (a0_0 : Int) (a0_1 : Int) (l0_2 : List (S105)) (a1 : Int) (a2_0 : Int) (a2_1 : Int) (a2_2 : ByteArray) : Option (Int × Int × (List (S105)) × Bool) := (spec_LogOk.f k a0_0 a0_1 l0_2).bind fun t252 => (if t252 = true then ((spec_l06Last.f a0_0 a0_1 l0_2).bind fun t253 => ((spec_l01In.f a1 (wrap64 (a0_0 + 1)) (wrap64 (t253 + 1))).bind fun t254 => (spec_LogPut.j0 k a1 (!t254) a0_0 a0_1 l0_2 a2_0 a2_1 a2_2))) else (spec_LogPut.j0 k a1 true a0_0 a0_1 l0_2 a2_0 a2_1 a2_2))
def spec_LogPut.T1 : Bool × List (List Nat × List Nat) := (true, [([], []), ([0], [0]), ([1], [1]), ([2, 1], [2]), ([3], [3]), ([3], [3]), ([5, 3], [3, 5]), ([6, 3], [3, 6]), ([3], [3]), ([8, 3, 3], [3, 8]), ([9, 3], [3, 9]), ([4, 7, 10, 9, 3], [3, 4, 7, 10]), ([11, 3], [3, 11]), ([3, 12], [3, 12])])
def spec_LogPut.B1 : List Nat := [0, 1, 3, 7, 15, 15, 47, 111, 15, 271, 783, 2047, 4095, 8191]
theorem spec_LogPut.tab1 : rtab .any (opsOf Tryz.f73 1) = spec_LogPut.T1 := by kernel_rfl
theorem spec_LogPut.bits1 : waitsOk spec_LogPut.T1.2 spec_LogPut.B1 = true := by kernel_rfl
def spec_LogPut.T3 : Bool × List (List Nat × List Nat) := (true, [([], []), ([0], [0]), ([], []), ([2], [2]), ([], []), ([], []), ([5], [5]), ([], []), ([], []), ([8], [8]), ([7, 9], [7, 9]), ([10], [10]), ([6, 11], [6, 11]), ([4, 12], [4, 12]), ([], []), ([14], [14]), ([13, 15, 13], [13, 15]), ([1, 3, 16], [1, 3, 16]), ([], []), ([18, 17, 16, 0, 1, 2, 3, 4, 5, 6, 7, 8, 9, 10, 11, 12, 13, 14, 15, 16, 17, 18], [17, 18])])
def spec_LogPut.B3 : List Nat := [0, 1, 0, 4, 0, 0, 32, 0, 0, 256, 896, 1920, 4064, 8176, 0, 16384, 65520, 131071, 0, 524287]
theorem spec_LogPut.tab3 : rtab .any (opsOf Tryz.f73 3) = spec_LogPut.T3 := by kernel_rfl
theorem spec_LogPut.bits3 : waitsOk spec_LogPut.T3.2 spec_LogPut.B3 = true := by kernel_rfl
set_option maxHeartbeats 80000000 in
set_option maxRecDepth 100000 in
theorem spec_LogPut.calls (k : Nat) (a0_0 : Int) (a0_1 : Int) (A0_2 : Option Addr) (c0_2 : Nat) (l0_2 : List (S105)) (a1 : Int) (a2_0 : Int) (a2_1 : Int) (a2_2 : ByteArray) (r1 : Int) (r2 : Int) (r3 : List (S105)) (r4 : Bool) (w : World) (hr0_2 : Kd.C k105 w A0_2 l0_2.length l0_2) (hc0_2 : l0_2.length ≤ c0_2) (H : spec_LogPut.f k a0_0 a0_1 l0_2 a1 a2_0 a2_1 a2_2 = some (r1, r2, r3, r4)) :
 Calls Tryz.prog 73 #[.agg #[.int .i64 a0_0, .int .i64 a0_1, .slice A0_2 l0_2.length c0_2], .int .i64 a1, .agg #[.int .i64 a2_0, .int .i64 a2_1, .string a2_2]] w fun e w' => ∃ v2_ : Value, e = .returned (.tuple #[.agg #[.int .i64 r1, .int .i64 r2, v2_], .bool r4]) ∧ Kd.R k105 105 w' w.heap.size (fun _ => True) v2_ r3 ∧ Below w.heap.size w w' := by
 have hu28 := Tryz.underlying28; have hu105 := Tryz.underlying105; have HR0_2 := ak hr0_2; have HC0_2 := ak hc0_2; clear hr0_2 hc0_2; have HB := ak (Below.refl w.heap.size w); unfold spec_LogPut.f at H; have HC4 := ak H; clear H; go_enter Tryz.func73, Tryz.ntmps73
 go_upto_region 1 with (first | ((with_reducible refine gd 3 rfl ?_); refine bx 3 28 #[.int .i64 a0_0, .int .i64 a0_1, .slice A0_2 l0_2.length c0_2] fun gb249 hg w5 BK249 hb => ?_; have GE249 := ge_ hg HB; replace HB := bs1 HB hb; clear hb hg) | ((with_reducible refine gd 5 rfl ?_); refine bx 5 105 #[.int .i64 a2_0, .int .i64 a2_1, .string a2_2] fun gb250 hg w6 BK250 hb => ?_; have GE250 := ge_ hg HB; replace HB := bs1 HB hb; have NB249_250 := nl_ hg BK249; have NB250_249 := nr_ hg BK249; replace BK249 := bb BK249 hb; clear hb hg) | ((with_reducible refine gd 6 rfl ?_); refine bx 6 28 #[.int .i64 0, .int .i64 0, .slice none 0 0] fun gb251 hg w7 BK251 hb => ?_; have GE251 := ge_ hg HB; replace HB := bs1 HB hb; have NB249_251 := nl_ hg BK249; have NB251_249 := nr_ hg BK249; replace BK249 := bb BK249 hb; have NB250_251 := nl_ hg BK250; have NB251_250 := nr_ hg BK250; replace BK250 := bb BK250 hb; clear hb hg))
 (try simp only [Act.put, zA, zB, zC])
 go_cut [22] (fun v22 wc => ∃ (kq : Nat) (x22_3 : Bool), v22 = .bool x22_3 ∧ Aside0 (spec_LogPut.j0 kq a1 x22_3 a0_0 a0_1 l0_2 a2_0 a2_1 a2_2 = some (r1, r2, r3, r4)) ∧ Aside0 (kq ≤ k) ∧ Aside0 (wc.heap[gb249]? = some (.cells #[.int .i64 a0_0, .int .i64 a0_1, (.slice A0_2 l0_2.length c0_2)] 28 (0, 0))) ∧ Aside0 (wc.heap[gb250]? = some (.cells #[.int .i64 a2_0, .int .i64 a2_1, .string a2_2] 105 (0, 0))) ∧ Aside0 (wc.heap[gb251]? = some (.cells #[.int .i64 0, .int .i64 0, (.slice none 0 0)] 28 (0, 0))) ∧ Aside0 (Below w.heap.size w wc))
 case first =>
  have H := HC4.out; clear HC4; obtain ⟨t252, A8, H⟩ := bo H; cases t252; rotate_left; rw [if_pos rfl] at H; obtain ⟨t253, A10, H⟩ := bo H; obtain ⟨t254, A11, H⟩ := bo H; have H' := ak H; clear H; rotate_left; rw [if_neg nf] at H; have H' := ak H; clear H
  all_goals
   try go_wp2
   replace BK249 := ak (blk_drew BK249.out); replace BK250 := ak (blk_drew BK250.out); replace BK251 := ak (blk_drew BK251.out); replace HB := ak (below_drew1 HB.out)
   refine st 14 (fun w' => d3 w' gb249 (.int .i64 a0_0) (.int .i64 a0_1) (.slice A0_2 l0_2.length c0_2)) spec_LogPut.tab1 spec_LogPut.bits1 hp fun hHeld HT_ HW_ => ?_
   generalize w7.drew = w15 at BK249 BK250 BK251 HB hHeld ⊢
   refine tk HT_ HW_ hHeld 0 9 ?_
   refine on HT_ 1 10 fun K hK => ?_
   refine gq Tryz.func47 (spec_LogOk.calls k a0_0 a0_1 _ _ l0_2 _ _ ?s1 ?s2 A8.out) fun w16 hb => ?_; (case s1 => exact ca HR0_2 HB); (case s2 => exact HC0_2.out); replace BK249 := bb BK249 hb; replace BK250 := bb BK250 hb; replace BK251 := bb BK251 hb; replace HB := bs1 HB hb
   refine hK.out _ _ hp fun hHeld => ?_
   clear hK K; refine nm 10 ?_; refine pu HT_ 2 11 ?_; refine pu HT_ 3 12 ?_
  ·refine pz HT_ 4 13 ?_; refine pz HT_ 5 14 ?_; refine pz HT_ 6 15 ?_; refine pz HT_ 7 16 ?_; refine pz HT_ 8 17 ?_; refine pz HT_ 9 18 ?_; refine pz HT_ 10 19 ?_; refine pz HT_ 11 20 ?_; refine pz HT_ 12 21 ?_; refine pu HT_ 13 22 ?_; refine dn HT_ ?_
   try go_wp2
   go_meet
   case rel => exact ⟨_, (true), fr, H', ⟨by first | omega | exact Nat.le_refl _⟩, ⟨bk BK249⟩, ⟨bk BK250⟩, ⟨bk BK251⟩, ⟨bt HB⟩⟩
  ·refine pu HT_ 4 13 ?_; refine pu HT_ 5 14 ?_; refine tk HT_ HW_ hHeld 6 15 ?_; refine pu HT_ 7 16 ?_; refine tk HT_ HW_ hHeld 8 17 ?_
   refine on HT_ 9 18 fun K hK => ?_
   refine gq Tryz.func101 (spec_l06Last.calls a0_0 a0_1 _ _ l0_2 t253 _ ?s1 ?s2 A10.out) fun w14 hb => ?_; (case s1 => exact ca HR0_2 HB); (case s2 => exact HC0_2.out); replace BK249 := bb BK249 hb; replace BK250 := bb BK250 hb; replace BK251 := bb BK251 hb; replace HB := bs1 HB hb
   refine hK.out _ _ hp fun hHeld => ?_
   clear hK K; refine nm 18 ?_; refine pu HT_ 10 19 ?_
   refine on HT_ 11 20 fun K hK => ?_
   refine gq Tryz.func42 (spec_l01In.calls a1 (wrap64 (a0_0 + 1)) (wrap64 (t253 + 1)) t254 _ A11.out) fun w' h_ => ?_; obtain ⟨nd, rfl⟩ := h_
   refine hK.out _ _ hp fun hHeld => ?_
   clear hK K; refine nm 20 ?_; refine pu HT_ 12 21 ?_; refine pu HT_ 13 22 ?_; refine dn HT_ ?_
   try go_wp2
   go_meet
   case rel => exact ⟨_, (!t254), fr, H', ⟨by first | omega | exact Nat.le_refl _⟩, ⟨bk BK249⟩, ⟨bk BK250⟩, ⟨bk BK251⟩, ⟨bt HB⟩⟩
 case rest =>
  clear HC4; obtain ⟨kq, x22_3, rfl, HA, HJ3, BK249, BK250, BK251, HB⟩ := hcut
  cases kq with
  | zero => exact absurd HA.out (by simp [spec_LogPut.j0])
  | succ kj3 =>
   have H := HA.out; clear HA; simp only [spec_LogPut.j0] at H; cases x22_3; rotate_left
   ·rw [if_pos rfl] at H; obtain ⟨rfl, rfl, rfl, rfl⟩ := o4 H; have := NB251_249.out; have := NB249_251.out; have := NB251_250.out; have := NB250_251.out; obtain ⟨_, _, _, _, _, _⟩ := bc3 BK251; go_wp2
    refine bodyPost_ret (results_ct rfl _ _ gb251 28 #[.int .i64 0, .int .i64 0, .slice none 0 0] (0, 0) _ rfl (bp BK251) Tryz.underlying28 rfl (by kernel_rfl)) rfl ?_
    exact ⟨_, fe, by first | exact Kd.R_nil _ _ _ _ _ | exact Kd.N_nil _ _ _ _ _ | exact Kd.V_nil _ _ _ _ _ | exact Kd.Q_nil _ _ _ _ _ | exact Kd.S_nil _ _ _ _ _, bt HB⟩
   ·rw [if_neg nf] at H; obtain ⟨y255, Ny255, H⟩ := bsx H; obtain ⟨ji21, hji21, hji21w⟩ := jj ((wrap64 (a1 - a0_0)) - 1)
    first | rw [hji21] at H | simp only [hji21] at H
    obtain ⟨c22, H⟩ := ifs H; have c22b0 := eq_true c22; have c22b1 := dt c22; clear c22; obtain ⟨c23, H⟩ := ifs H; have c23b0 := eq_true c23; have c23b1 := dt c23; clear c23; obtain ⟨y258, hy258⟩ : ∃ y_ : List (S105), y_ = (l0_2.take ((ji21) : Int).toNat) := ⟨_, rfl⟩
    first | replace H := bs hy258 H | rw [← hy258] at H
    have Ny258 := ak hy258; clear hy258; obtain ⟨c24, H⟩ := ifs H; have LMc24 := ak c24; clear c24; obtain ⟨y262, hy262⟩ : ∃ y_ : List (S105), y_ = (y255 ++ y258) := ⟨_, rfl⟩
    first | replace H := bs hy262 H | rw [← hy262] at H
    have Ny262 := ak hy262; clear hy262; obtain ⟨y265, Ny265, H⟩ := bsx H; obtain ⟨c25, H⟩ := ifs H; have LMc25 := ak c25; clear c25; obtain ⟨y268, hy268⟩ : ∃ y_ : List (S105), y_ = (y262 ++ y265) := ⟨_, rfl⟩
    first | replace H := bs hy268 H | rw [← hy268] at H
    have Ny268 := ak hy268; clear hy268; obtain ⟨t272, A26, H⟩ := bo H
    by_cases c27 : t272 = true
    case' pos =>
     subst c27; rw [if_pos rfl] at H; obtain ⟨rfl, rfl, rfl, rfl⟩ := o4 H
    case' neg =>
     replace c27 := Bool.eq_false_iff.mpr c27; subst c27; rw [if_neg nf] at H; obtain ⟨rfl, rfl, rfl, rfl⟩ := o4 H
    all_goals
     try go_wp2
     replace BK249 := ak (blk_drew BK249.out); replace BK250 := ak (blk_drew BK250.out); replace BK251 := ak (blk_drew BK251.out); replace HB := ak (below_drew1 HB.out); have q29 : ((ji21) : Int) ≤ ((l0_2.length : Int) : Int) := da; obtain ⟨i029, hi029, _, hsz29, _⟩ := info_parts info105; have hroom29 : l0_2.length ≤ c0_2 := HC0_2.out; have hC29 : Kd.C k105 _ A0_2 l0_2.length l0_2 := HR0_2.out; have hcut29 := cut_to (P := Tryz.prog) 26 105 .i64 Tryz.underlying26 hi029 A0_2 l0_2.length c0_2 (ji21) (da) q29 hroom29
     have hr29 := Kd.C_take (m := ((ji21) : Int).toNat) hC29 (by omega)
     have hy29 : y258.length = ((ji21) : Int).toNat := (by rw [Ny258.out, List.length_take]; omega)
     rw [← Ny258.out] at hr29; rw [← hy29] at hcut29; have HR261 := ak hr29
     have HC261 := ak (show y258.length ≤ c0_2 from by omega)
     clear hr29 hC29 hroom29 hi029 hsz29; have KY29 := ak hy29; clear hy29; replace q29 := eq_true q29
     refine st 20 (fun w' => c3 w' gb249 (.int .i64 a0_0) (.int .i64 a0_1) (.slice A0_2 l0_2.length c0_2) (d3 w' gb250 (.int .i64 a2_0) (.int .i64 a2_1) (.string a2_2))) spec_LogPut.tab3 spec_LogPut.bits3 hp fun hHeld HT_ HW_ => ?_
     generalize wc.drew = w28 at BK249 BK250 BK251 HB HR261 hHeld ⊢
     refine pu HT_ 0 24 ?_; refine pu HT_ 2 26 ?_; refine pu HT_ 5 29 ?_; refine pu HT_ 7 31 ?_; refine pu HT_ 8 32 ?_; refine tk HT_ HW_ hHeld 1 25 ?_; refine tk HT_ HW_ hHeld 3 27 ?_; refine tk HT_ HW_ hHeld 6 30 ?_; refine tk HT_ HW_ hHeld 9 33 ?_; refine pu HT_ 10 34 ?_; refine pu HT_ 11 35 ?_; refine pu HT_ 12 36 ?_; refine tk HT_ HW_ hHeld 14 38 ?_
     refine join_ (σ := Value × Value × Value × Value × Nat) 1 #[true, true, true, true, true, true, true, true, true, true, true, true, true, true, true, true, true, true, true, false] (fun s_ => [(28, s_.1), (37, s_.2.1), (39, s_.2.2.1), (40, s_.2.2.2.1), (8, .pointer (some ⟨s_.2.2.2.2, 0, none⟩)), (41, .agg #[.int .i64 a0_0, .int .i64 a0_1, s_.2.2.2.1])]) (fun s_ w' => (c3 w' gb249 (.int .i64 a0_0) (.int .i64 a0_1) (.slice A0_2 l0_2.length c0_2) (d3 w' gb250 (.int .i64 a2_0) (.int .i64 a2_1) (.string a2_2))) ∧ (Kd.R k105 105 w' w.heap.size (fun k_ => some k_ ≠ (s_.2.2.2.1 : Value).ownBlock ∧ k_ ≠ gb250) s_.2.2.1 y265) ∧ (Kd.R k105 105 w' w.heap.size (fun k_ => some k_ ≠ (s_.2.2.1 : Value).ownBlock ∧ k_ ≠ gb250) s_.2.2.2.1 y268) ∧ (w'.heap[gb249]? = some (.cells #[.int .i64 a0_0, .int .i64 a0_1, .slice A0_2 l0_2.length c0_2] 28 (0, 0))) ∧ (w'.heap[gb250]? = some (.cells #[.int .i64 a2_0, .int .i64 a2_1, .string a2_2] 105 (0, 0))) ∧ (w'.heap[gb251]? = some (.cells #[.int .i64 0, .int .i64 0, .slice none 0 0] 28 (0, 0))) ∧ (w'.heap[s_.2.2.2.2]? = some (.cells #[.int .i64 0, .int .i64 0, .slice none 0 0] 28 (0, 0))) ∧ (w.heap.size ≤ s_.2.2.2.2) ∧ (w.heap.size ≤ s_.2.2.2.2) ∧ (gb249 ≠ s_.2.2.2.2) ∧ (s_.2.2.2.2 ≠ gb249) ∧ (gb250 ≠ s_.2.2.2.2) ∧ (s_.2.2.2.2 ≠ gb250) ∧ (gb251 ≠ s_.2.2.2.2) ∧ (s_.2.2.2.2 ≠ gb251) ∧ (Below w.heap.size w w')) ?_ ?_
     rotate_left
     ·intro hJ4_13_15_16_18
      refine join_ (σ := Value × Value × Value × Value) 2 #[true, true, true, true, true, true, true, true, true, true, true, true, true, true, true, true, true, true, false, false] (fun s_ => [(28, s_.1), (37, s_.2.1), (39, s_.2.2.1), (40, s_.2.2.2), (41, .agg #[.int .i64 a0_0, .int .i64 a0_1, s_.2.2.2])]) (fun s_ w' => (c3 w' gb249 (.int .i64 a0_0) (.int .i64 a0_1) (.slice A0_2 l0_2.length c0_2) (d3 w' gb250 (.int .i64 a2_0) (.int .i64 a2_1) (.string a2_2))) ∧ (Kd.R k105 105 w' w.heap.size (fun k_ => some k_ ≠ (s_.2.2.2 : Value).ownBlock ∧ k_ ≠ gb250) s_.2.2.1 y265) ∧ (Kd.R k105 105 w' w.heap.size (fun k_ => some k_ ≠ (s_.2.2.1 : Value).ownBlock ∧ k_ ≠ gb250) s_.2.2.2 y268) ∧ (w'.heap[gb249]? = some (.cells #[.int .i64 a0_0, .int .i64 a0_1, .slice A0_2 l0_2.length c0_2] 28 (0, 0))) ∧ (w'.heap[gb250]? = some (.cells #[.int .i64 a2_0, .int .i64 a2_1, .string a2_2] 105 (0, 0))) ∧ (w'.heap[gb251]? = some (.cells #[.int .i64 0, .int .i64 0, .slice none 0 0] 28 (0, 0))) ∧ (Below w.heap.size w w')) ?_ ?_
      rotate_left
      ·intro hJ4_13_15_16
       refine join_ (σ := Value × Value × Value × Nat) 3 #[true, true, true, true, true, true, true, true, true, true, true, true, true, true, true, true, false, false, true, false] (fun s_ => [(28, s_.1), (37, s_.2.1), (39, s_.2.2.1), (8, .pointer (some ⟨s_.2.2.2, 0, none⟩))]) (fun s_ w' => (c3 w' gb249 (.int .i64 a0_0) (.int .i64 a0_1) (.slice A0_2 l0_2.length c0_2) (d3 w' gb250 (.int .i64 a2_0) (.int .i64 a2_1) (.string a2_2))) ∧ (Kd.R k105 105 w' w.heap.size (fun k_ => some k_ ≠ (s_.2.2.1 : Value).ownBlock ∧ k_ ≠ gb250) s_.2.1 y262) ∧ (Kd.R k105 105 w' w.heap.size (fun k_ => some k_ ≠ (s_.2.1 : Value).ownBlock ∧ k_ ≠ gb250) s_.2.2.1 y265) ∧ (w'.heap[gb249]? = some (.cells #[.int .i64 a0_0, .int .i64 a0_1, .slice A0_2 l0_2.length c0_2] 28 (0, 0))) ∧ (w'.heap[gb250]? = some (.cells #[.int .i64 a2_0, .int .i64 a2_1, .string a2_2] 105 (0, 0))) ∧ (w'.heap[gb251]? = some (.cells #[.int .i64 0, .int .i64 0, .slice none 0 0] 28 (0, 0))) ∧ (w'.heap[s_.2.2.2]? = some (.cells #[.int .i64 0, .int .i64 0, .slice none 0 0] 28 (0, 0))) ∧ (w.heap.size ≤ s_.2.2.2) ∧ (w.heap.size ≤ s_.2.2.2) ∧ (gb249 ≠ s_.2.2.2) ∧ (s_.2.2.2 ≠ gb249) ∧ (gb250 ≠ s_.2.2.2) ∧ (s_.2.2.2 ≠ gb250) ∧ (gb251 ≠ s_.2.2.2) ∧ (s_.2.2.2 ≠ gb251) ∧ (Below w.heap.size w w')) ?_ ?_
       rotate_left
       ·intro hJ4_13_15_18
        refine join_ (σ := Value × Value × Value) 4 #[true, true, true, true, true, true, true, true, true, true, true, true, true, true, true, true, false, false, false, false] (fun s_ => [(28, s_.1), (37, s_.2.1), (39, s_.2.2)]) (fun s_ w' => (c3 w' gb249 (.int .i64 a0_0) (.int .i64 a0_1) (.slice A0_2 l0_2.length c0_2) (d3 w' gb250 (.int .i64 a2_0) (.int .i64 a2_1) (.string a2_2))) ∧ (Kd.R k105 105 w' w.heap.size (fun k_ => some k_ ≠ (s_.2.2 : Value).ownBlock ∧ k_ ≠ gb250) s_.2.1 y262) ∧ (Kd.R k105 105 w' w.heap.size (fun k_ => some k_ ≠ (s_.2.1 : Value).ownBlock ∧ k_ ≠ gb250) s_.2.2 y265) ∧ (w'.heap[gb249]? = some (.cells #[.int .i64 a0_0, .int .i64 a0_1, .slice A0_2 l0_2.length c0_2] 28 (0, 0))) ∧ (w'.heap[gb250]? = some (.cells #[.int .i64 a2_0, .int .i64 a2_1, .string a2_2] 105 (0, 0))) ∧ (w'.heap[gb251]? = some (.cells #[.int .i64 0, .int .i64 0, .slice none 0 0] 28 (0, 0))) ∧ (Below w.heap.size w w')) ?_ ?_
        rotate_left
        ·intro hJ4_13_15
         refine join_ (σ := Value × Value × Nat) 4 #[true, true, true, true, true, true, true, true, true, true, true, true, true, true, true, false, false, false, true, false] (fun s_ => [(28, s_.1), (37, s_.2.1), (8, .pointer (some ⟨s_.2.2, 0, none⟩))]) (fun s_ w' => (c3 w' gb249 (.int .i64 a0_0) (.int .i64 a0_1) (.slice A0_2 l0_2.length c0_2) (d3 w' gb250 (.int .i64 a2_0) (.int .i64 a2_1) (.string a2_2))) ∧ (Kd.R k105 105 w' w.heap.size (fun k_ => k_ ≠ gb250) s_.2.1 y262) ∧ (w'.heap[gb249]? = some (.cells #[.int .i64 a0_0, .int .i64 a0_1, .slice A0_2 l0_2.length c0_2] 28 (0, 0))) ∧ (w'.heap[gb250]? = some (.cells #[.int .i64 a2_0, .int .i64 a2_1, .string a2_2] 105 (0, 0))) ∧ (w'.heap[gb251]? = some (.cells #[.int .i64 0, .int .i64 0, .slice none 0 0] 28 (0, 0))) ∧ (w'.heap[s_.2.2]? = some (.cells #[.int .i64 0, .int .i64 0, .slice none 0 0] 28 (0, 0))) ∧ (w.heap.size ≤ s_.2.2) ∧ (w.heap.size ≤ s_.2.2) ∧ (gb249 ≠ s_.2.2) ∧ (s_.2.2 ≠ gb249) ∧ (gb250 ≠ s_.2.2) ∧ (s_.2.2 ≠ gb250) ∧ (gb251 ≠ s_.2.2) ∧ (s_.2.2 ≠ gb251) ∧ (Below w.heap.size w w')) ?_ ?_
         rotate_left
         ·intro hJ4_13_18
          refine join_ (σ := Value × Value × Nat) 4 #[true, true, true, true, true, true, true, true, true, true, true, true, true, false, true, true, false, false, true, false] (fun s_ => [(28, s_.1), (39, s_.2.1), (8, .pointer (some ⟨s_.2.2, 0, none⟩))]) (fun s_ w' => (c3 w' gb249 (.int .i64 a0_0) (.int .i64 a0_1) (.slice A0_2 l0_2.length c0_2) (d3 w' gb250 (.int .i64 a2_0) (.int .i64 a2_1) (.string a2_2))) ∧ (Kd.R k105 105 w' w.heap.size (fun k_ => some k_ ≠ (s_.2.1 : Value).ownBlock ∧ k_ ≠ gb250) s_.1 y255) ∧ (Kd.R k105 105 w' w.heap.size (fun k_ => some k_ ≠ (s_.1 : Value).ownBlock ∧ k_ ≠ gb250) s_.2.1 y265) ∧ (w'.heap[gb249]? = some (.cells #[.int .i64 a0_0, .int .i64 a0_1, .slice A0_2 l0_2.length c0_2] 28 (0, 0))) ∧ (w'.heap[gb250]? = some (.cells #[.int .i64 a2_0, .int .i64 a2_1, .string a2_2] 105 (0, 0))) ∧ (w'.heap[gb251]? = some (.cells #[.int .i64 0, .int .i64 0, .slice none 0 0] 28 (0, 0))) ∧ (w'.heap[s_.2.2]? = some (.cells #[.int .i64 0, .int .i64 0, .slice none 0 0] 28 (0, 0))) ∧ (w.heap.size ≤ s_.2.2) ∧ (w.heap.size ≤ s_.2.2) ∧ (gb249 ≠ s_.2.2) ∧ (s_.2.2 ≠ gb249) ∧ (gb250 ≠ s_.2.2) ∧ (s_.2.2 ≠ gb250) ∧ (gb251 ≠ s_.2.2) ∧ (s_.2.2 ≠ gb251) ∧ (Below w.heap.size w w')) ?_ ?_
          rotate_left
          ·intro hJ4_15_18
           refine join_ (σ := Value × Value) 5 #[true, true, true, true, true, true, true, true, true, true, true, true, true, true, true, false, false, false, false, false] (fun s_ => [(28, s_.1), (37, s_.2)]) (fun s_ w' => (c3 w' gb249 (.int .i64 a0_0) (.int .i64 a0_1) (.slice A0_2 l0_2.length c0_2) (d3 w' gb250 (.int .i64 a2_0) (.int .i64 a2_1) (.string a2_2))) ∧ (Kd.R k105 105 w' w.heap.size (fun k_ => k_ ≠ gb250) s_.2 y262) ∧ (w'.heap[gb249]? = some (.cells #[.int .i64 a0_0, .int .i64 a0_1, .slice A0_2 l0_2.length c0_2] 28 (0, 0))) ∧ (w'.heap[gb250]? = some (.cells #[.int .i64 a2_0, .int .i64 a2_1, .string a2_2] 105 (0, 0))) ∧ (w'.heap[gb251]? = some (.cells #[.int .i64 0, .int .i64 0, .slice none 0 0] 28 (0, 0))) ∧ (Below w.heap.size w w')) ?_ ?_
           rotate_left
           ·intro hJ4_13
            refine join_ (σ := Value × Value) 5 #[true, true, true, true, true, true, true, true, true, true, true, true, true, false, true, true, false, false, false, false] (fun s_ => [(28, s_.1), (39, s_.2)]) (fun s_ w' => (c3 w' gb249 (.int .i64 a0_0) (.int .i64 a0_1) (.slice A0_2 l0_2.length c0_2) (d3 w' gb250 (.int .i64 a2_0) (.int .i64 a2_1) (.string a2_2))) ∧ (Kd.R k105 105 w' w.heap.size (fun k_ => some k_ ≠ (s_.2 : Value).ownBlock ∧ k_ ≠ gb250) s_.1 y255) ∧ (Kd.R k105 105 w' w.heap.size (fun k_ => some k_ ≠ (s_.1 : Value).ownBlock ∧ k_ ≠ gb250) s_.2 y265) ∧ (w'.heap[gb249]? = some (.cells #[.int .i64 a0_0, .int .i64 a0_1, .slice A0_2 l0_2.length c0_2] 28 (0, 0))) ∧ (w'.heap[gb250]? = some (.cells #[.int .i64 a2_0, .int .i64 a2_1, .string a2_2] 105 (0, 0))) ∧ (w'.heap[gb251]? = some (.cells #[.int .i64 0, .int .i64 0, .slice none 0 0] 28 (0, 0))) ∧ (Below w.heap.size w w')) ?_ ?_
            rotate_left
            ·intro hJ4_15
             refine join_ (σ := Value × Nat) 5 #[true, true, true, true, true, true, true, true, true, true, true, true, true, false, true, false, false, false, true, false] (fun s_ => [(28, s_.1), (8, .pointer (some ⟨s_.2, 0, none⟩))]) (fun s_ w' => (c3 w' gb249 (.int .i64 a0_0) (.int .i64 a0_1) (.slice A0_2 l0_2.length c0_2) (d3 w' gb250 (.int .i64 a2_0) (.int .i64 a2_1) (.string a2_2))) ∧ (Kd.R k105 105 w' w.heap.size (fun k_ => k_ ≠ gb250) s_.1 y255) ∧ (w'.heap[gb249]? = some (.cells #[.int .i64 a0_0, .int .i64 a0_1, .slice A0_2 l0_2.length c0_2] 28 (0, 0))) ∧ (w'.heap[gb250]? = some (.cells #[.int .i64 a2_0, .int .i64 a2_1, .string a2_2] 105 (0, 0))) ∧ (w'.heap[gb251]? = some (.cells #[.int .i64 0, .int .i64 0, .slice none 0 0] 28 (0, 0))) ∧ (w'.heap[s_.2]? = some (.cells #[.int .i64 0, .int .i64 0, .slice none 0 0] 28 (0, 0))) ∧ (w.heap.size ≤ s_.2) ∧ (w.heap.size ≤ s_.2) ∧ (gb249 ≠ s_.2) ∧ (s_.2 ≠ gb249) ∧ (gb250 ≠ s_.2) ∧ (s_.2 ≠ gb250) ∧ (gb251 ≠ s_.2) ∧ (s_.2 ≠ gb251) ∧ (Below w.heap.size w w')) ?_ ?_
             rotate_left
             ·intro hJ4_18
              refine join_ (σ := Value × Nat) 5 #[true, true, true, true, false, true, true, true, true, true, true, true, true, false, true, true, false, false, true, false] (fun s_ => [(39, s_.1), (8, .pointer (some ⟨s_.2, 0, none⟩))]) (fun s_ w' => (c3 w' gb249 (.int .i64 a0_0) (.int .i64 a0_1) (.slice A0_2 l0_2.length c0_2) (d3 w' gb250 (.int .i64 a2_0) (.int .i64 a2_1) (.string a2_2))) ∧ (Kd.R k105 105 w' w.heap.size (fun k_ => k_ ≠ gb250) s_.1 y265) ∧ (w'.heap[gb249]? = some (.cells #[.int .i64 a0_0, .int .i64 a0_1, .slice A0_2 l0_2.length c0_2] 28 (0, 0))) ∧ (w'.heap[gb250]? = some (.cells #[.int .i64 a2_0, .int .i64 a2_1, .string a2_2] 105 (0, 0))) ∧ (w'.heap[gb251]? = some (.cells #[.int .i64 0, .int .i64 0, .slice none 0 0] 28 (0, 0))) ∧ (w'.heap[s_.2]? = some (.cells #[.int .i64 0, .int .i64 0, .slice none 0 0] 28 (0, 0))) ∧ (w.heap.size ≤ s_.2) ∧ (w.heap.size ≤ s_.2) ∧ (gb249 ≠ s_.2) ∧ (s_.2 ≠ gb249) ∧ (gb250 ≠ s_.2) ∧ (s_.2 ≠ gb250) ∧ (gb251 ≠ s_.2) ∧ (s_.2 ≠ gb251) ∧ (Below w.heap.size w w')) ?_ ?_
              rotate_left
              ·intro hJ15_18
               refine join_ (σ := Value) 6 #[true, true, true, true, true, true, true, true, true, true, true, true, true, false, true, false, false, false, false, false] (fun s_ => [(28, s_)]) (fun s_ w' => (c3 w' gb249 (.int .i64 a0_0) (.int .i64 a0_1) (.slice A0_2 l0_2.length c0_2) (d3 w' gb250 (.int .i64 a2_0) (.int .i64 a2_1) (.string a2_2))) ∧ (Kd.R k105 105 w' w.heap.size (fun k_ => k_ ≠ gb250) s_ y255) ∧ (w'.heap[gb249]? = some (.cells #[.int .i64 a0_0, .int .i64 a0_1, .slice A0_2 l0_2.length c0_2] 28 (0, 0))) ∧ (w'.heap[gb250]? = some (.cells #[.int .i64 a2_0, .int .i64 a2_1, .string a2_2] 105 (0, 0))) ∧ (w'.heap[gb251]? = some (.cells #[.int .i64 0, .int .i64 0, .slice none 0 0] 28 (0, 0))) ∧ (Below w.heap.size w w')) ?_ ?_
               rotate_left
               ·intro hJ4
                refine join_ (σ := Value) 6 #[true, true, true, true, false, true, true, true, true, true, true, true, true, false, true, true, false, false, false, false] (fun s_ => [(39, s_)]) (fun s_ w' => (c3 w' gb249 (.int .i64 a0_0) (.int .i64 a0_1) (.slice A0_2 l0_2.length c0_2) (d3 w' gb250 (.int .i64 a2_0) (.int .i64 a2_1) (.string a2_2))) ∧ (Kd.R k105 105 w' w.heap.size (fun k_ => k_ ≠ gb250) s_ y265) ∧ (w'.heap[gb249]? = some (.cells #[.int .i64 a0_0, .int .i64 a0_1, .slice A0_2 l0_2.length c0_2] 28 (0, 0))) ∧ (w'.heap[gb250]? = some (.cells #[.int .i64 a2_0, .int .i64 a2_1, .string a2_2] 105 (0, 0))) ∧ (w'.heap[gb251]? = some (.cells #[.int .i64 0, .int .i64 0, .slice none 0 0] 28 (0, 0))) ∧ (Below w.heap.size w w')) ?_ ?_
                rotate_left
                ·intro hJ15
                 refine join_ (σ := Nat) 6 #[true, true, true, true, false, true, true, true, true, true, true, true, true, false, true, false, false, false, true, false] (fun s_ => [(8, .pointer (some ⟨s_, 0, none⟩))]) (fun s_ w' => (c3 w' gb249 (.int .i64 a0_0) (.int .i64 a0_1) (.slice A0_2 l0_2.length c0_2) (d3 w' gb250 (.int .i64 a2_0) (.int .i64 a2_1) (.string a2_2))) ∧ (w'.heap[gb249]? = some (.cells #[.int .i64 a0_0, .int .i64 a0_1, .slice A0_2 l0_2.length c0_2] 28 (0, 0))) ∧ (w'.heap[gb250]? = some (.cells #[.int .i64 a2_0, .int .i64 a2_1, .string a2_2] 105 (0, 0))) ∧ (w'.heap[gb251]? = some (.cells #[.int .i64 0, .int .i64 0, .slice none 0 0] 28 (0, 0))) ∧ (w'.heap[s_]? = some (.cells #[.int .i64 0, .int .i64 0, .slice none 0 0] 28 (0, 0))) ∧ (w.heap.size ≤ s_) ∧ (w.heap.size ≤ s_) ∧ (gb249 ≠ s_) ∧ (s_ ≠ gb249) ∧ (gb250 ≠ s_) ∧ (s_ ≠ gb250) ∧ (gb251 ≠ s_) ∧ (s_ ≠ gb251) ∧ (Below w.heap.size w w')) ?_ ?_
                 rotate_left
                 ·intro hJ18
                  refine three_ (i := 4) (j := 15) (k := 18) (Ni := some 28) (Nj := some 39) (Nk := some 8) #[true, true, true, true, true, true, true, true, true, true, true, true, true, false, true, false, false, false, false, false] #[true, true, true, true, false, true, true, true, true, true, true, true, true, false, true, true, false, false, false, false] #[true, true, true, true, false, true, true, true, true, true, true, true, true, false, true, false, false, false, true, false] rfl rfl rfl rfl rfl rfl (three_of HT_.out (by kernel_rfl)) (by decide) (by decide) (by decide) (fun K hK => ?_) (fun K hK => ?_) (fun K hK => ?_)
                  ·skip
                   refine Kd.R_lit_step k105 _ 105 ?hg (N := 28) ?hd (xs := ([] : List (S105))) (inner := []) (ok := fun _ => True) (okp := fun _ => True) ?hr ?hp (fun _ hk => hk) trivial (Below.refl _ _) (Nat.le_refl _) (by simp) ?_; (case hd => rfl); (case hg => rfl); (case hr => first | (go_simp; done) | (go_simp; rfl)); (case hp => exact (Reps.none _ _))
                   intro v256 w30 ho31 hb hg_ hnew_; clear hg_ hnew_
                   (first | rw [← Ny255.out] at ho31 | (simp only [Int.reduceToNat] at ho31; rw [← Ny255.out] at ho31))
                   have HO257 := ak (Kd.R_lower (Kd.R_newB ho31 (g := gb250) (o := .cells #[.int .i64 a2_0, .int .i64 a2_1, .string a2_2] 105 (0, 0)) (bk BK250)) (below_size (bt HB))); replace BK249 := bb BK249 hb; replace BK250 := bb BK250 hb; replace BK251 := bb BK251 hb; replace HB := bs1 HB hb; clear hb ho31
                   refine hK.out _ _ hp fun hHeld => ?_
                   clear hK K; refine nm 28 ?_
                   exact norm_ (by first | (simp only [putAll, Act.put, zA, zB, zC]; done) | (simp only [putAll, Act.put, zA, zB, zC]; rfl)) (hJ4 (v256) _ ⟨hHeld, (Kd.R_mono (rk HO257) (fun _ hk => hk.2)), (bk BK249), (bk BK250), (bk BK251), (bt HB)⟩)
                  ·skip
                   refine Kd.R_lit_step k105 _ 105 ?hg (N := 39) ?hd (xs := ([(⟨a2_0, a2_1, a2_2⟩ : S105)] : List (S105))) (inner := [.int .i64 a2_0, .int .i64 a2_1, .string a2_2]) (ok := fun _ => True) (okp := fun _ => True) ?hr ?hp (fun _ hk => hk) trivial (Below.refl _ _) (Nat.le_refl _) (by simp) ?_; (case hd => rfl); (case hg => rfl); (case hr => first | (go_simp; done) | (go_simp; rfl)); (case hp => exact (Reps.c3 (show Kd.M k105 _ _ _ (⟨a2_0, a2_1, a2_2⟩ : S105) [.int .i64 a2_0, .int .i64 a2_1, .string a2_2] from (k105_mkM _ _ _ (⟨a2_0, a2_1, a2_2⟩ : S105) )) (Reps.none _ _)))
                   intro v266 w30 ho31 hb hg_ hnew_; clear hg_ hnew_
                   (first | rw [← Ny265.out] at ho31 | (simp only [Int.reduceToNat] at ho31; rw [← Ny265.out] at ho31))
                   have HO267 := ak (Kd.R_lower (Kd.R_newB ho31 (g := gb250) (o := .cells #[.int .i64 a2_0, .int .i64 a2_1, .string a2_2] 105 (0, 0)) (bk BK250)) (below_size (bt HB))); replace BK249 := bb BK249 hb; replace BK250 := bb BK250 hb; replace BK251 := bb BK251 hb; replace HB := bs1 HB hb; clear hb ho31
                   refine hK.out _ _ hp fun hHeld => ?_
                   clear hK K; refine nm 39 ?_
                   exact norm_ (by first | (simp only [putAll, Act.put, zA, zB, zC]; done) | (simp only [putAll, Act.put, zA, zB, zC]; rfl)) (hJ15 (v266) _ ⟨hHeld, (Kd.R_mono (rk HO267) (fun _ hk => hk.2)), (bk BK249), (bk BK250), (bk BK251), (bt HB)⟩)
                  ·skip
                   refine box_step ?hg (N := 8) ?hd (cs := #[.int .i64 0, .int .i64 0, .slice none 0 0]) (t := 28) ?hr ?_; (case hd => rfl); (case hg => rfl); (case hr => first | (go_simp; done) | (go_simp; rfl))
                   intro gb271 hg w30 hbox hb; have BK271 := ak hbox; have GE271 := ge_ hg HB; replace HB := bs1 HB hb; have NB249_271 := nl_ hg BK249; have NB271_249 := nr_ hg BK249; replace BK249 := bb BK249 hb; have NB250_271 := nl_ hg BK250; have NB271_250 := nr_ hg BK250; replace BK250 := bb BK250 hb; have NB251_271 := nl_ hg BK251; have NB271_251 := nr_ hg BK251; replace BK251 := bb BK251 hb; clear hb hbox hg
                   refine hK.out _ _ hp fun hHeld => ?_
                   clear hK K; refine nm 8 ?_
                   exact norm_ (by first | (simp only [putAll, Act.put, zA, zB, zC]; done) | (simp only [putAll, Act.put, zA, zB, zC]; rfl)) (hJ18 (gb271) _ ⟨hHeld, (bk BK249), (bk BK250), (bk BK251), (bk BK271), GE271.out, GE271.out, NB249_271.out, NB271_249.out, NB250_271.out, NB271_250.out, NB251_271.out, NB271_251.out, (bt HB)⟩)
                 ·skip
                  rintro gb271 w31 ⟨hS_, h0_, h1_, h2_, h3_, h4_, h5_, h6_, h7_, h8_, h9_, h10_, h11_, h12_⟩; have n0_ := ak h0_; have n1_ := ak h1_; have n2_ := ak h2_; have n3_ := ak h3_; have n4_ := ak h4_; have n5_ := ak h5_; have n6_ := ak h6_; have n7_ := ak h7_; have n8_ := ak h8_; have n9_ := ak h9_; have n10_ := ak h10_; have n11_ := ak h11_; have n12_ := ak h12_; clear BK249; clear BK250; clear BK251; clear HB; clear h0_ h1_ h2_ h3_ h4_ h5_ h6_ h7_ h8_ h9_ h10_ h11_ h12_; have BK249 := n0_; have BK250 := n1_; have BK251 := n2_; have BK271 := n3_; have GE271 := n4_; have GE271 := n5_; have NB249_271 := n6_; have NB271_249 := n7_; have NB250_271 := n8_; have NB271_250 := n9_; have NB251_271 := n10_; have NB271_251 := n11_; have HB := n12_; clear n0_ n1_ n2_ n3_ n4_ n5_ n6_ n7_ n8_ n9_ n10_ n11_ n12_; have hHeld := hS_; refine nq ?_
                  refine two_ (i := 4) (j := 15) (Ni := some 28) (Nj := some 39) #[true, true, true, true, true, true, true, true, true, true, true, true, true, false, true, false, false, false, true, false] #[true, true, true, true, false, true, true, true, true, true, true, true, true, false, true, true, false, false, true, false] rfl rfl rfl rfl (two_of HT_.out (by kernel_rfl)) (by decide) (by decide) (fun K hK => ?_) (fun K hK => ?_)
                  ·skip
                   refine Kd.R_lit_step k105 _ 105 ?hg (N := 28) ?hd (xs := ([] : List (S105))) (inner := []) (ok := fun _ => True) (okp := fun _ => True) ?hr ?hp (fun _ hk => hk) trivial (Below.refl _ _) (Nat.le_refl _) (by simp) ?_; (case hd => rfl); (case hg => rfl); (case hr => first | (go_simp; done) | (go_simp; rfl)); (case hp => exact (Reps.none _ _))
                   intro v256 w32 ho33 hb hg_ hnew_; clear hg_ hnew_
                   (first | rw [← Ny255.out] at ho33 | (simp only [Int.reduceToNat] at ho33; rw [← Ny255.out] at ho33))
                   have HO257 := ak (Kd.R_lower (Kd.R_newB ho33 (g := gb250) (o := .cells #[.int .i64 a2_0, .int .i64 a2_1, .string a2_2] 105 (0, 0)) (bk BK250)) (below_size (bt HB))); replace BK249 := bb BK249 hb; replace BK250 := bb BK250 hb; replace BK251 := bb BK251 hb; replace BK271 := bb BK271 hb; replace HB := bs1 HB hb; clear hb ho33
                   refine hK.out _ _ hp fun hHeld => ?_
                   clear hK K; refine nm 28 ?_
                   exact norm_ (by first | (simp only [putAll, Act.put, zA, zB, zC]; done) | (simp only [putAll, Act.put, zA, zB, zC]; rfl)) (hJ4_18 (v256, gb271) _ ⟨hHeld, (Kd.R_mono (rk HO257) (fun _ hk => hk.2)), (bk BK249), (bk BK250), (bk BK251), (bk BK271), GE271.out, GE271.out, NB249_271.out, NB271_249.out, NB250_271.out, NB271_250.out, NB251_271.out, NB271_251.out, (bt HB)⟩)
                  ·skip
                   refine Kd.R_lit_step k105 _ 105 ?hg (N := 39) ?hd (xs := ([(⟨a2_0, a2_1, a2_2⟩ : S105)] : List (S105))) (inner := [.int .i64 a2_0, .int .i64 a2_1, .string a2_2]) (ok := fun _ => True) (okp := fun _ => True) ?hr ?hp (fun _ hk => hk) trivial (Below.refl _ _) (Nat.le_refl _) (by simp) ?_; (case hd => rfl); (case hg => rfl); (case hr => first | (go_simp; done) | (go_simp; rfl)); (case hp => exact (Reps.c3 (show Kd.M k105 _ _ _ (⟨a2_0, a2_1, a2_2⟩ : S105) [.int .i64 a2_0, .int .i64 a2_1, .string a2_2] from (k105_mkM _ _ _ (⟨a2_0, a2_1, a2_2⟩ : S105) )) (Reps.none _ _)))
                   intro v266 w32 ho33 hb hg_ hnew_; clear hg_ hnew_
                   (first | rw [← Ny265.out] at ho33 | (simp only [Int.reduceToNat] at ho33; rw [← Ny265.out] at ho33))
                   have HO267 := ak (Kd.R_lower (Kd.R_newB ho33 (g := gb250) (o := .cells #[.int .i64 a2_0, .int .i64 a2_1, .string a2_2] 105 (0, 0)) (bk BK250)) (below_size (bt HB))); replace BK249 := bb BK249 hb; replace BK250 := bb BK250 hb; replace BK251 := bb BK251 hb; replace BK271 := bb BK271 hb; replace HB := bs1 HB hb; clear hb ho33
                   refine hK.out _ _ hp fun hHeld => ?_
                   clear hK K; refine nm 39 ?_
                   exact norm_ (by first | (simp only [putAll, Act.put, zA, zB, zC]; done) | (simp only [putAll, Act.put, zA, zB, zC]; rfl)) (hJ15_18 (v266, gb271) _ ⟨hHeld, (Kd.R_mono (rk HO267) (fun _ hk => hk.2)), (bk BK249), (bk BK250), (bk BK251), (bk BK271), GE271.out, GE271.out, NB249_271.out, NB271_249.out, NB250_271.out, NB271_250.out, NB251_271.out, NB271_251.out, (bt HB)⟩)
                ·skip
                 rintro v266 w32 ⟨hS_, h0_, h1_, h2_, h3_, h4_⟩; have n0_ := ak h0_; have n1_ := ak h1_; have n2_ := ak h2_; have n3_ := ak h3_; have n4_ := ak h4_; clear BK249; clear BK250; clear BK251; clear HB; clear h0_ h1_ h2_ h3_ h4_; have HO267 := n0_; have BK249 := n1_; have BK250 := n2_; have BK251 := n3_; have HB := n4_; clear n0_ n1_ n2_ n3_ n4_; have hHeld := hS_; refine nq ?_
                 refine two_ (i := 4) (j := 18) (Ni := some 28) (Nj := some 8) #[true, true, true, true, true, true, true, true, true, true, true, true, true, false, true, true, false, false, false, false] #[true, true, true, true, false, true, true, true, true, true, true, true, true, false, true, true, false, false, true, false] rfl rfl rfl rfl (two_of HT_.out (by kernel_rfl)) (by decide) (by decide) (fun K hK => ?_) (fun K hK => ?_)
                 ·skip
                  refine Kd.R_lit_step k105 _ 105 ?hg (N := 28) ?hd (xs := ([] : List (S105))) (inner := []) (ok := fun _ => True) (okp := fun _ => True) ?hr ?hp (fun _ hk => hk) trivial (Below.refl _ _) (Nat.le_refl _) (by simp) ?_; (case hd => rfl); (case hg => rfl); (case hr => first | (go_simp; done) | (go_simp; rfl)); (case hp => exact (Reps.none _ _))
                  intro v256 w33 ho34 hb hg_ hnew_; clear hg_ hnew_
                  (first | rw [← Ny255.out] at ho34 | (simp only [Int.reduceToNat] at ho34; rw [← Ny255.out] at ho34))
                  have HO257 := ak (Kd.R_lower (Kd.R_newB (Kd.R_new' ho34 (Kd.R_lt (rk HO267))) (g := gb250) (o := .cells #[.int .i64 a2_0, .int .i64 a2_1, .string a2_2] 105 (0, 0)) (bk BK250)) (below_size (bt HB))); replace HO267 := ak (Kd.R_elder' (rk HO267) (Kd.R_base ho34) hb); replace BK249 := bb BK249 hb; replace BK250 := bb BK250 hb; replace BK251 := bb BK251 hb; replace HB := bs1 HB hb; clear hb ho34
                  refine hK.out _ _ hp fun hHeld => ?_
                  clear hK K; refine nm 28 ?_
                  exact norm_ (by first | (simp only [putAll, Act.put, zA, zB, zC]; done) | (simp only [putAll, Act.put, zA, zB, zC]; rfl)) (hJ4_15 (v256, v266) _ ⟨hHeld, (Kd.R_mono (rk HO257) (fun _ hk => ⟨hk.1.2, hk.2⟩)), (Kd.R_mono (rk HO267) (fun _ hk => ⟨hk.2, hk.1⟩)), (bk BK249), (bk BK250), (bk BK251), (bt HB)⟩)
                 ·skip
                  refine box_step ?hg (N := 8) ?hd (cs := #[.int .i64 0, .int .i64 0, .slice none 0 0]) (t := 28) ?hr ?_; (case hd => rfl); (case hg => rfl); (case hr => first | (go_simp; done) | (go_simp; rfl))
                  intro gb271 hg w33 hbox hb; replace HO267 := rb HO267 hb; have BK271 := ak hbox; have GE271 := ge_ hg HB; replace HB := bs1 HB hb; have NB249_271 := nl_ hg BK249; have NB271_249 := nr_ hg BK249; replace BK249 := bb BK249 hb; have NB250_271 := nl_ hg BK250; have NB271_250 := nr_ hg BK250; replace BK250 := bb BK250 hb; have NB251_271 := nl_ hg BK251; have NB271_251 := nr_ hg BK251; replace BK251 := bb BK251 hb; clear hb hbox hg
                  refine hK.out _ _ hp fun hHeld => ?_
                  clear hK K; refine nm 8 ?_
                  exact norm_ (by first | (simp only [putAll, Act.put, zA, zB, zC]; done) | (simp only [putAll, Act.put, zA, zB, zC]; rfl)) (hJ15_18 (v266, gb271) _ ⟨hHeld, (rk HO267), (bk BK249), (bk BK250), (bk BK251), (bk BK271), GE271.out, GE271.out, NB249_271.out, NB271_249.out, NB250_271.out, NB271_250.out, NB251_271.out, NB271_251.out, (bt HB)⟩)
               ·skip
                rintro v256 w32 ⟨hS_, h0_, h1_, h2_, h3_, h4_⟩; have n0_ := ak h0_; have n1_ := ak h1_; have n2_ := ak h2_; have n3_ := ak h3_; have n4_ := ak h4_; clear BK249; clear BK250; clear BK251; clear HB; clear h0_ h1_ h2_ h3_ h4_; have HO257 := n0_; have BK249 := n1_; have BK250 := n2_; have BK251 := n3_; have HB := n4_; clear n0_ n1_ n2_ n3_ n4_; have hHeld := hS_; refine nq ?_
                refine three_ (i := 13) (j := 15) (k := 18) (Ni := some 37) (Nj := some 39) (Nk := some 8) #[true, true, true, true, true, true, true, true, true, true, true, true, true, true, true, false, false, false, false, false] #[true, true, true, true, true, true, true, true, true, true, true, true, true, false, true, true, false, false, false, false] #[true, true, true, true, true, true, true, true, true, true, true, true, true, false, true, false, false, false, true, false] rfl rfl rfl rfl rfl rfl (three_of HT_.out (by kernel_rfl)) (by decide) (by decide) (by decide) (fun K hK => ?_) (fun K hK => ?_) (fun K hK => ?_)
                ·skip
                 refine Kd.R_append_rows_step k105 (w0 := w) w.heap.size (by rfl) (.tmp 28) (.tmp 36) 26 105 (.agg #[(.int .i64 0), (.int .i64 0), (.string ⟨#[]⟩)]) 32 rfl Tryz.underlying26 info105 rfl (by decide) (by omega) v256 y255 y258 _ _ _ (fun k_ => k_ ≠ gb250) (fun _ => False) rfl rfl ?aO ?aR (fun _ _ h => h) (fun _ h => h.elim) ?aF ?aB ?aS ?aL ?_
                 (case aR => exact ca HR261 HB)
                 (case aB => exact (bt HB))
                 (case aF => exact (fun k_ hk => Kd.freshB (g := gb250) (o := .cells #[.int .i64 a2_0, .int .i64 a2_1, .string a2_2] 105 (0, 0)) (bk BK250) k_ hk))
                 (case aO => exact (rk HO257))
                 (case aS => exact (below_size (bt HB)))
                 (case aL => have := LMc24.out; omega)
                 intro v263 w33 ho hb hg hat; rw [← Ny262.out] at ho
                 have n0_ := ak (blk_grown (g := gb249) (o := .cells #[.int .i64 a0_0, .int .i64 a0_1, .slice A0_2 l0_2.length c0_2] 28 (0, 0)) (bk BK249) hg (Kd.R_ne HO257.out BK249.out (by decide)))
                 have n1_ := ak (blk_grown (g := gb250) (o := .cells #[.int .i64 a2_0, .int .i64 a2_1, .string a2_2] 105 (0, 0)) (bk BK250) hg (Kd.R_away HO257.out (fun _ hk => hk)))
                 have n2_ := ak (blk_grown (g := gb251) (o := .cells #[.int .i64 0, .int .i64 0, .slice none 0 0] 28 (0, 0)) (bk BK251) hg (Kd.R_ne HO257.out BK251.out (by decide)))
                 have n3_ := ak hb; have n4_ := ak ho; clear BK249 BK250 BK251 HB HO257; revert n0_ n1_ n2_ n3_ n4_; intro BK249 BK250 BK251 HB HO264; clear ho hb hg hat
                 refine hK.out _ _ hp fun hHeld => ?_
                 clear hK K; refine nm 37 ?_
                 exact norm_ (by first | (simp only [putAll, Act.put, zA, zB, zC]; done) | (simp only [putAll, Act.put, zA, zB, zC]; rfl)) (hJ4_13 (v256, v263) _ ⟨hHeld, (rk HO264), (bk BK249), (bk BK250), (bk BK251), (bt HB)⟩)
                ·skip
                 refine Kd.R_lit_step k105 _ 105 ?hg (N := 39) ?hd (xs := ([(⟨a2_0, a2_1, a2_2⟩ : S105)] : List (S105))) (inner := [.int .i64 a2_0, .int .i64 a2_1, .string a2_2]) (ok := fun _ => True) (okp := fun _ => True) ?hr ?hp (fun _ hk => hk) trivial (Below.refl _ _) (Nat.le_refl _) (by simp) ?_; (case hd => rfl); (case hg => rfl); (case hr => first | (go_simp; done) | (go_simp; rfl)); (case hp => exact (Reps.c3 (show Kd.M k105 _ _ _ (⟨a2_0, a2_1, a2_2⟩ : S105) [.int .i64 a2_0, .int .i64 a2_1, .string a2_2] from (k105_mkM _ _ _ (⟨a2_0, a2_1, a2_2⟩ : S105) )) (Reps.none _ _)))
                 intro v266 w33 ho34 hb hg_ hnew_; clear hg_ hnew_
                 (first | rw [← Ny265.out] at ho34 | (simp only [Int.reduceToNat] at ho34; rw [← Ny265.out] at ho34))
                 have HO267 := ak (Kd.R_lower (Kd.R_newB (Kd.R_new' ho34 (Kd.R_lt (rk HO257))) (g := gb250) (o := .cells #[.int .i64 a2_0, .int .i64 a2_1, .string a2_2] 105 (0, 0)) (bk BK250)) (below_size (bt HB))); replace HO257 := ak (Kd.R_elder' (rk HO257) (Kd.R_base ho34) hb); replace BK249 := bb BK249 hb; replace BK250 := bb BK250 hb; replace BK251 := bb BK251 hb; replace HB := bs1 HB hb; clear hb ho34
                 refine hK.out _ _ hp fun hHeld => ?_
                 clear hK K; refine nm 39 ?_
                 exact norm_ (by first | (simp only [putAll, Act.put, zA, zB, zC]; done) | (simp only [putAll, Act.put, zA, zB, zC]; rfl)) (hJ4_15 (v256, v266) _ ⟨hHeld, (Kd.R_mono (rk HO257) (fun _ hk => ⟨hk.2, hk.1⟩)), (Kd.R_mono (rk HO267) (fun _ hk => ⟨hk.1.2, hk.2⟩)), (bk BK249), (bk BK250), (bk BK251), (bt HB)⟩)
                ·skip
                 refine box_step ?hg (N := 8) ?hd (cs := #[.int .i64 0, .int .i64 0, .slice none 0 0]) (t := 28) ?hr ?_; (case hd => rfl); (case hg => rfl); (case hr => first | (go_simp; done) | (go_simp; rfl))
                 intro gb271 hg w33 hbox hb; replace HO257 := rb HO257 hb; have BK271 := ak hbox; have GE271 := ge_ hg HB; replace HB := bs1 HB hb; have NB249_271 := nl_ hg BK249; have NB271_249 := nr_ hg BK249; replace BK249 := bb BK249 hb; have NB250_271 := nl_ hg BK250; have NB271_250 := nr_ hg BK250; replace BK250 := bb BK250 hb; have NB251_271 := nl_ hg BK251; have NB271_251 := nr_ hg BK251; replace BK251 := bb BK251 hb; clear hb hbox hg
                 refine hK.out _ _ hp fun hHeld => ?_
                 clear hK K; refine nm 8 ?_
                 exact norm_ (by first | (simp only [putAll, Act.put, zA, zB, zC]; done) | (simp only [putAll, Act.put, zA, zB, zC]; rfl)) (hJ4_18 (v256, gb271) _ ⟨hHeld, (rk HO257), (bk BK249), (bk BK250), (bk BK251), (bk BK271), GE271.out, GE271.out, NB249_271.out, NB271_249.out, NB250_271.out, NB271_250.out, NB251_271.out, NB271_251.out, (bt HB)⟩)
              ·skip
               rintro ⟨v266, gb271⟩ w33 ⟨hS_, h0_, h1_, h2_, h3_, h4_, h5_, h6_, h7_, h8_, h9_, h10_, h11_, h12_, h13_⟩; have n0_ := ak h0_; have n1_ := ak h1_; have n2_ := ak h2_; have n3_ := ak h3_; have n4_ := ak h4_; have n5_ := ak h5_; have n6_ := ak h6_; have n7_ := ak h7_; have n8_ := ak h8_; have n9_ := ak h9_; have n10_ := ak h10_; have n11_ := ak h11_; have n12_ := ak h12_; have n13_ := ak h13_; clear BK249; clear BK250; clear BK251; clear HB; clear h0_ h1_ h2_ h3_ h4_ h5_ h6_ h7_ h8_ h9_ h10_ h11_ h12_ h13_; have HO267 := n0_; have BK249 := n1_; have BK250 := n2_; have BK251 := n3_; have BK271 := n4_; have GE271 := n5_; have GE271 := n6_; have NB249_271 := n7_; have NB271_249 := n8_; have NB250_271 := n9_; have NB271_250 := n10_; have NB251_271 := n11_; have NB271_251 := n12_; have HB := n13_; clear n0_ n1_ n2_ n3_ n4_ n5_ n6_ n7_ n8_ n9_ n10_ n11_ n12_ n13_; have hHeld := hS_; refine nq ?_
               refine on HT_ 4 28 fun K hK => ?_
               refine Kd.R_lit_step k105 _ 105 ?hg (N := 28) ?hd (xs := ([] : List (S105))) (inner := []) (ok := fun _ => True) (okp := fun _ => True) ?hr ?hp (fun _ hk => hk) trivial (Below.refl _ _) (Nat.le_refl _) (by simp) ?_; (case hd => rfl); (case hg => rfl); (case hr => first | (go_simp; done) | (go_simp; rfl)); (case hp => exact (Reps.none _ _))
               intro v256 w34 ho35 hb hg_ hnew_; clear hg_ hnew_
               (first | rw [← Ny255.out] at ho35 | (simp only [Int.reduceToNat] at ho35; rw [← Ny255.out] at ho35))
               have HO257 := ak (Kd.R_lower (Kd.R_newB (Kd.R_new' ho35 (Kd.R_lt (rk HO267))) (g := gb250) (o := .cells #[.int .i64 a2_0, .int .i64 a2_1, .string a2_2] 105 (0, 0)) (bk BK250)) (below_size (bt HB))); replace HO267 := ak (Kd.R_elder' (rk HO267) (Kd.R_base ho35) hb); replace BK249 := bb BK249 hb; replace BK250 := bb BK250 hb; replace BK251 := bb BK251 hb; replace BK271 := bb BK271 hb; replace HB := bs1 HB hb; clear hb ho35
               refine hK.out _ _ hp fun hHeld => ?_
               clear hK K; refine nm 28 ?_
               exact norm_ (by first | (simp only [putAll, Act.put, zA, zB, zC]; done) | (simp only [putAll, Act.put, zA, zB, zC]; rfl)) (hJ4_15_18 (v256, v266, gb271) _ ⟨hHeld, (Kd.R_mono (rk HO257) (fun _ hk => ⟨hk.1.2, hk.2⟩)), (Kd.R_mono (rk HO267) (fun _ hk => ⟨hk.2, hk.1⟩)), (bk BK249), (bk BK250), (bk BK251), (bk BK271), GE271.out, GE271.out, NB249_271.out, NB271_249.out, NB250_271.out, NB271_250.out, NB251_271.out, NB271_251.out, (bt HB)⟩)
             ·skip
              rintro ⟨v256, gb271⟩ w33 ⟨hS_, h0_, h1_, h2_, h3_, h4_, h5_, h6_, h7_, h8_, h9_, h10_, h11_, h12_, h13_⟩; have n0_ := ak h0_; have n1_ := ak h1_; have n2_ := ak h2_; have n3_ := ak h3_; have n4_ := ak h4_; have n5_ := ak h5_; have n6_ := ak h6_; have n7_ := ak h7_; have n8_ := ak h8_; have n9_ := ak h9_; have n10_ := ak h10_; have n11_ := ak h11_; have n12_ := ak h12_; have n13_ := ak h13_; clear BK249; clear BK250; clear BK251; clear HB; clear h0_ h1_ h2_ h3_ h4_ h5_ h6_ h7_ h8_ h9_ h10_ h11_ h12_ h13_; have HO257 := n0_; have BK249 := n1_; have BK250 := n2_; have BK251 := n3_; have BK271 := n4_; have GE271 := n5_; have GE271 := n6_; have NB249_271 := n7_; have NB271_249 := n8_; have NB250_271 := n9_; have NB271_250 := n10_; have NB251_271 := n11_; have NB271_251 := n12_; have HB := n13_; clear n0_ n1_ n2_ n3_ n4_ n5_ n6_ n7_ n8_ n9_ n10_ n11_ n12_ n13_; have hHeld := hS_; refine nq ?_
              refine two_ (i := 13) (j := 15) (Ni := some 37) (Nj := some 39) #[true, true, true, true, true, true, true, true, true, true, true, true, true, true, true, false, false, false, true, false] #[true, true, true, true, true, true, true, true, true, true, true, true, true, false, true, true, false, false, true, false] rfl rfl rfl rfl (two_of HT_.out (by kernel_rfl)) (by decide) (by decide) (fun K hK => ?_) (fun K hK => ?_)
              ·skip
               refine Kd.R_append_rows_step k105 (w0 := w) w.heap.size (by rfl) (.tmp 28) (.tmp 36) 26 105 (.agg #[(.int .i64 0), (.int .i64 0), (.string ⟨#[]⟩)]) 32 rfl Tryz.underlying26 info105 rfl (by decide) (by omega) v256 y255 y258 _ _ _ (fun k_ => k_ ≠ gb250) (fun _ => False) rfl rfl ?aO ?aR (fun _ _ h => h) (fun _ h => h.elim) ?aF ?aB ?aS ?aL ?_
               (case aR => exact ca HR261 HB)
               (case aB => exact (bt HB))
               (case aF => exact (fun k_ hk => Kd.freshB (g := gb250) (o := .cells #[.int .i64 a2_0, .int .i64 a2_1, .string a2_2] 105 (0, 0)) (bk BK250) k_ hk))
               (case aO => exact (rk HO257))
               (case aS => exact (below_size (bt HB)))
               (case aL => have := LMc24.out; omega)
               intro v263 w34 ho hb hg hat; rw [← Ny262.out] at ho
               have n0_ := ak (blk_grown (g := gb249) (o := .cells #[.int .i64 a0_0, .int .i64 a0_1, .slice A0_2 l0_2.length c0_2] 28 (0, 0)) (bk BK249) hg (Kd.R_ne HO257.out BK249.out (by decide)))
               have n1_ := ak (blk_grown (g := gb250) (o := .cells #[.int .i64 a2_0, .int .i64 a2_1, .string a2_2] 105 (0, 0)) (bk BK250) hg (Kd.R_away HO257.out (fun _ hk => hk)))
               have n2_ := ak (blk_grown (g := gb251) (o := .cells #[.int .i64 0, .int .i64 0, .slice none 0 0] 28 (0, 0)) (bk BK251) hg (Kd.R_ne HO257.out BK251.out (by decide)))
               have n3_ := ak (blk_grown (g := gb271) (o := .cells #[.int .i64 0, .int .i64 0, .slice none 0 0] 28 (0, 0)) (bk BK271) hg (Kd.R_ne HO257.out BK271.out (by decide)))
               have n4_ := ak hb; have n5_ := ak ho; clear BK249 BK250 BK251 BK271 HB HO257; revert n0_ n1_ n2_ n3_ n4_ n5_; intro BK249 BK250 BK251 BK271 HB HO264; clear ho hb hg hat
               refine hK.out _ _ hp fun hHeld => ?_
               clear hK K; refine nm 37 ?_
               exact norm_ (by first | (simp only [putAll, Act.put, zA, zB, zC]; done) | (simp only [putAll, Act.put, zA, zB, zC]; rfl)) (hJ4_13_18 (v256, v263, gb271) _ ⟨hHeld, (rk HO264), (bk BK249), (bk BK250), (bk BK251), (bk BK271), GE271.out, GE271.out, NB249_271.out, NB271_249.out, NB250_271.out, NB271_250.out, NB251_271.out, NB271_251.out, (bt HB)⟩)
              ·skip
               refine Kd.R_lit_step k105 _ 105 ?hg (N := 39) ?hd (xs := ([(⟨a2_0, a2_1, a2_2⟩ : S105)] : List (S105))) (inner := [.int .i64 a2_0, .int .i64 a2_1, .string a2_2]) (ok := fun _ => True) (okp := fun _ => True) ?hr ?hp (fun _ hk => hk) trivial (Below.refl _ _) (Nat.le_refl _) (by simp) ?_; (case hd => rfl); (case hg => rfl); (case hr => first | (go_simp; done) | (go_simp; rfl)); (case hp => exact (Reps.c3 (show Kd.M k105 _ _ _ (⟨a2_0, a2_1, a2_2⟩ : S105) [.int .i64 a2_0, .int .i64 a2_1, .string a2_2] from (k105_mkM _ _ _ (⟨a2_0, a2_1, a2_2⟩ : S105) )) (Reps.none _ _)))
               intro v266 w34 ho35 hb hg_ hnew_; clear hg_ hnew_
               (first | rw [← Ny265.out] at ho35 | (simp only [Int.reduceToNat] at ho35; rw [← Ny265.out] at ho35))
               have HO267 := ak (Kd.R_lower (Kd.R_newB (Kd.R_new' ho35 (Kd.R_lt (rk HO257))) (g := gb250) (o := .cells #[.int .i64 a2_0, .int .i64 a2_1, .string a2_2] 105 (0, 0)) (bk BK250)) (below_size (bt HB))); replace HO257 := ak (Kd.R_elder' (rk HO257) (Kd.R_base ho35) hb); replace BK249 := bb BK249 hb; replace BK250 := bb BK250 hb; replace BK251 := bb BK251 hb; replace BK271 := bb BK271 hb; replace HB := bs1 HB hb; clear hb ho35
               refine hK.out _ _ hp fun hHeld => ?_
               clear hK K; refine nm 39 ?_
               exact norm_ (by first | (simp only [putAll, Act.put, zA, zB, zC]; done) | (simp only [putAll, Act.put, zA, zB, zC]; rfl)) (hJ4_15_18 (v256, v266, gb271) _ ⟨hHeld, (Kd.R_mono (rk HO257) (fun _ hk => ⟨hk.2, hk.1⟩)), (Kd.R_mono (rk HO267) (fun _ hk => ⟨hk.1.2, hk.2⟩)), (bk BK249), (bk BK250), (bk BK251), (bk BK271), GE271.out, GE271.out, NB249_271.out, NB271_249.out, NB250_271.out, NB271_250.out, NB251_271.out, NB271_251.out, (bt HB)⟩)
            ·skip
             rintro ⟨v256, v266⟩ w34 ⟨hS_, h0_, h1_, h2_, h3_, h4_, h5_⟩; have n0_ := ak h0_; have n1_ := ak h1_; have n2_ := ak h2_; have n3_ := ak h3_; have n4_ := ak h4_; have n5_ := ak h5_; clear BK249; clear BK250; clear BK251; clear HB; clear h0_ h1_ h2_ h3_ h4_ h5_; have HO257 := n0_; have HO267 := n1_; have BK249 := n2_; have BK250 := n3_; have BK251 := n4_; have HB := n5_; clear n0_ n1_ n2_ n3_ n4_ n5_; have hHeld := hS_; refine nq ?_
             refine two_ (i := 13) (j := 18) (Ni := some 37) (Nj := some 8) #[true, true, true, true, true, true, true, true, true, true, true, true, true, true, true, true, false, false, false, false] #[true, true, true, true, true, true, true, true, true, true, true, true, true, false, true, true, false, false, true, false] rfl rfl rfl rfl (two_of HT_.out (by kernel_rfl)) (by decide) (by decide) (fun K hK => ?_) (fun K hK => ?_)
             ·skip
              refine Kd.R_append_rows_step k105 (w0 := w) w.heap.size (by rfl) (.tmp 28) (.tmp 36) 26 105 (.agg #[(.int .i64 0), (.int .i64 0), (.string ⟨#[]⟩)]) 32 rfl Tryz.underlying26 info105 rfl (by decide) (by omega) v256 y255 y258 _ _ _ (fun k_ => some k_ ≠ (v266 : Value).ownBlock ∧ k_ ≠ gb250) (fun _ => False) rfl rfl ?aO ?aR (fun _ _ h => h) (fun _ h => h.elim) ?aF ?aB ?aS ?aL ?_
              (case aR => exact ca HR261 HB)
              (case aB => exact (bt HB))
              (case aF => exact (fun k_ hk => ⟨Kd.fresh' (Kd.R_lt (rk HO267)) k_ hk, Kd.freshB (g := gb250) (o := .cells #[.int .i64 a2_0, .int .i64 a2_1, .string a2_2] 105 (0, 0)) (bk BK250) k_ hk⟩))
              (case aO => exact (rk HO257))
              (case aS => exact (below_size (bt HB)))
              (case aL => have := LMc24.out; omega)
              intro v263 w35 ho hb hg hat; rw [← Ny262.out] at ho
              have n0_ := ak (blk_grown (g := gb249) (o := .cells #[.int .i64 a0_0, .int .i64 a0_1, .slice A0_2 l0_2.length c0_2] 28 (0, 0)) (bk BK249) hg (Kd.R_ne HO257.out BK249.out (by decide)))
              have n1_ := ak (blk_grown (g := gb250) (o := .cells #[.int .i64 a2_0, .int .i64 a2_1, .string a2_2] 105 (0, 0)) (bk BK250) hg (Kd.R_away HO257.out (fun _ hk => hk.2)))
              have n2_ := ak (blk_grown (g := gb251) (o := .cells #[.int .i64 0, .int .i64 0, .slice none 0 0] 28 (0, 0)) (bk BK251) hg (Kd.R_ne HO257.out BK251.out (by decide)))
              have n3_ := ak (Kd.R_after (ok := (fun k_ => k_ ≠ gb250)) (Kd.R_mono (rk HO267) (fun _ hk => ⟨hk.2, hk.1⟩)) hg hat)
              have n4_ := ak hb; have n5_ := ak ho; clear BK249 BK250 BK251 HO267 HB HO257; revert n0_ n1_ n2_ n3_ n4_ n5_; intro BK249 BK250 BK251 HO267 HB HO264; clear ho hb hg hat
              refine hK.out _ _ hp fun hHeld => ?_
              clear hK K; refine nm 37 ?_
              exact norm_ (by first | (simp only [putAll, Act.put, zA, zB, zC]; done) | (simp only [putAll, Act.put, zA, zB, zC]; rfl)) (hJ4_13_15 (v256, v263, v266) _ ⟨hHeld, (rk HO264), (Kd.R_mono (rk HO267) (fun _ hk => ⟨hk.2, hk.1⟩)), (bk BK249), (bk BK250), (bk BK251), (bt HB)⟩)
             ·skip
              refine box_step ?hg (N := 8) ?hd (cs := #[.int .i64 0, .int .i64 0, .slice none 0 0]) (t := 28) ?hr ?_; (case hd => rfl); (case hg => rfl); (case hr => first | (go_simp; done) | (go_simp; rfl))
              intro gb271 hg w35 hbox hb; replace HO257 := rb HO257 hb; replace HO267 := rb HO267 hb; have BK271 := ak hbox; have GE271 := ge_ hg HB; replace HB := bs1 HB hb; have NB249_271 := nl_ hg BK249; have NB271_249 := nr_ hg BK249; replace BK249 := bb BK249 hb; have NB250_271 := nl_ hg BK250; have NB271_250 := nr_ hg BK250; replace BK250 := bb BK250 hb; have NB251_271 := nl_ hg BK251; have NB271_251 := nr_ hg BK251; replace BK251 := bb BK251 hb; clear hb hbox hg
              refine hK.out _ _ hp fun hHeld => ?_
              clear hK K; refine nm 8 ?_
              exact norm_ (by first | (simp only [putAll, Act.put, zA, zB, zC]; done) | (simp only [putAll, Act.put, zA, zB, zC]; rfl)) (hJ4_15_18 (v256, v266, gb271) _ ⟨hHeld, (rk HO257), (rk HO267), (bk BK249), (bk BK250), (bk BK251), (bk BK271), GE271.out, GE271.out, NB249_271.out, NB271_249.out, NB250_271.out, NB271_250.out, NB251_271.out, NB271_251.out, (bt HB)⟩)
           ·skip
            rintro ⟨v256, v263⟩ w33 ⟨hS_, h0_, h1_, h2_, h3_, h4_⟩; have n0_ := ak h0_; have n1_ := ak h1_; have n2_ := ak h2_; have n3_ := ak h3_; have n4_ := ak h4_; clear BK249; clear BK250; clear BK251; clear HB; clear h0_ h1_ h2_ h3_ h4_; have HO264 := n0_; have BK249 := n1_; have BK250 := n2_; have BK251 := n3_; have HB := n4_; clear n0_ n1_ n2_ n3_ n4_; have hHeld := hS_; refine nq ?_
            refine two_ (i := 15) (j := 18) (Ni := some 39) (Nj := some 8) #[true, true, true, true, true, true, true, true, true, true, true, true, true, true, true, true, false, false, false, false] #[true, true, true, true, true, true, true, true, true, true, true, true, true, true, true, false, false, false, true, false] rfl rfl rfl rfl (two_of HT_.out (by kernel_rfl)) (by decide) (by decide) (fun K hK => ?_) (fun K hK => ?_)
            ·skip
             refine Kd.R_lit_step k105 _ 105 ?hg (N := 39) ?hd (xs := ([(⟨a2_0, a2_1, a2_2⟩ : S105)] : List (S105))) (inner := [.int .i64 a2_0, .int .i64 a2_1, .string a2_2]) (ok := fun _ => True) (okp := fun _ => True) ?hr ?hp (fun _ hk => hk) trivial (Below.refl _ _) (Nat.le_refl _) (by simp) ?_; (case hd => rfl); (case hg => rfl); (case hr => first | (go_simp; done) | (go_simp; rfl)); (case hp => exact (Reps.c3 (show Kd.M k105 _ _ _ (⟨a2_0, a2_1, a2_2⟩ : S105) [.int .i64 a2_0, .int .i64 a2_1, .string a2_2] from (k105_mkM _ _ _ (⟨a2_0, a2_1, a2_2⟩ : S105) )) (Reps.none _ _)))
             intro v266 w34 ho35 hb hg_ hnew_; clear hg_ hnew_
             (first | rw [← Ny265.out] at ho35 | (simp only [Int.reduceToNat] at ho35; rw [← Ny265.out] at ho35))
             have HO267 := ak (Kd.R_lower (Kd.R_newB (Kd.R_new' ho35 (Kd.R_lt (rk HO264))) (g := gb250) (o := .cells #[.int .i64 a2_0, .int .i64 a2_1, .string a2_2] 105 (0, 0)) (bk BK250)) (below_size (bt HB))); replace HO264 := ak (Kd.R_elder' (rk HO264) (Kd.R_base ho35) hb); replace BK249 := bb BK249 hb; replace BK250 := bb BK250 hb; replace BK251 := bb BK251 hb; replace HB := bs1 HB hb; clear hb ho35
             refine hK.out _ _ hp fun hHeld => ?_
             clear hK K; refine nm 39 ?_
             exact norm_ (by first | (simp only [putAll, Act.put, zA, zB, zC]; done) | (simp only [putAll, Act.put, zA, zB, zC]; rfl)) (hJ4_13_15 (v256, v263, v266) _ ⟨hHeld, (Kd.R_mono (rk HO264) (fun _ hk => ⟨hk.2, hk.1⟩)), (Kd.R_mono (rk HO267) (fun _ hk => ⟨hk.1.2, hk.2⟩)), (bk BK249), (bk BK250), (bk BK251), (bt HB)⟩)
            ·skip
             refine box_step ?hg (N := 8) ?hd (cs := #[.int .i64 0, .int .i64 0, .slice none 0 0]) (t := 28) ?hr ?_; (case hd => rfl); (case hg => rfl); (case hr => first | (go_simp; done) | (go_simp; rfl))
             intro gb271 hg w34 hbox hb; replace HO264 := rb HO264 hb; have BK271 := ak hbox; have GE271 := ge_ hg HB; replace HB := bs1 HB hb; have NB249_271 := nl_ hg BK249; have NB271_249 := nr_ hg BK249; replace BK249 := bb BK249 hb; have NB250_271 := nl_ hg BK250; have NB271_250 := nr_ hg BK250; replace BK250 := bb BK250 hb; have NB251_271 := nl_ hg BK251; have NB271_251 := nr_ hg BK251; replace BK251 := bb BK251 hb; clear hb hbox hg
             refine hK.out _ _ hp fun hHeld => ?_
             clear hK K; refine nm 8 ?_
             exact norm_ (by first | (simp only [putAll, Act.put, zA, zB, zC]; done) | (simp only [putAll, Act.put, zA, zB, zC]; rfl)) (hJ4_13_18 (v256, v263, gb271) _ ⟨hHeld, (rk HO264), (bk BK249), (bk BK250), (bk BK251), (bk BK271), GE271.out, GE271.out, NB249_271.out, NB271_249.out, NB250_271.out, NB271_250.out, NB251_271.out, NB271_251.out, (bt HB)⟩)
          ·skip
           rintro ⟨v256, v266, gb271⟩ w35 ⟨hS_, h0_, h1_, h2_, h3_, h4_, h5_, h6_, h7_, h8_, h9_, h10_, h11_, h12_, h13_, h14_⟩; have n0_ := ak h0_; have n1_ := ak h1_; have n2_ := ak h2_; have n3_ := ak h3_; have n4_ := ak h4_; have n5_ := ak h5_; have n6_ := ak h6_; have n7_ := ak h7_; have n8_ := ak h8_; have n9_ := ak h9_; have n10_ := ak h10_; have n11_ := ak h11_; have n12_ := ak h12_; have n13_ := ak h13_; have n14_ := ak h14_; clear BK249; clear BK250; clear BK251; clear HB; clear h0_ h1_ h2_ h3_ h4_ h5_ h6_ h7_ h8_ h9_ h10_ h11_ h12_ h13_ h14_; have HO257 := n0_; have HO267 := n1_; have BK249 := n2_; have BK250 := n3_; have BK251 := n4_; have BK271 := n5_; have GE271 := n6_; have GE271 := n7_; have NB249_271 := n8_; have NB271_249 := n9_; have NB250_271 := n10_; have NB271_250 := n11_; have NB251_271 := n12_; have NB271_251 := n13_; have HB := n14_; clear n0_ n1_ n2_ n3_ n4_ n5_ n6_ n7_ n8_ n9_ n10_ n11_ n12_ n13_ n14_; have hHeld := hS_; refine nq ?_
           refine on HT_ 13 37 fun K hK => ?_
           refine Kd.R_append_rows_step k105 (w0 := w) w.heap.size (by rfl) (.tmp 28) (.tmp 36) 26 105 (.agg #[(.int .i64 0), (.int .i64 0), (.string ⟨#[]⟩)]) 32 rfl Tryz.underlying26 info105 rfl (by decide) (by omega) v256 y255 y258 _ _ _ (fun k_ => some k_ ≠ (v266 : Value).ownBlock ∧ k_ ≠ gb250) (fun _ => False) rfl rfl ?aO ?aR (fun _ _ h => h) (fun _ h => h.elim) ?aF ?aB ?aS ?aL ?_
           (case aR => exact ca HR261 HB)
           (case aB => exact (bt HB))
           (case aF => exact (fun k_ hk => ⟨Kd.fresh' (Kd.R_lt (rk HO267)) k_ hk, Kd.freshB (g := gb250) (o := .cells #[.int .i64 a2_0, .int .i64 a2_1, .string a2_2] 105 (0, 0)) (bk BK250) k_ hk⟩))
           (case aO => exact (rk HO257))
           (case aS => exact (below_size (bt HB)))
           (case aL => have := LMc24.out; omega)
           intro v263 w36 ho hb hg hat; rw [← Ny262.out] at ho
           have n0_ := ak (blk_grown (g := gb249) (o := .cells #[.int .i64 a0_0, .int .i64 a0_1, .slice A0_2 l0_2.length c0_2] 28 (0, 0)) (bk BK249) hg (Kd.R_ne HO257.out BK249.out (by decide)))
           have n1_ := ak (blk_grown (g := gb250) (o := .cells #[.int .i64 a2_0, .int .i64 a2_1, .string a2_2] 105 (0, 0)) (bk BK250) hg (Kd.R_away HO257.out (fun _ hk => hk.2)))
           have n2_ := ak (blk_grown (g := gb251) (o := .cells #[.int .i64 0, .int .i64 0, .slice none 0 0] 28 (0, 0)) (bk BK251) hg (Kd.R_ne HO257.out BK251.out (by decide)))
           have n3_ := ak (Kd.R_after (ok := (fun k_ => k_ ≠ gb250)) (Kd.R_mono (rk HO267) (fun _ hk => ⟨hk.2, hk.1⟩)) hg hat)
           have n4_ := ak (blk_grown (g := gb271) (o := .cells #[.int .i64 0, .int .i64 0, .slice none 0 0] 28 (0, 0)) (bk BK271) hg (Kd.R_ne HO257.out BK271.out (by decide)))
           have n5_ := ak hb; have n6_ := ak ho; clear BK249 BK250 BK251 HO267 BK271 HB HO257; revert n0_ n1_ n2_ n3_ n4_ n5_ n6_; intro BK249 BK250 BK251 HO267 BK271 HB HO264; clear ho hb hg hat
           refine hK.out _ _ hp fun hHeld => ?_
           clear hK K; refine nm 37 ?_
           exact norm_ (by first | (simp only [putAll, Act.put, zA, zB, zC]; done) | (simp only [putAll, Act.put, zA, zB, zC]; rfl)) (hJ4_13_15_18 (v256, v263, v266, gb271) _ ⟨hHeld, (rk HO264), (Kd.R_mono (rk HO267) (fun _ hk => ⟨hk.2, hk.1⟩)), (bk BK249), (bk BK250), (bk BK251), (bk BK271), GE271.out, GE271.out, NB249_271.out, NB271_249.out, NB250_271.out, NB271_250.out, NB251_271.out, NB271_251.out, (bt HB)⟩)
         ·skip
          rintro ⟨v256, v263, gb271⟩ w34 ⟨hS_, h0_, h1_, h2_, h3_, h4_, h5_, h6_, h7_, h8_, h9_, h10_, h11_, h12_, h13_⟩; have n0_ := ak h0_; have n1_ := ak h1_; have n2_ := ak h2_; have n3_ := ak h3_; have n4_ := ak h4_; have n5_ := ak h5_; have n6_ := ak h6_; have n7_ := ak h7_; have n8_ := ak h8_; have n9_ := ak h9_; have n10_ := ak h10_; have n11_ := ak h11_; have n12_ := ak h12_; have n13_ := ak h13_; clear BK249; clear BK250; clear BK251; clear HB; clear h0_ h1_ h2_ h3_ h4_ h5_ h6_ h7_ h8_ h9_ h10_ h11_ h12_ h13_; have HO264 := n0_; have BK249 := n1_; have BK250 := n2_; have BK251 := n3_; have BK271 := n4_; have GE271 := n5_; have GE271 := n6_; have NB249_271 := n7_; have NB271_249 := n8_; have NB250_271 := n9_; have NB271_250 := n10_; have NB251_271 := n11_; have NB271_251 := n12_; have HB := n13_; clear n0_ n1_ n2_ n3_ n4_ n5_ n6_ n7_ n8_ n9_ n10_ n11_ n12_ n13_; have hHeld := hS_; refine nq ?_
          refine on HT_ 15 39 fun K hK => ?_
          refine Kd.R_lit_step k105 _ 105 ?hg (N := 39) ?hd (xs := ([(⟨a2_0, a2_1, a2_2⟩ : S105)] : List (S105))) (inner := [.int .i64 a2_0, .int .i64 a2_1, .string a2_2]) (ok := fun _ => True) (okp := fun _ => True) ?hr ?hp (fun _ hk => hk) trivial (Below.refl _ _) (Nat.le_refl _) (by simp) ?_; (case hd => rfl); (case hg => rfl); (case hr => first | (go_simp; done) | (go_simp; rfl)); (case hp => exact (Reps.c3 (show Kd.M k105 _ _ _ (⟨a2_0, a2_1, a2_2⟩ : S105) [.int .i64 a2_0, .int .i64 a2_1, .string a2_2] from (k105_mkM _ _ _ (⟨a2_0, a2_1, a2_2⟩ : S105) )) (Reps.none _ _)))
          intro v266 w35 ho36 hb hg_ hnew_; clear hg_ hnew_
          (first | rw [← Ny265.out] at ho36 | (simp only [Int.reduceToNat] at ho36; rw [← Ny265.out] at ho36))
          have HO267 := ak (Kd.R_lower (Kd.R_newB (Kd.R_new' ho36 (Kd.R_lt (rk HO264))) (g := gb250) (o := .cells #[.int .i64 a2_0, .int .i64 a2_1, .string a2_2] 105 (0, 0)) (bk BK250)) (below_size (bt HB))); replace HO264 := ak (Kd.R_elder' (rk HO264) (Kd.R_base ho36) hb); replace BK249 := bb BK249 hb; replace BK250 := bb BK250 hb; replace BK251 := bb BK251 hb; replace BK271 := bb BK271 hb; replace HB := bs1 HB hb; clear hb ho36
          refine hK.out _ _ hp fun hHeld => ?_
          clear hK K; refine nm 39 ?_
          exact norm_ (by first | (simp only [putAll, Act.put, zA, zB, zC]; done) | (simp only [putAll, Act.put, zA, zB, zC]; rfl)) (hJ4_13_15_18 (v256, v263, v266, gb271) _ ⟨hHeld, (Kd.R_mono (rk HO264) (fun _ hk => ⟨hk.2, hk.1⟩)), (Kd.R_mono (rk HO267) (fun _ hk => ⟨hk.1.2, hk.2⟩)), (bk BK249), (bk BK250), (bk BK251), (bk BK271), GE271.out, GE271.out, NB249_271.out, NB271_249.out, NB250_271.out, NB271_250.out, NB251_271.out, NB271_251.out, (bt HB)⟩)
        ·skip
         rintro ⟨v256, v263, v266⟩ w35 ⟨hS_, h0_, h1_, h2_, h3_, h4_, h5_⟩; have n0_ := ak h0_; have n1_ := ak h1_; have n2_ := ak h2_; have n3_ := ak h3_; have n4_ := ak h4_; have n5_ := ak h5_; clear BK249; clear BK250; clear BK251; clear HB; clear h0_ h1_ h2_ h3_ h4_ h5_; have HO264 := n0_; have HO267 := n1_; have BK249 := n2_; have BK250 := n3_; have BK251 := n4_; have HB := n5_; clear n0_ n1_ n2_ n3_ n4_ n5_; have hHeld := hS_; obtain ⟨Ao37, co37, eo37⟩ := Kd.R_slice HO267.out
         (first | subst eo37 | (injection eo37 with f1_ f2_ f3_; have f4_ := f1_.symm; have f5_ := f3_.symm; clear f1_ f2_ f3_; subst f4_; subst f5_))
         refine nq ?_
         refine two_ (i := 16) (j := 18) (Ni := some 40) (Nj := some 8) #[true, true, true, true, true, true, true, true, true, true, true, true, true, true, true, true, true, false, false, false] #[true, true, true, true, true, true, true, true, true, true, true, true, true, true, true, true, false, false, true, false] rfl rfl rfl rfl (two_of HT_.out (by kernel_rfl)) (by decide) (by decide) (fun K hK => ?_) (fun K hK => ?_)
         ·skip
          refine Kd.R_append_rows_step k105 (w0 := w) w.heap.size (by rfl) (.tmp 37) (.tmp 39) 26 105 (.agg #[(.int .i64 0), (.int .i64 0), (.string ⟨#[]⟩)]) 32 rfl Tryz.underlying26 info105 rfl (by decide) (by omega) v263 y262 y265 _ _ _ (fun k_ => some k_ ≠ (.slice Ao37 y265.length co37 : Value).ownBlock ∧ k_ ≠ gb250) (fun _ => False) rfl rfl ?aO ?aR (fun _ _ h => h) (fun _ h => h.elim) ?aF ?aB ?aS ?aL ?_
          (case aR => exact cr HO267)
          (case aB => exact (bt HB))
          (case aF => exact (fun k_ hk => ⟨Kd.fresh' (Kd.R_lt (rk HO267)) k_ hk, Kd.freshB (g := gb250) (o := .cells #[.int .i64 a2_0, .int .i64 a2_1, .string a2_2] 105 (0, 0)) (bk BK250) k_ hk⟩))
          (case aO => exact (rk HO264))
          (case aS => exact (below_size (bt HB)))
          (case aL => have := LMc25.out; omega)
          intro v269 w36 ho hb hg hat; rw [← Ny268.out] at ho
          have n0_ := ak (blk_grown (g := gb249) (o := .cells #[.int .i64 a0_0, .int .i64 a0_1, .slice A0_2 l0_2.length c0_2] 28 (0, 0)) (bk BK249) hg (Kd.R_ne HO264.out BK249.out (by decide)))
          have n1_ := ak (blk_grown (g := gb250) (o := .cells #[.int .i64 a2_0, .int .i64 a2_1, .string a2_2] 105 (0, 0)) (bk BK250) hg (Kd.R_away HO264.out (fun _ hk => hk.2)))
          have n2_ := ak (blk_grown (g := gb251) (o := .cells #[.int .i64 0, .int .i64 0, .slice none 0 0] 28 (0, 0)) (bk BK251) hg (Kd.R_ne HO264.out BK251.out (by decide)))
          have n3_ := ak (Kd.R_after (ok := (fun k_ => k_ ≠ gb250)) (Kd.R_mono (rk HO267) (fun _ hk => ⟨hk.2, hk.1⟩)) hg hat)
          have n4_ := ak hb; have n5_ := ak ho; clear BK249 BK250 BK251 HO267 HB HO264; revert n0_ n1_ n2_ n3_ n4_ n5_; intro BK249 BK250 BK251 HO267 HB HO270; clear ho hb hg hat; obtain ⟨Ao38, co38, eo38⟩ := Kd.R_slice HO270.out
          (first | subst eo38 | (injection eo38 with f1_ f2_ f3_; have f4_ := f1_.symm; have f5_ := f3_.symm; clear f1_ f2_ f3_; subst f4_; subst f5_))
          refine hK.out _ _ hp fun hHeld => ?_
          clear hK K; refine nm 40 ?_; refine pu HT_ 17 41 ?_
          exact norm_ (by first | (simp only [putAll, Act.put, zA, zB, zC]; done) | (simp only [putAll, Act.put, zA, zB, zC]; rfl)) (hJ4_13_15_16 (v256, v263, .slice Ao37 y265.length co37, .slice Ao38 y268.length co38) _ ⟨hHeld, (Kd.R_mono (rk HO267) (fun _ hk => ⟨hk.2, hk.1⟩)), (rk HO270), (bk BK249), (bk BK250), (bk BK251), (bt HB)⟩)
         ·skip
          refine box_step ?hg (N := 8) ?hd (cs := #[.int .i64 0, .int .i64 0, .slice none 0 0]) (t := 28) ?hr ?_; (case hd => rfl); (case hg => rfl); (case hr => first | (go_simp; done) | (go_simp; rfl))
          intro gb271 hg w36 hbox hb; replace HO264 := rb HO264 hb; replace HO267 := rb HO267 hb; have BK271 := ak hbox; have GE271 := ge_ hg HB; replace HB := bs1 HB hb; have NB249_271 := nl_ hg BK249; have NB271_249 := nr_ hg BK249; replace BK249 := bb BK249 hb; have NB250_271 := nl_ hg BK250; have NB271_250 := nr_ hg BK250; replace BK250 := bb BK250 hb; have NB251_271 := nl_ hg BK251; have NB271_251 := nr_ hg BK251; replace BK251 := bb BK251 hb; clear hb hbox hg
          refine hK.out _ _ hp fun hHeld => ?_
          clear hK K; refine nm 8 ?_
          exact norm_ (by first | (simp only [putAll, Act.put, zA, zB, zC]; done) | (simp only [putAll, Act.put, zA, zB, zC]; rfl)) (hJ4_13_15_18 (v256, v263, .slice Ao37 y265.length co37, gb271) _ ⟨hHeld, (rk HO264), (rk HO267), (bk BK249), (bk BK250), (bk BK251), (bk BK271), GE271.out, GE271.out, NB249_271.out, NB271_249.out, NB250_271.out, NB271_250.out, NB251_271.out, NB271_251.out, (bt HB)⟩)
       ·skip
        rintro ⟨v256, v263, v266, gb271⟩ w36 ⟨hS_, h0_, h1_, h2_, h3_, h4_, h5_, h6_, h7_, h8_, h9_, h10_, h11_, h12_, h13_, h14_⟩; have n0_ := ak h0_; have n1_ := ak h1_; have n2_ := ak h2_; have n3_ := ak h3_; have n4_ := ak h4_; have n5_ := ak h5_; have n6_ := ak h6_; have n7_ := ak h7_; have n8_ := ak h8_; have n9_ := ak h9_; have n10_ := ak h10_; have n11_ := ak h11_; have n12_ := ak h12_; have n13_ := ak h13_; have n14_ := ak h14_; clear BK249; clear BK250; clear BK251; clear HB; clear h0_ h1_ h2_ h3_ h4_ h5_ h6_ h7_ h8_ h9_ h10_ h11_ h12_ h13_ h14_; have HO264 := n0_; have HO267 := n1_; have BK249 := n2_; have BK250 := n3_; have BK251 := n4_; have BK271 := n5_; have GE271 := n6_; have GE271 := n7_; have NB249_271 := n8_; have NB271_249 := n9_; have NB250_271 := n10_; have NB271_250 := n11_; have NB251_271 := n12_; have NB271_251 := n13_; have HB := n14_; clear n0_ n1_ n2_ n3_ n4_ n5_ n6_ n7_ n8_ n9_ n10_ n11_ n12_ n13_ n14_; have hHeld := hS_; obtain ⟨Ao38, co38, eo38⟩ := Kd.R_slice HO267.out
        (first | subst eo38 | (injection eo38 with f1_ f2_ f3_; have f4_ := f1_.symm; have f5_ := f3_.symm; clear f1_ f2_ f3_; subst f4_; subst f5_))
        refine nq ?_
        refine on HT_ 16 40 fun K hK => ?_
        refine Kd.R_append_rows_step k105 (w0 := w) w.heap.size (by rfl) (.tmp 37) (.tmp 39) 26 105 (.agg #[(.int .i64 0), (.int .i64 0), (.string ⟨#[]⟩)]) 32 rfl Tryz.underlying26 info105 rfl (by decide) (by omega) v263 y262 y265 _ _ _ (fun k_ => some k_ ≠ (.slice Ao38 y265.length co38 : Value).ownBlock ∧ k_ ≠ gb250) (fun _ => False) rfl rfl ?aO ?aR (fun _ _ h => h) (fun _ h => h.elim) ?aF ?aB ?aS ?aL ?_
        (case aR => exact cr HO267)
        (case aB => exact (bt HB))
        (case aF => exact (fun k_ hk => ⟨Kd.fresh' (Kd.R_lt (rk HO267)) k_ hk, Kd.freshB (g := gb250) (o := .cells #[.int .i64 a2_0, .int .i64 a2_1, .string a2_2] 105 (0, 0)) (bk BK250) k_ hk⟩))
        (case aO => exact (rk HO264))
        (case aS => exact (below_size (bt HB)))
        (case aL => have := LMc25.out; omega)
        intro v269 w37 ho hb hg hat; rw [← Ny268.out] at ho
        have n0_ := ak (blk_grown (g := gb249) (o := .cells #[.int .i64 a0_0, .int .i64 a0_1, .slice A0_2 l0_2.length c0_2] 28 (0, 0)) (bk BK249) hg (Kd.R_ne HO264.out BK249.out (by decide)))
        have n1_ := ak (blk_grown (g := gb250) (o := .cells #[.int .i64 a2_0, .int .i64 a2_1, .string a2_2] 105 (0, 0)) (bk BK250) hg (Kd.R_away HO264.out (fun _ hk => hk.2)))
        have n2_ := ak (blk_grown (g := gb251) (o := .cells #[.int .i64 0, .int .i64 0, .slice none 0 0] 28 (0, 0)) (bk BK251) hg (Kd.R_ne HO264.out BK251.out (by decide)))
        have n3_ := ak (Kd.R_after (ok := (fun k_ => k_ ≠ gb250)) (Kd.R_mono (rk HO267) (fun _ hk => ⟨hk.2, hk.1⟩)) hg hat)
        have n4_ := ak (blk_grown (g := gb271) (o := .cells #[.int .i64 0, .int .i64 0, .slice none 0 0] 28 (0, 0)) (bk BK271) hg (Kd.R_ne HO264.out BK271.out (by decide)))
        have n5_ := ak hb; have n6_ := ak ho; clear BK249 BK250 BK251 HO267 BK271 HB HO264; revert n0_ n1_ n2_ n3_ n4_ n5_ n6_; intro BK249 BK250 BK251 HO267 BK271 HB HO270; clear ho hb hg hat; obtain ⟨Ao39, co39, eo39⟩ := Kd.R_slice HO270.out
        (first | subst eo39 | (injection eo39 with f1_ f2_ f3_; have f4_ := f1_.symm; have f5_ := f3_.symm; clear f1_ f2_ f3_; subst f4_; subst f5_))
        refine hK.out _ _ hp fun hHeld => ?_
        clear hK K; refine nm 40 ?_; refine pu HT_ 17 41 ?_
        exact norm_ (by first | (simp only [putAll, Act.put, zA, zB, zC]; done) | (simp only [putAll, Act.put, zA, zB, zC]; rfl)) (hJ4_13_15_16_18 (v256, v263, .slice Ao38 y265.length co38, .slice Ao39 y268.length co39, gb271) _ ⟨hHeld, (Kd.R_mono (rk HO267) (fun _ hk => ⟨hk.2, hk.1⟩)), (rk HO270), (bk BK249), (bk BK250), (bk BK251), (bk BK271), GE271.out, GE271.out, NB249_271.out, NB271_249.out, NB250_271.out, NB271_250.out, NB251_271.out, NB271_251.out, (bt HB)⟩)
      ·skip
       rintro ⟨v256, v263, v266, v269⟩ w38 ⟨hS_, h0_, h1_, h2_, h3_, h4_, h5_⟩; have n0_ := ak h0_; have n1_ := ak h1_; have n2_ := ak h2_; have n3_ := ak h3_; have n4_ := ak h4_; have n5_ := ak h5_; clear BK249; clear BK250; clear BK251; clear HB; clear h0_ h1_ h2_ h3_ h4_ h5_; have HO267 := n0_; have HO270 := n1_; have BK249 := n2_; have BK250 := n3_; have BK251 := n4_; have HB := n5_; clear n0_ n1_ n2_ n3_ n4_ n5_; have hHeld := hS_; obtain ⟨Ao39, co39, eo39⟩ := Kd.R_slice HO270.out
       (first | subst eo39 | (injection eo39 with f1_ f2_ f3_; have f4_ := f1_.symm; have f5_ := f3_.symm; clear f1_ f2_ f3_; subst f4_; subst f5_))
       refine nq ?_
       refine on HT_ 18 8 fun K hK => ?_
       refine box_step ?hg (N := 8) ?hd (cs := #[.int .i64 0, .int .i64 0, .slice none 0 0]) (t := 28) ?hr ?_; (case hd => rfl); (case hg => rfl); (case hr => first | (go_simp; done) | (go_simp; rfl))
       intro gb271 hg w40 hbox hb; replace HO267 := rb HO267 hb; replace HO270 := rb HO270 hb; have BK271 := ak hbox; have GE271 := ge_ hg HB; replace HB := bs1 HB hb; have NB249_271 := nl_ hg BK249; have NB271_249 := nr_ hg BK249; replace BK249 := bb BK249 hb; have NB250_271 := nl_ hg BK250; have NB271_250 := nr_ hg BK250; replace BK250 := bb BK250 hb; have NB251_271 := nl_ hg BK251; have NB271_251 := nr_ hg BK251; replace BK251 := bb BK251 hb; clear hb hbox hg
       refine hK.out _ _ hp fun hHeld => ?_
       clear hK K; refine nm 8 ?_
       exact norm_ (by first | (simp only [putAll, Act.put, zA, zB, zC]; done) | (simp only [putAll, Act.put, zA, zB, zC]; rfl)) (hJ4_13_15_16_18 (v256, v263, v266, .slice Ao39 y268.length co39, gb271) _ ⟨hHeld, (rk HO267), (rk HO270), (bk BK249), (bk BK250), (bk BK251), (bk BK271), GE271.out, GE271.out, NB249_271.out, NB271_249.out, NB250_271.out, NB271_250.out, NB251_271.out, NB271_251.out, (bt HB)⟩)
     rintro ⟨v256, v263, v266, v269, gb271⟩ w39 ⟨hS_, h0_, h1_, h2_, h3_, h4_, h5_, h6_, h7_, h8_, h9_, h10_, h11_, h12_, h13_, h14_⟩; have n0_ := ak h0_; have n1_ := ak h1_; have n2_ := ak h2_; have n3_ := ak h3_; have n4_ := ak h4_; have n5_ := ak h5_; have n6_ := ak h6_; have n7_ := ak h7_; have n8_ := ak h8_; have n9_ := ak h9_; have n10_ := ak h10_; have n11_ := ak h11_; have n12_ := ak h12_; have n13_ := ak h13_; have n14_ := ak h14_; clear BK249; clear BK250; clear BK251; clear HB; clear h0_ h1_ h2_ h3_ h4_ h5_ h6_ h7_ h8_ h9_ h10_ h11_ h12_ h13_ h14_; have HO267 := n0_; have HO270 := n1_; have BK249 := n2_; have BK250 := n3_; have BK251 := n4_; have BK271 := n5_; have GE271 := n6_; have GE271 := n7_; have NB249_271 := n8_; have NB271_249 := n9_; have NB250_271 := n10_; have NB271_250 := n11_; have NB251_271 := n12_; have NB271_251 := n13_; have HB := n14_; clear n0_ n1_ n2_ n3_ n4_ n5_ n6_ n7_ n8_ n9_ n10_ n11_ n12_ n13_ n14_; have hHeld := hS_; obtain ⟨Ao40, co40, eo40⟩ := Kd.R_slice HO270.out
     (first | subst eo40 | (injection eo40 with f1_ f2_ f3_; have f4_ := f1_.symm; have f5_ := f3_.symm; clear f1_ f2_ f3_; subst f4_; subst f5_))
     refine nq ?_
     refine on0 HT_ 19 fun K hK => ?_
     have hs41 : w39.cell? ⟨gb271, 0, none⟩ = some (.int .i64 0) := bc BK271 0; have hfs41 := blk_frozen BK271.out 0; have hns41_0 := NB249_271.out; have hns41_1 := NB250_271.out; have hns41_2 := NB251_271.out; have hms41_0 := NB271_249.out; have hms41_1 := NB271_250.out; have hms41_2 := NB271_251.out; have hs42 : w39.cell? ⟨gb271, 1, none⟩ = some (.int .i64 0) := bc BK271 1; have hfs42 := blk_frozen BK271.out 1; have hns42_0 := NB249_271.out; have hns42_1 := NB250_271.out; have hns42_2 := NB251_271.out; have hms42_0 := NB271_249.out; have hms42_1 := NB271_250.out; have hms42_2 := NB271_251.out; have hs43 : w39.cell? ⟨gb271, 2, none⟩ = some (.slice none 0 0) := bc BK271 2; have hfs43 := blk_frozen BK271.out 2; have hns43_0 := NB249_271.out; have hns43_1 := NB250_271.out; have hns43_2 := NB251_271.out; have hms43_0 := NB271_249.out; have hms43_1 := NB271_250.out; have hms43_2 := NB271_251.out; refine sk ?_
     refine hK.out _ _ hp fun hHeld => ?_
     clear hK K; refine dn HT_ ?_; have := NB271_249.out; have := NB249_271.out; have := NB271_250.out; have := NB250_271.out; have := NB271_251.out; have := NB251_271.out; obtain ⟨_, _, _, _, _, _⟩ := bc3 BK271
    rotate_left
    all_goals
     try go_wp2_with (first | ((with_reducible refine gd 43 rfl ?_); refine gc 43 Tryz.func47 (spec_LogOk.calls kj3 a0_0 a0_1 _ _ y268 _ _ ?s1 ?s2 A26.out) fun w48 hb => ?_; (case s1 => exact rcf HO270 BK271); (case s2 => exact (Kd.R_reads' HO270.out).2.1); replace HO267 := rfb HO267 BK271 hb; replace HO270 := rfb HO270 BK271 hb; replace BK249 := bbg BK249 hb; replace BK250 := bbg BK250 hb; replace BK251 := bbg BK251 hb; replace BK271 := bbp BK271 hb #[.int .i64 a0_0, .int .i64 a0_1, .slice Ao40 y268.length co40]; replace HB := bs1 HB hb; obtain ⟨_, _, _, _, _, _⟩ := bc3 BK271; have := NB251_249.out; have := NB249_251.out; have := NB251_250.out; have := NB250_251.out; obtain ⟨_, _, _, _, _, _⟩ := bc3 BK251))
    ·refine bodyPost_ret (results_ct rfl _ _ gb251 28 #[.int .i64 a0_0, .int .i64 a0_1, .slice Ao40 y268.length co40] (0, 0) _ rfl (bp BK251) Tryz.underlying28 rfl (by kernel_rfl)) rfl ?_
     exact ⟨_, by first | rfl | (simp [errW_none, errW_some] <;> rfl) | (simp only [← hji21]; first | rfl | (simp [errW_none, errW_some] <;> rfl)) | (simp [*, errW_none, errW_some] <;> rfl), by (with_reducible repeat (first | apply Kd.R_alloc | apply Kd.R_drewN | apply Kd.R_drew)); exact rfm HO270 BK251, bt HB⟩
    ·refine bodyPost_ret (results_ct rfl _ _ gb251 28 #[.int .i64 0, .int .i64 0, .slice none 0 0] (0, 0) _ rfl (bp BK251) Tryz.underlying28 rfl (by kernel_rfl)) rfl ?_
     exact ⟨_, by first | rfl | (simp [errW_none, errW_some] <;> rfl) | (simp only [← hji21]; first | rfl | (simp [errW_none, errW_some] <;> rfl)) | (simp [*, errW_none, errW_some] <;> rfl), by first | exact Kd.R_nil _ _ _ _ _ | exact Kd.N_nil _ _ _ _ _ | exact Kd.V_nil _ _ _ _ _ | exact Kd.Q_nil _ _ _ _ _ | exact Kd.S_nil _ _ _ _ _, bt HB⟩
end Go.Proofs.YtdepaileabejgaaGreatDoor.PFnExactOpenJournal
