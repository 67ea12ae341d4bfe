/- Walks. No condition. -/
import Derived.Test.YtdepaileabejgaaGreatDoorQFnExactOpenJournalx5
namespace Go.Proofs.YtdepaileabejgaaGreatDoor.PFnExactOpenJournal
open Go.RowKit Go.Proofs.YtdepaileabejgaaGreatDoorW.PrintWords Go.Proofs.YtdepaileabejgaaGreatDoorW.PrintLast Go.Proofs.YtdepaileabejgaaGreatDoorW.PrintMore Go.Proofs.YtdepaileabejgaaGreatDoorW.Short
attribute [local go_sem] max2_int min2_int max_two min_two max_three min_three max_four min_four
set_option maxHeartbeats 8000000
set_option maxRecDepth 100000
set_option linter.unusedVariables false
set_option linter.unusedSimpArgs false
def spec_l05Var.f (k : Nat) (s0_0 : ByteArray) (s0_1 : Int) (s0_2 : Bool) : Option (Int × ByteArray × Int × Bool) := (spec_ReadVar.f k s0_0 s0_1).bind fun bt162 => (if s0_2 = true then (some (0, s0_0, s0_1, true)) else (if bt162.2.2 = true then (some (bt162.1, s0_0, bt162.2.1, s0_2)) else (some (0, s0_0, s0_1, true))))
def spec_l05Var.T1 : Bool × List (List Nat × List Nat) := (true, [([], []), ([0], [0]), ([1], [1]), ([2], [2]), ([], []), ([4], [4]), ([5], [5]), ([6], [6]), ([3, 7], [3, 7]), ([8], [8]), ([9], [9]), ([9], [9]), ([9], [9]), ([10, 8, 0, 1, 2, 3, 4, 5, 6, 7, 8, 9, 10], [10]), ([11, 13, 0, 1, 2, 3, 4, 5, 6, 7, 8, 9, 10, 11, 13], [11]), ([12, 14, 0, 1, 2, 3, 4, 5, 6, 7, 8, 9, 10, 11, 12, 13, 14], [12])])
def spec_l05Var.B1 : List Nat := [0, 1, 3, 7, 0, 16, 48, 112, 255, 511, 1023, 1023, 1023, 2047, 12287, 32767]
theorem spec_l05Var.tab1 : rtab .any (opsOf Tryz.f69 1) = spec_l05Var.T1 := by kernel_rfl
theorem spec_l05Var.bits1 : waitsOk spec_l05Var.T1.2 spec_l05Var.B1 = true := by kernel_rfl
theorem spec_l05Var.calls (k : Nat) (g : Nat) (s0_0 : ByteArray) (s0_1 : Int) (s0_2 : Bool) (r1 : Int) (r2 : ByteArray) (r3 : Int) (r4 : Bool) (w0 w : World) (hI : IsS100 w0 w g s0_0 s0_1 s0_2) (hB : Below w0.heap.size w0 w) (H : spec_l05Var.f k s0_0 s0_1 s0_2 = some (r1, r2, r3, r4)) :
 Calls Tryz.prog 69 #[.pointer (some ⟨g, 0, none⟩)] w fun e w' => e = .returned (.int .i64 r1) ∧ IsS100 w0 w' g r2 r3 r4 ∧ Below w0.heap.size w0 w' ∧ KeepBut w w' g none := by
 have HI0 := ak hI; have HK := ak (KeepBut.refl w g none); have HL := ak hB.size; clear hI; have HW0 := ak hB.size; have HB := ak hB; clear hB; unfold spec_l05Var.f at H; obtain ⟨⟨t162, t163, t164⟩, A2, H⟩ := bo H
 try dsimp only at H
 cases s0_2; rotate_left
 ·rw [if_pos rfl] at H; obtain ⟨rfl, rfl, rfl, rfl⟩ := o4 H; go_enter Tryz.func69, Tryz.ntmps69
  try go_wp2
  replace HI0 := ak (IsS100.drew HI0.out); replace HK := ak (keep_drew HK.out); replace HB := ak (below_drew1 HB.out)
  refine st 16 (fun w' => d3 w' g (.string s0_0) (.int .i64 s0_1) (.bool true)) spec_l05Var.tab1 spec_l05Var.bits1 ⟨(blk_cell (ak HI0.out.1).out 0).trans rfl, (blk_cell (ak HI0.out.1).out 1).trans rfl, (blk_cell (ak HI0.out.1).out 2).trans rfl⟩ fun hHeld HT_ HW_ => ?_
  generalize w.drew = w4 at HI0 HK HB hHeld ⊢
  refine pu HT_ 0 7 ?_; refine pu HT_ 1 8 ?_; refine pu HT_ 2 9 ?_; refine pu HT_ 4 11 ?_; refine pu HT_ 5 12 ?_; refine pu HT_ 6 13 ?_; refine tk HT_ HW_ hHeld 3 10 ?_; refine tk HT_ HW_ hHeld 7 14 ?_
  refine on HT_ 8 15 fun K hK => ?_
  refine gq Tryz.func67 (spec_ReadVar.calls k s0_0 s0_1 t162 t163 t164 _ A2.out) fun w5 hb => ?_
  replace HK := ak (KeepBut.trans (kb HK) (KeepBut.of_below hb g none) (.inl rfl))
  replace HB := ak (below_step (ib100 HB HI0) hb); replace HI0 := ak (IsS100.below (is100 HI0) hb)
  refine hK.out _ _ ⟨(blk_cell (ak HI0.out.1).out 0).trans rfl, (blk_cell (ak HI0.out.1).out 1).trans rfl, (blk_cell (ak HI0.out.1).out 2).trans rfl⟩ fun hHeld => ?_
  clear hK K; refine nm 15 ?_; refine pu HT_ 9 6 ?_; refine pu HT_ 10 16 ?_; refine pu HT_ 11 17 ?_; refine pu HT_ 12 18 ?_; refine pu HT_ 13 3 ?_; refine pu HT_ 14 4 ?_; refine pu HT_ 15 5 ?_; refine dn HT_ ?_; obtain ⟨HGz6, hgz6⟩ := HI0.out; have hcz6_0 := cellS100_0 HGz6; have hcz6_1 := cellS100_1 HGz6; have hcz6_2 := cellS100_2 HGz6; have hfz6_0 := blk_frozen HGz6 0; have hfz6_1 := blk_frozen HGz6 1; have hfz6_2 := blk_frozen HGz6 2; clear HGz6 hgz6
  try go_wp2
  go_ret
  exact ⟨fe, is100 HI0, ib100 HB HI0, kb HK⟩
 ·rw [if_neg nf] at H; cases t164; rotate_left; rw [if_pos rfl] at H; obtain ⟨rfl, rfl, rfl, rfl⟩ := o4 H; rotate_left; rw [if_neg nf] at H; obtain ⟨rfl, rfl, rfl, rfl⟩ := o4 H
  all_goals
   go_enter Tryz.func69, Tryz.ntmps69
   try go_wp2
   replace HI0 := ak (IsS100.drew HI0.out); replace HK := ak (keep_drew HK.out); replace HB := ak (below_drew1 HB.out)
   refine st 16 (fun w' => d3 w' g (.string s0_0) (.int .i64 s0_1) (.bool false)) spec_l05Var.tab1 spec_l05Var.bits1 ⟨(blk_cell (ak HI0.out.1).out 0).trans rfl, (blk_cell (ak HI0.out.1).out 1).trans rfl, (blk_cell (ak HI0.out.1).out 2).trans rfl⟩ fun hHeld HT_ HW_ => ?_
   generalize w.drew = w11 at HI0 HK HB hHeld ⊢
   refine pu HT_ 0 7 ?_; refine pu HT_ 1 8 ?_; refine pu HT_ 2 9 ?_; refine pu HT_ 4 11 ?_; refine pu HT_ 5 12 ?_; refine pu HT_ 6 13 ?_; refine tk HT_ HW_ hHeld 3 10 ?_; refine tk HT_ HW_ hHeld 7 14 ?_
   refine on HT_ 8 15 fun K hK => ?_
   refine gq Tryz.func67 (spec_ReadVar.calls k s0_0 s0_1 t162 t163 _ _ A2.out) fun w12 hb => ?_
   replace HK := ak (KeepBut.trans (kb HK) (KeepBut.of_below hb g none) (.inl rfl))
   replace HB := ak (below_step (ib100 HB HI0) hb); replace HI0 := ak (IsS100.below (is100 HI0) hb)
   refine hK.out _ _ ⟨(blk_cell (ak HI0.out.1).out 0).trans rfl, (blk_cell (ak HI0.out.1).out 1).trans rfl, (blk_cell (ak HI0.out.1).out 2).trans rfl⟩ fun hHeld => ?_
   clear hK K; refine nm 15 ?_; refine pu HT_ 9 6 ?_; refine pu HT_ 10 16 ?_; refine pu HT_ 11 17 ?_; refine pu HT_ 12 18 ?_; refine pu HT_ 13 3 ?_; refine pu HT_ 14 4 ?_; refine pu HT_ 15 5 ?_; refine dn HT_ ?_; obtain ⟨HGz13, hgz13⟩ := HI0.out; have hcz13_0 := cellS100_0 HGz13; have hcz13_1 := cellS100_1 HGz13; have hcz13_2 := cellS100_2 HGz13; have hfz13_0 := blk_frozen HGz13 0; have hfz13_1 := blk_frozen HGz13 1; have hfz13_2 := blk_frozen HGz13 2; clear HGz13 hgz13
   try go_wp2
   go_ret
   exact ⟨fe, is100 HI0, ib100 HB HI0, kb HK⟩
def spec_l07Two.f (k : Nat) (a0 : ByteArray) (a1 : ByteArray) : Option (Int × Int × Bool) := (spec_l05Take.f a0 0 false 1).bind fun bt166 => ((spec_l05Var.f k bt166.2.1 bt166.2.2.1 bt166.2.2.2).bind fun bt170 => ((spec_l05Var.f k bt170.2.1 bt170.2.2.1 bt170.2.2.2).bind fun bt174 => (if bt174.2.2.2 = true then (some (0, 0, false)) else ((spec_l01Var.f k bt170.1).bind fun t178 => (if a1.size + t178.size ≤ 9223372036854775807 then ((spec_l01Var.f k bt174.1).bind fun t179 => (if (a1 ++ t178).size + t179.size ≤ 9223372036854775807 then (if ((a1 ++ t178) ++ t179).toList = a0.toList then (some (bt170.1, bt174.1, true)) else (some (0, 0, false))) else (none))) else (none))))))
theorem spec_l07Two.calls (k : Nat) (a0 : ByteArray) (a1 : ByteArray) (r1 : Int) (r2 : Int) (r3 : Bool) (w : World) (H : spec_l07Two.f k a0 a1 = some (r1, r2, r3)) :
 Calls Tryz.prog 46 #[.string a0, .string a1] w fun e w' => e = .returned (.tuple #[.int .i64 r1, .int .i64 r2, .bool r3]) ∧ Below w.heap.size w w' := by
 have hu100 := Tryz.underlying100; have HB := ak (Below.refl w.heap.size w); unfold spec_l07Two.f at H; obtain ⟨⟨t166, t167, t168, t169⟩, A3, H⟩ := bo H
 try dsimp only at H
 obtain ⟨⟨t170, t171, t172, t173⟩, A4, H⟩ := bo H
 try dsimp only at H
 obtain ⟨⟨t174, t175, t176, t177⟩, A5, H⟩ := bo H
 try dsimp only at H
 cases t177; rotate_left; rw [if_pos rfl] at H; obtain ⟨rfl, rfl, rfl⟩ := o3 H; rotate_left
 focus
  rw [if_neg nf] at H; obtain ⟨t178, A12, H⟩ := bo H; obtain ⟨c13, H⟩ := ifs H; have c13b0 := eq_true c13; have c13b1 := dt c13
  try have c13b2 : (9223372036854775807 < a1.size + t178.size) = False := eq_false (Nat.not_lt.2 c13)
  obtain ⟨t179, A14, H⟩ := bo H; obtain ⟨c15, H⟩ := ifs H; have c15b0 := eq_true c15; have c15b1 := dt c15
  try have c15b1y : decide (a1.size + t178.size + t179.size ≤ 9223372036854775807) = true := by have h_ := c15b1; simp only [ByteArray.size_append, Int.natCast_add] at h_; exact h_
  try have c15b2 : (9223372036854775807 < (a1 ++ t178).size + t179.size) = False := eq_false (Nat.not_lt.2 c15)
  try have c15b2z : (9223372036854775807 < a1.size + t178.size + t179.size) = False := eq_false (by have h_ : ¬ (9223372036854775807 < (a1 ++ t178).size + t179.size) := of_eq_false c15b2; simp only [ByteArray.size_append] at h_; exact h_)
  revert H
  refine si (fun c16 H => ?_) fun c16 H => ?_
  have c16b0 : (((a1 ++ t178) ++ t179).toList == a0.toList) = true := beq_iff_eq.mpr c16; have c16b1 : (((a1 ++ t178) ++ t179).toList != a0.toList) = false := bne_eq_false_iff_eq.mpr c16; clear c16; obtain ⟨rfl, rfl, rfl⟩ := o3 H; rotate_left; have c16b0 : (((a1 ++ t178) ++ t179).toList == a0.toList) = false := beq_eq_false_iff_ne.mpr c16; have c16b1 : (((a1 ++ t178) ++ t179).toList != a0.toList) = true := bne_iff_ne.mpr c16; obtain ⟨rfl, rfl, rfl⟩ := o3 H
 all_goals
  go_enter Tryz.func46, Tryz.ntmps46
  go_wp2_with (first | ((with_reducible refine gd 12 rfl ?_); refine bx 12 100 #[.string a0, .int .i64 0, .bool false] ?_; intro gb165 hg w24 hbox hb; have n0_ := ak (below_step (bt HB) hb); have n1_ := ak ((show IsS100 w _ gb165 a0 0 false from ⟨hbox.out, (by rw [hg]; exact (below_size (bt HB)) : w.heap.size ≤ gb165)⟩)); have n2_ := ge_ hg HB; have n3_ := ge_ hg HB; clear HB; revert n0_ n1_ n2_ n3_; intro HB HI165 GE165 GE165; clear hb hbox hg) | ((with_reducible refine gd 14 rfl ?_); refine gc 14 Tryz.func68 (spec_l05Take.calls gb165 a0 0 false 1 t166 t167 t168 t169 w _ ?s1 ?s2 A3.out) fun w25 h_ => ?_; (case s1 => exact is100 HI165); (case s2 => exact ib100 HB HI165); obtain ⟨hi, hb, hk⟩ := h_; replace HB := ak hb; replace HI165 := ak hi) | ((with_reducible refine gd 16 rfl ?_); refine gc 16 Tryz.func69 (spec_l05Var.calls k gb165 t167 t168 t169 t170 t171 t172 t173 w _ ?s1 ?s2 A4.out) fun w26 h_ => ?_; (case s1 => exact is100 HI165); (case s2 => exact ib100 HB HI165); obtain ⟨hi, hb, hk⟩ := h_; replace HB := ak hb; replace HI165 := ak hi) | ((with_reducible refine gd 18 rfl ?_); refine gc 18 Tryz.func69 (spec_l05Var.calls k gb165 t171 t172 t173 t174 t175 t176 _ w _ ?s1 ?s2 A5.out) fun w27 h_ => ?_; (case s1 => exact is100 HI165); (case s2 => exact ib100 HB HI165); obtain ⟨hi, hb, hk⟩ := h_; replace HB := ak hb; replace HI165 := ak hi; obtain ⟨HGz28, hgz28⟩ := HI165.out; have hcz28_0 := cellS100_0 HGz28; have hcz28_1 := cellS100_1 HGz28; have hcz28_2 := cellS100_2 HGz28; have hfz28_0 := blk_frozen HGz28 0; have hfz28_1 := blk_frozen HGz28 1; have hfz28_2 := blk_frozen HGz28 2; clear HGz28 hgz28) | (go_at_call 70; (with_reducible refine (spec_l01Var.calls k t170 t178 _ A12.out).mono ?_); rintro e w29 ⟨rfl, hb⟩; replace HB := ak (below_step (ib100 HB HI165) hb); replace HI165 := ak (IsS100.below (is100 HI165) hb)) | (go_at_call 70; (with_reducible refine (spec_l01Var.calls k t174 t179 _ A14.out).mono ?_); rintro e w30 ⟨rfl, hb⟩; replace HB := ak (below_step (ib100 HB HI165) hb); replace HI165 := ak (IsS100.below (is100 HI165) hb)))
  go_ret3
  exact ⟨fe, ib100 HB HI165⟩
def spec_l05Rise.l0 : Nat → List Int → Int → Int → Int → Option (Bool)
 | 0, _, _, _, _ => none
 | k + 1, x0, x1, x2, x7 => if x7 < (x0.length : Int) then (if 0 ≤ x7 then ((spec_l01In.f (rd x0 x7) x1 x2).bind fun t181 => (if t181 = true then (if x7 > 0 then (if 0 ≤ (wrap64 (x7 - 1)) then (if (wrap64 (x7 - 1)) < (x0.length : Int) then (if (rd x0 (wrap64 (x7 - 1))) ≥ (rd x0 x7) then (some false) else (spec_l05Rise.l0 k x0 x1 x2 (wrap64 (x7 + 1)))) else (none)) else (none)) else (spec_l05Rise.l0 k x0 x1 x2 (wrap64 (x7 + 1)))) else (some false))) else (none)) else (some true)
def spec_l05Rise.f (k : Nat) (l0 : List Int) (a1 : Int) (a2 : Int) : Option (Bool) := spec_l05Rise.l0 k l0 a1 a2 0
theorem spec_l05Rise.calls (k : Nat) (A0 : Option Addr) (c0 : Nat) (l0 : List Int) (a1 : Int) (a2 : Int) (r : Bool) (w : World) (hr0 : Kd.C (Kd.int .i64) w A0 l0.length l0) (hc0 : l0.length ≤ c0) (H : spec_l05Rise.f k l0 a1 a2 = some r) :
 Calls Tryz.prog 122 #[.slice A0 l0.length c0, .int .i64 a1, .int .i64 a2] w fun e w' => e = .returned (.bool r) ∧ Drawn0 w w' := by
 have HR0 := ak hr0; have HC0 := ak hc0; clear hr0 hc0; unfold spec_l05Rise.f at H; have H' := ak H; clear H; go_enter Tryz.func122, Tryz.ntmps122; go_wp2
 repeat (go_quiet (fail); try go_wp2)
 go_loopg [7] k (fun kq v7 w' => ∃ (x7_1 : Int), v7 = .int .i64 x7_1 ∧ Aside0 (spec_l05Rise.l0 kq l0 a1 a2 x7_1 = some r) ∧ Aside0 (kq ≤ k) ∧ Drawn0 w w')
 case atStart => exact ⟨(0), fr, H', ⟨Nat.le_refl _⟩, d0⟩
 case round =>
  clear H'; obtain ⟨x7_1, rfl, HA, HK1, ⟨m1, rfl⟩⟩ := hrel
  cases gk with
  | zero => exact absurd HA.out (by simp [spec_l05Rise.l0])
  | succ k1 =>
   have H := HA.out; clear HA; simp only [spec_l05Rise.l0] at H; revert H
   refine si (fun c4 H => ?_) fun c4 H => ?_
   ·have c4b0 := dt c4; clear c4; obtain ⟨c5, H⟩ := ifs H; have c5b0 := dt c5; clear c5; obtain ⟨t181, A6, H⟩ := bo H; cases t181; rotate_left
    ·rw [if_pos rfl] at H; revert H
     refine si (fun c8 H => ?_) fun c8 H => ?_
     ·have c8b0 : decide (0 < x7_1) = true := dt c8; clear c8; obtain ⟨ji9, hji9, hji9w⟩ := jj (x7_1 - 1)
      first | rw [hji9] at H | simp only [hji9] at H
      (try rw [hji9] at A6)
      obtain ⟨c10, H⟩ := ifs H; have c10b0 := dt c10; clear c10; obtain ⟨c11, H⟩ := ifs H; have c11b0 := dt c11; clear c11; revert H
      refine si (fun c12 H => ?_) fun c12 H => ?_
      have c12b0 : decide ((rd l0 x7_1) ≤ (rd l0 (ji9))) = true := dt c12; clear c12; obtain rfl := oj H; have p180 : 0 ≤ (x7_1 : Int) := da; have q180 : x7_1 < (l0.length : Int) := da; obtain ⟨ad180, e180, hx180_0⟩ := Kd.at_int HR0.out x7_1 p180 q180; cases e180; replace p180 := eq_true p180; replace q180 := eq_true q180; rotate_left; have c12b0 : decide ((rd l0 x7_1) ≤ (rd l0 (ji9))) = false := df c12; clear c12; have H' := ak H; clear H; have p180 : 0 ≤ (x7_1 : Int) := da; have q180 : x7_1 < (l0.length : Int) := da; obtain ⟨ad180, e180, hx180_0⟩ := Kd.at_int HR0.out x7_1 p180 q180; cases e180; replace p180 := eq_true p180; replace q180 := eq_true q180
      all_goals
       go_wp2_with (first | (go_at_call 42; (with_reducible refine (spec_l01In.calls (rd l0 x7_1) a1 a2 true _ A6.out).mono ?_); rintro e w' ⟨rfl, ⟨nd, rfl⟩⟩; (try first | exact ⟨rfl, _, World.drewN_drewN _ _ _⟩ | exact ⟨rfl, _, Eq.trans (World.drewN_drewN _ _ _) (congrArg (World.drewN _) (Nat.add_assoc _ _ _))⟩); have p182 : 0 ≤ ((ji9) : Int) := da; have q182 : (ji9) < (l0.length : Int) := da; obtain ⟨ad182, e182, hx182_0⟩ := Kd.at_int HR0.out (ji9) p182 q182; obtain rfl : ad180 = ad182 := (by injection e182); replace p182 := eq_true p182; replace q182 := eq_true q182; have p183 : 0 ≤ (x7_1 : Int) := da; have q183 : x7_1 < (l0.length : Int) := da; obtain ⟨ad183, e183, hx183_0⟩ := Kd.at_int HR0.out x7_1 p183 q183; obtain rfl : ad180 = ad183 := (by injection e183); replace p183 := eq_true p183; replace q183 := eq_true q183))
       repeat (go_quiet (first | (go_at_call 42; (with_reducible refine (spec_l01In.calls (rd l0 x7_1) a1 a2 true _ A6.out).mono ?_); rintro e w' ⟨rfl, ⟨nd, rfl⟩⟩; (try first | exact ⟨rfl, _, World.drewN_drewN _ _ _⟩ | exact ⟨rfl, _, Eq.trans (World.drewN_drewN _ _ _) (congrArg (World.drewN _) (Nat.add_assoc _ _ _))⟩); have p182 : 0 ≤ ((ji9) : Int) := da; have q182 : (ji9) < (l0.length : Int) := da; obtain ⟨ad182, e182, hx182_0⟩ := Kd.at_int HR0.out (ji9) p182 q182; obtain rfl : ad180 = ad182 := (by injection e182); replace p182 := eq_true p182; replace q182 := eq_true q182; have p183 : 0 ≤ (x7_1 : Int) := da; have q183 : x7_1 < (l0.length : Int) := da; obtain ⟨ad183, e183, hx183_0⟩ := Kd.at_int HR0.out x7_1 p183 q183; obtain rfl : ad180 = ad183 := (by injection e183); replace p183 := eq_true p183; replace q183 := eq_true q183)); try go_wp2_with (first | (go_at_call 42; (with_reducible refine (spec_l01In.calls (rd l0 x7_1) a1 a2 true _ A6.out).mono ?_); rintro e w' ⟨rfl, ⟨nd, rfl⟩⟩; (try first | exact ⟨rfl, _, World.drewN_drewN _ _ _⟩ | exact ⟨rfl, _, Eq.trans (World.drewN_drewN _ _ _) (congrArg (World.drewN _) (Nat.add_assoc _ _ _))⟩); have p182 : 0 ≤ ((ji9) : Int) := da; have q182 : (ji9) < (l0.length : Int) := da; obtain ⟨ad182, e182, hx182_0⟩ := Kd.at_int HR0.out (ji9) p182 q182; obtain rfl : ad180 = ad182 := (by injection e182); replace p182 := eq_true p182; replace q182 := eq_true q182; have p183 : 0 ≤ (x7_1 : Int) := da; have q183 : x7_1 < (l0.length : Int) := da; obtain ⟨ad183, e183, hx183_0⟩ := Kd.at_int HR0.out x7_1 p183 q183; obtain rfl : ad180 = ad183 := (by injection e183); replace p183 := eq_true p183; replace q183 := eq_true q183)))
      ·go_roundg k1
       case measure => have := HK1.out; omega
       case rel => exact ⟨(wrap64 (x7_1 + 1)), fr, H', ⟨by have := HK1.out; omega⟩, d0⟩
      ·go_ret
       exact ⟨by first | rfl | (simp; done) | (simp only [← hji9] <;> (first | rfl | simp)) | (simp [*]; done), d0⟩
     ·have c8b0 : decide (0 < x7_1) = false := df c8; clear c8; have H' := ak H; clear H; have p180 : 0 ≤ (x7_1 : Int) := da; have q180 : x7_1 < (l0.length : Int) := da; obtain ⟨ad180, e180, hx180_0⟩ := Kd.at_int HR0.out x7_1 p180 q180; cases e180; replace p180 := eq_true p180; replace q180 := eq_true q180
      go_wp2_with (first | (go_at_call 42; (with_reducible refine (spec_l01In.calls (rd l0 x7_1) a1 a2 true _ A6.out).mono ?_); rintro e w' ⟨rfl, ⟨nd, rfl⟩⟩; (try first | exact ⟨rfl, _, World.drewN_drewN _ _ _⟩ | exact ⟨rfl, _, Eq.trans (World.drewN_drewN _ _ _) (congrArg (World.drewN _) (Nat.add_assoc _ _ _))⟩)))
      repeat (go_quiet (first | (go_at_call 42; (with_reducible refine (spec_l01In.calls (rd l0 x7_1) a1 a2 true _ A6.out).mono ?_); rintro e w' ⟨rfl, ⟨nd, rfl⟩⟩; (try first | exact ⟨rfl, _, World.drewN_drewN _ _ _⟩ | exact ⟨rfl, _, Eq.trans (World.drewN_drewN _ _ _) (congrArg (World.drewN _) (Nat.add_assoc _ _ _))⟩))); try go_wp2_with (first | (go_at_call 42; (with_reducible refine (spec_l01In.calls (rd l0 x7_1) a1 a2 true _ A6.out).mono ?_); rintro e w' ⟨rfl, ⟨nd, rfl⟩⟩; (try first | exact ⟨rfl, _, World.drewN_drewN _ _ _⟩ | exact ⟨rfl, _, Eq.trans (World.drewN_drewN _ _ _) (congrArg (World.drewN _) (Nat.add_assoc _ _ _))⟩))))
      go_roundg k1
      case measure => have := HK1.out; omega
      case rel => exact ⟨(wrap64 (x7_1 + 1)), fr, H', ⟨by have := HK1.out; omega⟩, d0⟩
    ·rw [if_neg nf] at H; obtain rfl := oj H; have p180 : 0 ≤ (x7_1 : Int) := da; have q180 : x7_1 < (l0.length : Int) := da; obtain ⟨ad180, e180, hx180_0⟩ := Kd.at_int HR0.out x7_1 p180 q180; cases e180; replace p180 := eq_true p180; replace q180 := eq_true q180
     go_wp2_with (first | (go_at_call 42; (with_reducible refine (spec_l01In.calls (rd l0 x7_1) a1 a2 false _ A6.out).mono ?_); rintro e w' ⟨rfl, ⟨nd, rfl⟩⟩; (try first | exact ⟨rfl, _, World.drewN_drewN _ _ _⟩ | exact ⟨rfl, _, Eq.trans (World.drewN_drewN _ _ _) (congrArg (World.drewN _) (Nat.add_assoc _ _ _))⟩)))
     repeat (go_quiet (first | (go_at_call 42; (with_reducible refine (spec_l01In.calls (rd l0 x7_1) a1 a2 false _ A6.out).mono ?_); rintro e w' ⟨rfl, ⟨nd, rfl⟩⟩; (try first | exact ⟨rfl, _, World.drewN_drewN _ _ _⟩ | exact ⟨rfl, _, Eq.trans (World.drewN_drewN _ _ _) (congrArg (World.drewN _) (Nat.add_assoc _ _ _))⟩))); try go_wp2_with (first | (go_at_call 42; (with_reducible refine (spec_l01In.calls (rd l0 x7_1) a1 a2 false _ A6.out).mono ?_); rintro e w' ⟨rfl, ⟨nd, rfl⟩⟩; (try first | exact ⟨rfl, _, World.drewN_drewN _ _ _⟩ | exact ⟨rfl, _, Eq.trans (World.drewN_drewN _ _ _) (congrArg (World.drewN _) (Nat.add_assoc _ _ _))⟩))))
     go_ret
     exact ⟨fr, d0⟩
   ·have c4b0 := df c4; clear c4; obtain rfl := oj H; go_wp2
    repeat (go_quiet (fail); try go_wp2)
    go_ret
    exact ⟨fr, d0⟩
end Go.Proofs.YtdepaileabejgaaGreatDoor.PFnExactOpenJournal
