/- The walk of FnTurned, by hand. No condition. -/
import Derived.Test.YtpmnepbcbjdkoaaQFnTurnedx2
namespace Go.Proofs.Ytpmnepbcbjdkoaa.PFnTurned
open Go.RowKit Go.Proofs.YtpmnepbcbjdkoaaW.PrintWords Go.Proofs.YtpmnepbcbjdkoaaW.PrintLast Go.Proofs.YtpmnepbcbjdkoaaW.PrintMore
attribute [local go_sem] max2_int min2_int max_two min_two max_three min_three max_four min_four   -- for this text's walks alone
set_option linter.unusedVariables false
set_option linter.unusedSimpArgs false
section
variable {P : Program} {ops : Array Oper} {rest : List Oper} {o : Oper} {a : Act} {Q : Exit → Act → World → Prop}
theorem frozen_bytes (W : World) (e : TypeId) (y : ByteArray) (j : Nat) (hj : j < y.size) : (Lib.bytesWorld W e y).frozen? ⟨W.heap.size, j, none⟩ = false := by
  have h : y.size ≤ (Lib.bytesCells W e y).size := by simp [Lib.bytesCells]
  simp only [World.frozen?, Lib.bytesWorld_at_new]
  have : ¬ (Lib.bytesCells W e y).size ≤ j := by omega
  simp [this]
theorem conv_event {W : World} (hg : o.guard = none) {N : Tmp} (hd : o.dst = some N) (x : Operand) (src t e : TypeId) {u : TypeDesc} (ho : o.op = .convert src t x)
    (hsrc : P.underlying src = some u) (ht : P.underlying t = some (.slice e)) (he : P.underlying e = some (.int .u8)) (y : ByteArray) (hx : a.eval x = .string y) (hy : y.size ≤ 9223372036854775807)
    (h : ∀ g cap w1, W.heap.size ≤ g → ReadsInt w1 .u8 (some ⟨g, 0, none⟩) y.size (bytesOf y) → (∀ j : Nat, j < y.size → w1.frozen? ⟨g, j, none⟩ = false) → Below W.heap.size W w1 → wpList P ops Q rest (a.put o.dst (.slice (some ⟨g, 0, none⟩) y.size cap)) w1) :
    wpList P ops Q (o :: rest) a W := by
  have hr := print_bytes (P := P) src t e hsrc ht he y W
  refine Kd.event_run hg (?_ : (execOp a.eval o).run P W = .ok (.value (.slice (some ⟨W.heap.size, 0, none⟩) y.size (grownCap W y.size 0 e))) (Lib.bytesWorld W e y)) ?_
  · simp [execOp, ho, hx, hr]
  exact h _ _ _ (Nat.le_refl _) (bytes_reads W e y hy) (fun j hj => frozen_bytes W e y j hj) (bytes_below (Below.refl _ _) (Nat.le_refl _) e y)
theorem back_event {W : World} (hg : o.guard = none) {N : Tmp} (hd : o.dst = some N) (x : Operand) (src t e : TypeId) (ho : o.op = .convert src t x)
    (hsrc : P.underlying src = some (.slice e)) (he : P.underlying e = some (.int .u8)) (ht : P.underlying t = some .string) {A : Option Addr} {n c : Nat} {xs : List Int} (hx : a.eval x = .slice A n c) (hr : ReadsInt W .u8 A n xs)
    (h : wpList P ops Q rest (a.put o.dst (.string (strOfNums xs))) W) :
    wpList P ops Q (o :: rest) a W := by
  have hr := string_of_reads (P := P) (c := c) hsrc he ht hr
  refine Kd.event_run hg (?_ : (execOp a.eval o).run P W = .ok (.value (.string (strOfNums xs))) W) h
  simp [execOp, ho, hx, hr]
theorem reads_set {W : World} {g n : Nat} {xs : List Int} (h : ReadsInt W .u8 (some ⟨g, 0, none⟩) n xs) (j : Nat) (hj : j < n) (x : Int) : ReadsInt (W.setCell ⟨g, j, none⟩ (.int .u8 x)) .u8 (some ⟨g, 0, none⟩) n (xs.set j x) := by
  refine ⟨by rw [List.length_set]; exact h.1, h.2.1, fun hn => ⟨_, rfl, fun i hi => ?_⟩⟩
  obtain ⟨ad, e, hc⟩ := h.2.2 hn
  cases e
  have hci := hc i hi
  rw [add_plain] at hci ⊢
  have hl := h.1
  by_cases e : i = j
  · subst e
    rw [World.cell?_setCell_same _ _ _ hci]
    simp [List.getD_eq_getElem?_getD, List.getElem?_set_self, hl, hi]
  · rw [World.cell?_setCell_other _ _ _ _ (fun h => e (by cases h; rfl)), hci]
    simp [List.getD_eq_getElem?_getD, List.getElem?_set_ne (Ne.symm e)]
end
set_option maxHeartbeats 8000000 in
set_option maxRecDepth 100000 in
theorem turned_walk (k : Nat) (A0 : Option Addr) (c0 : Nat) (l0 : List Int) (w : World) (hr0 : Kd.C (Kd.int .u8) w A0 l0.length l0) (hc0 : l0.length ≤ c0)
    (s t u2 : ByteArray) (n : Nat) (p : List Int) (h0 h1 : Int)
    (hb : laws_big.f l0 = some false) (hs : spec_DrawSumOf.f k l0 = some s) (hp : spec_DrawPlaces.f k l0 = some p) (ht : impl_Sealed.f k s = some (t, true)) (hu : impl_Unsealed.f k t = some (s, true)) (hz : t.size = n) (hzs : n = s.size + 4) (hsz : s.size ≤ 1000)
    (hpl : p.length = 12) (hp0 : 0 ≤ rd p 0) (hp1 : 0 ≤ rd p 1)
    (hw : impl_Unsealed.f k (strOfNums ((bytesOf t).set (Int.tmod (rd p 0) (n : Int)).toNat (Go.bits .xor .u8 (bt t (Int.tmod (rd p 0) (n : Int))) ((1 + Int.tmod (rd p 1) 255) % 256)))) = some (u2, false))
    (hm0 : impl_SumOf.f k s = some h0) (hm1 : impl_SumMore.f k h0 (⟨#[120]⟩ : ByteArray) = some h1) (hm2 : impl_SumOf.f k (s ++ (⟨#[120]⟩ : ByteArray)) = some h1) :
    Calls Try.prog 7 #[.slice A0 l0.length c0] w fun e w' => e = .returned (.bool true) ∧ Below w.heap.size w w' := by
  have HR := Aside0.mk hr0
  have HC := Aside0.mk hc0
  have HB := Aside0.mk (Below.refl w.heap.size w)
  have A1 := Aside0.mk hb
  have A2 := Aside0.mk hs
  have A3 := Aside0.mk hp
  have A4 := Aside0.mk ht
  have A5 := Aside0.mk hu
  have A6 := Aside0.mk hw
  have A7 := Aside0.mk hm0
  have A8 := Aside0.mk hm1
  have A9 := Aside0.mk hm2
  have A10 := Aside0.mk hp0
  have A11 := Aside0.mk hp1
  have A12 := Aside0.mk hpl
  clear hr0 hc0 hb hs hp ht hu hw hm0 hm1 hm2 hp0 hp1 hpl
  have z1 : ((n : Int) != (s.size : Int) + 4) = false := bne_eq_false_iff_eq.mpr (by omega)
  have z2 : wrap64 ((s.size : Int) + 4) = (s.size : Int) + 4 := by unfold wrap64; omega
  have z3 : ((n : Int) == (s.size : Int) + 4) = true := beq_iff_eq.mpr (by omega)
  have HN := Aside0.mk hzs
  have HS := Aside0.mk hsz
  have hn0 : ((n : Int) == 0) = false := beq_eq_false_iff_ne.mpr (by omega)
  have hn1 : ¬ ((n : Int) = 0) := by omega
  clear hzs hsz
  go_enter Try.func7, Try.ntmps7
  go_wp2_with (first
    | (go_at_call 29; refine (laws_big.calls A0 c0 l0 false _ (Kd.C_below HR.out (by repeat (first | (with_reducible first | exact HB.out | apply below_alloc | apply pw_below_drewN | apply below_drew1) | exact HB.out))) HC.out A1.out).mono ?_; rintro e w1 ⟨rfl, ⟨nd, rfl⟩⟩)
    | (go_at_call 30; refine (spec_DrawSumOf.calls k A0 c0 l0 s _ (Kd.C_below HR.out (by repeat (first | (with_reducible first | exact HB.out | apply below_alloc | apply pw_below_drewN | apply below_drew1) | exact HB.out))) HC.out A2.out).mono ?_; rintro e w2 ⟨rfl, hb2⟩; have n0_ := Aside0.mk (below_step (by repeat (first | (with_reducible first | exact HB.out | apply below_alloc | apply pw_below_drewN | apply below_drew1) | exact HB.out)) hb2); clear HB hb2; have HB := n0_; clear n0_)
    | (go_at_call 31; refine (spec_DrawPlaces.calls k A0 c0 l0 p _ (Kd.C_below HR.out (by repeat (first | (with_reducible first | exact HB.out | apply below_alloc | apply pw_below_drewN | apply below_drew1) | exact HB.out))) HC.out A3.out).mono ?_; rintro e w3 ⟨v4, rfl, ho4, hb3⟩; obtain ⟨A4_, c4_, rfl, hc4_, hr4_⟩ := Kd.R_reads ho4; have HR4 := Aside0.mk hr4_; clear ho4 hr4_; have HW3 := Aside0.mk (Below.refl w3.heap.size w3); have n0_ := Aside0.mk (below_step (by repeat (first | (with_reducible first | exact HB.out | apply below_alloc | apply pw_below_drewN | apply below_drew1) | exact HB.out)) hb3); clear HB hb3; have HB := n0_; clear n0_)
    | (go_at_call 32; refine (impl_Sealed.calls k s t true _ A4.out).mono ?_; rintro e w5 ⟨rfl, hb5⟩; have n0_ := Aside0.mk (below_step (by repeat (first | (with_reducible first | exact HB.out | apply below_alloc | apply pw_below_drewN | apply below_drew1) | exact HB.out)) hb5); have n1_ := Aside0.mk (Kd.C_below (Kd.C_below HR4.out (by repeat (first | exact Below.refl _ _ | apply below_alloc | apply pw_below_drewN | apply below_drew1))) hb5); clear HB hb5 HR4; have HB := n0_; have HR4 := n1_; clear n0_ n1_)
    | (go_at_call 33; refine (impl_Unsealed.calls k t s true _ A5.out).mono ?_; clear A5; rintro e w6 ⟨rfl, hb6⟩; have n0_ := Aside0.mk (below_step (by repeat (first | (with_reducible first | exact HB.out | apply below_alloc | apply pw_below_drewN | apply below_drew1) | exact HB.out)) hb6); have n1_ := Aside0.mk (Kd.C_below (Kd.C_below HR4.out (by repeat (first | exact Below.refl _ _ | apply below_alloc | apply pw_below_drewN | apply below_drew1))) hb6); clear HB hb6 HR4; have HB := n0_; have HR4 := n1_; clear n0_ n1_)
    | ((with_reducible refine gate_dst (N := 49) rfl ?_); refine conv_event rfl rfl (.tmp 48) 9 40 5 rfl Try.underlying9 Try.underlying40 Try.underlying5 t rfl (by have := HN.out; have := HS.out; omega) ?_; intro g7 cap7 w7 hg7 hcell7 hfro7 hb7; have HC7 := Aside0.mk hcell7; have HF7 := Aside0.mk hfro7; have n0_ := Aside0.mk (below_step (by repeat (first | (with_reducible first | exact HB.out | apply below_alloc | apply pw_below_drewN | apply below_drew1) | exact HB.out)) hb7); obtain ⟨ad4, ea4, hx0⟩ := Kd.at_int HR4.out 0 (by omega) (by rw [A12.out]; omega); obtain ⟨ad5, ea5, hx1⟩ := Kd.at_int HR4.out 1 (by omega) (by rw [A12.out]; omega); cases ea4; cases ea5; have hlt4 := World.block_lt_of_cell? _ _ hx0; have hlt5 := World.block_lt_of_cell? _ _ hx1; replace hx0 := (hb7.cell hlt4).trans hx0; replace hx1 := (hb7.cell hlt5).trans hx1; have hgw := Nat.le_trans (below_size HB.out) hg7; (try simp only [Int.reduceToNat, Nat.zero_mul, Nat.reduceMul, Nat.reduceEqDiff, Go.Addr.add, ↓reduceIte, Addr.add_zero'] at hx0 hx1); clear HB hb7 hcell7 hfro7 HR4; have HB := n0_; clear n0_; have hp12 := A12.out))
  obtain ⟨j, hj, hjn⟩ : ∃ j : Nat, (rd p 0).tmod (n : Int) = (j : Int) ∧ j < n := ⟨((rd p 0).tmod (n : Int)).toNat, by have := Int.tmod_nonneg (n : Int) A10.out; omega, by have := Int.tmod_nonneg (n : Int) A10.out; have := Int.tmod_lt_of_pos (rd p 0) (show (0 : Int) < n by omega); omega⟩
  obtain ⟨e, he, he1, he2⟩ : ∃ e : Int, (rd p 1).tmod 255 = e ∧ 0 ≤ e ∧ e < 255 := ⟨_, rfl, Int.tmod_nonneg _ A11.out, Int.tmod_lt_of_pos _ (by omega)⟩
  have hcj : w7.cell? ⟨g7, j, none⟩ = some (.int .u8 (bt t (j : Int))) := by
    obtain ⟨ad, e, hc⟩ := HC7.out.2.2 (by omega)
    cases e
    have := hc j (by omega)
    rw [add_plain] at this
    rw [this, show (bytesOf t).getD j 0 = bt t (j : Int) from rd_bytesOf t (j : Int)]
  have hfj := HF7.out j (by omega)
  have he3 : wrap64 (1 + e) = 1 + e := by unfold wrap64; omega
  have he4 : (1 + e) % 256 = 1 + e := by omega
  have hj0 : ¬ ((j : Int) < 0) := by omega
  have hj1 : (j : Int) < (n : Int) := by omega
  have hj2 : 0 ≤ (j : Int) := by omega
  have B6 : impl_Unsealed.f k (strOfNums ((bytesOf t).set j (Go.bits .xor .u8 (bt t (j : Int)) (1 + e)))) = some (u2, false) := by
    have := A6.out
    rw [hj, he, he4] at this
    exact this
  have HC8 := reads_set HC7.out j (by omega) (Go.bits .xor .u8 (bt t (j : Int)) (1 + e))
  have HB8 : Below w.heap.size w (w7.setCell ⟨g7, j, none⟩ (.int .u8 (Go.bits .xor .u8 (bt t (j : Int)) (1 + e)))) := below_set HB.out hgw
  rw [hj]
  replace HB := Aside0.mk HB8
  rw [hz] at HC8
  have HC9 := Aside0.mk HC8
  have HB6 := Aside0.mk B6
  clear HB8 HC8 HC7 HF7 HR A1 A2 A3 A4 HW3 A10 A11 A12 A6 B6
  go_region
  go_wp2_with (first
    | ((with_reducible refine gate_dst (N := 72) rfl ?_); refine back_event rfl rfl (.tmp 71) 40 9 5 rfl Try.underlying40 Try.underlying5 Try.underlying9 rfl HC9.out ?_)
    | (go_at_call 33; refine (impl_Unsealed.calls k _ u2 false _ HB6.out).mono ?_; rintro e w8 ⟨rfl, hb8⟩; have n0_ := Aside0.mk (below_step (by repeat (first | (with_reducible first | exact HB.out | apply below_alloc | apply pw_below_drewN | apply below_drew1) | exact HB.out)) hb8); clear HB hb8; have HB := n0_; clear n0_)
    | (go_at_call 35; first
        | (refine (impl_SumOf.calls k s h0 _ A7.out).mono ?_; clear A7; rintro e w9 ⟨rfl, ⟨nd1, rfl⟩⟩)
        | (refine (impl_SumOf.calls k _ h1 _ A9.out).mono ?_; clear A9; rintro e w9 ⟨rfl, ⟨nd3, rfl⟩⟩))
    | (go_at_call 34; refine (impl_SumMore.calls k h0 _ h1 _ A8.out).mono ?_; clear A8; rintro e w9 ⟨rfl, ⟨nd2, rfl⟩⟩))
  · exfalso
    rename_i hbig
    have := HS.out
    omega
  go_ret
  exact ⟨rfl, by repeat (first | (with_reducible first | exact HB.out | apply below_alloc | apply pw_below_drewN | apply below_drew1) | exact HB.out)⟩
/-- What the run of the law needs. -/
def laws_FnTurned.ok (k : Nat) (l0 : List Int) : Prop := laws_big.f l0 = some true ∨ (laws_big.f l0 = some false ∧ ∃ (s t u2 : ByteArray) (n : Nat) (p : List Int) (h0 h1 : Int),
    spec_DrawSumOf.f k l0 = some s ∧ spec_DrawPlaces.f k l0 = some p ∧ impl_Sealed.f k s = some (t, true) ∧ impl_Unsealed.f k t = some (s, true) ∧ t.size = n ∧ n = s.size + 4 ∧ s.size ≤ 1000 ∧
    p.length = 12 ∧ 0 ≤ rd p 0 ∧ 0 ≤ rd p 1 ∧
    impl_Unsealed.f k (strOfNums ((bytesOf t).set (Int.tmod (rd p 0) (n : Int)).toNat (Go.bits .xor .u8 (bt t (Int.tmod (rd p 0) (n : Int))) ((1 + Int.tmod (rd p 1) 255) % 256)))) = some (u2, false) ∧
    impl_SumOf.f k s = some h0 ∧ impl_SumMore.f k h0 (⟨#[120]⟩ : ByteArray) = some h1 ∧ impl_SumOf.f k (s ++ (⟨#[120]⟩ : ByteArray)) = some h1)
open Classical in
noncomputable def laws_FnTurned.f (k : Nat) (l0 : List Int) : Option Bool := if laws_FnTurned.ok k l0 then some true else none
set_option maxHeartbeats 8000000 in
set_option maxRecDepth 100000 in
theorem big_walk (A0 : Option Addr) (c0 : Nat) (l0 : List Int) (w : World) (hr0 : Kd.C (Kd.int .u8) w A0 l0.length l0) (hc0 : l0.length ≤ c0) (hb : laws_big.f l0 = some true) :
    Calls Try.prog 7 #[.slice A0 l0.length c0] w fun e w' => e = .returned (.bool true) ∧ Below w.heap.size w w' := by
  have HR := Aside0.mk hr0
  have HC := Aside0.mk hc0
  have HB := Aside0.mk (Below.refl w.heap.size w)
  have A1 := Aside0.mk hb
  clear hr0 hc0 hb
  go_enter Try.func7, Try.ntmps7
  go_wp2_with (first
    | (go_at_call 29; refine (laws_big.calls A0 c0 l0 true _ (Kd.C_below HR.out (by repeat (first | (with_reducible first | exact HB.out | apply below_alloc | apply pw_below_drewN | apply below_drew1) | exact HB.out))) HC.out A1.out).mono ?_; rintro e w1 ⟨rfl, ⟨nd, rfl⟩⟩))
  go_ret
  exact ⟨rfl, by repeat (first | (with_reducible first | exact HB.out | apply below_alloc | apply pw_below_drewN | apply below_drew1) | exact HB.out)⟩
theorem laws_FnTurned.calls (k : Nat) (A0 : Option Addr) (c0 : Nat) (l0 : List Int) (r : Bool) (w : World) (hr0 : Kd.C (Kd.int .u8) w A0 l0.length l0) (hc0 : l0.length ≤ c0) (h : laws_FnTurned.f k l0 = some r) :
    Calls Try.prog 7 #[.slice A0 l0.length c0] w fun e w' => e = .returned (.bool r) ∧ Below w.heap.size w w' := by
  unfold laws_FnTurned.f at h
  by_cases c : laws_FnTurned.ok k l0
  · rw [if_pos c] at h
    cases h
    rcases c with hb | ⟨hb, s, t, u2, n, p, h0, h1, hs, hp, ht, hu, hz, hzs, hsz, hpl, hp0, hp1, hw, hm0, hm1, hm2⟩
    · exact big_walk A0 c0 l0 w hr0 hc0 hb
    · exact turned_walk k A0 c0 l0 w hr0 hc0 s t u2 n p h0 h1 hb hs hp ht hu hz hzs hsz hpl hp0 hp1 hw hm0 hm1 hm2
  · rw [if_neg c] at h
    cases h
end Go.Proofs.Ytpmnepbcbjdkoaa.PFnTurned
