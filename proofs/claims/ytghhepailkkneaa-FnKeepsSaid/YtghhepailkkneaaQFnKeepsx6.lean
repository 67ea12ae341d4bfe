/- What the functions that FnKeeps reaches compute, and that the machine's calls compute it. Begun as a text of the kit's print. No condition. -/
import Derived.Lib.LazyBuf
import Derived.Test.YtghhepailkkneaaQFnKeepsx0
import Derived.Test.YtghhepailkkneaaQFnKeepsx5
namespace Go.Proofs.Ytghhepailkkneaa.PFnKeeps
open Go.RowKit Go.Proofs.YtghhepailkkneaaW.PrintWords Go.Proofs.YtghhepailkkneaaW.PrintLast Go.Proofs.YtghhepailkkneaaW.PrintMore
attribute [local go_sem] max2_int min2_int max_two min_two max_three min_three max_four min_four   -- for this text's walks alone
set_option linter.unusedVariables false
set_option linter.unusedSimpArgs false

/-! ### impl_File_44: function 44 -/

def impl_File_44.f (l0 : List (S36)) : Option (List (S36)) := if l0.length < 3518437208883 then (some l0) else (none)
theorem impl_File_44.calls (A0 : Option Addr) (c0 : Nat) (l0 : List (S36)) (r : List (S36)) (w : World) (hr0 : Kd.C k36 w A0 l0.length l0) (hc0 : l0.length ≤ c0) (h : impl_File_44.f l0 = some r) :
    Calls Try.prog 44 #[.slice A0 l0.length c0] w fun e w' => ∃ v0_ : Value, e = .returned (v0_) ∧ Kd.R k36 36 w' w.heap.size (fun _ => True) v0_ r ∧ Below w.heap.size w w' := by
  unfold impl_File_44.f at h
  by_cases hlim : l0.length < 3518437208883
  · rw [if_pos hlim] at h
    obtain rfl := Option.some.inj h
    have q := fun (w : World) (A : Option Addr) (n c : Nat) => Go.run_eql_slice_nil (P := Try.prog) w 24 36 A n c Try.underlying24
    cases A0 with
    | none =>
      obtain rfl : l0 = [] := by
        cases l0 with
        | nil => rfl
        | cons x xs =>
          obtain ⟨ad, hh, _⟩ := hr0.2.2 (by simp)
          cases hh
      go_enter Try.func44, Try.ntmps44
      go_wp2
      go_ret
      exact ⟨_, rfl, Kd.R_nil _ _ _ _ _, Below.refl _ _⟩
    | some ad =>
      have HR := Aside0.mk hr0
      have HL := Aside0.mk hlim
      clear hr0 hc0 h hlim
      have HB := Aside0.mk (Below.refl w.heap.size w)
      go_enter Try.func44, Try.ntmps44
      go_wp2_with (first | ((with_reducible refine gate_dst (N := 5) rfl ?_); refine Kd.R_lit k36 _ 36 ?hg (N := 5) ?hd (xs := ([] : List (S36))) (inner := []) (ok := fun _ => True) (okp := fun _ => True) ?hr ?hp (fun _ hk => hk) trivial (Below.refl _ _) (Nat.le_refl _) (by simp) ?_; (case hd => rfl); (case hg => rfl); (case hr => first | (go_simp; done) | (go_simp; rfl)); (case hp => exact (Reps.none _ _)); intro v1 w1 ho1 hb hg_ hnew_; clear hg_ hnew_; have n0_ := Aside0.mk ho1; have n1_ := Aside0.mk (below_step HB.out hb); clear HB; have HO := n0_; have HB := n1_; clear n0_ n1_ hb ho1) | ((with_reducible refine gate_dst (N := 7) rfl ?_); refine Kd.R_append_rows k36 (w0 := w) w.heap.size rfl (.tmp 5) (.tmp 6) 24 36 (.agg #[(.string ⟨#[]⟩), (.string ⟨#[]⟩), (.int .i64 0)]) 40 rfl Try.underlying24 info36 rfl (by decide) (by omega) v1 [] l0 _ _ _ (fun _ => True) (fun _ => False) rfl rfl ?aO ?aR (fun _ _ h => h) (fun _ h => h.elim) ?aF ?aB ?aS ?aL ?_; (case aR => exact (Kd.C_below HR.out HB.out)); (case aO => exact HO.out); (case aF => exact (fun _ _ => trivial)); (case aB => exact HB.out); (case aS => exact (below_size HB.out)); (case aL => have := HL.out; simp only [List.length_nil]; omega); intro v2 w2 ho2 hb2 _ _; have n0_ := Aside0.mk ho2; have n1_ := Aside0.mk hb2; clear HO HB; have HO := n0_; have HB := n1_; clear n0_ n1_ hb2 ho2))
      go_ret
      exact ⟨_, rfl, HO.out, HB.out⟩
  · rw [if_neg hlim] at h
    cases h

/-! ### impl_cloneDisk: function 25 -/
def impl_cloneDisk.f (l0_0 : List (S36)) : Option ((List (S36))) := (impl_File_44.f l0_0).bind fun t213 => (some t213)
set_option maxHeartbeats 8000000 in
set_option maxRecDepth 100000 in
theorem impl_cloneDisk.calls (A0_0 : Option Addr) (c0_0 : Nat) (l0_0 : List (S36)) (r : List (S36)) (w : World) (hr0_0 : Kd.C k36 w A0_0 l0_0.length l0_0) (hc0_0 : l0_0.length ≤ c0_0) (h : impl_cloneDisk.f l0_0 = some r) :
    Calls Try.prog 25 #[.agg #[.slice A0_0 l0_0.length c0_0]] w fun e w' => ∃ v0_ : Value, e = .returned (.agg #[v0_]) ∧ Kd.R k36 36 w' w.heap.size (fun _ => True) v0_ r ∧ Below w.heap.size w w' := by
  have hu26 := Try.underlying26
  have HR0_0 := Aside0.mk hr0_0
  have HC0_0 := Aside0.mk hc0_0
  clear hr0_0 hc0_0
  have HB := Aside0.mk (Below.refl w.heap.size w)
  have H : ((impl_File_44.f l0_0).bind fun t213 => (some t213)) = some r := h
  clear h
  replace H := Option.bind_eq_some_iff.mp H
  obtain ⟨t213, A20, H⟩ := H
  replace H : (some t213) = some r := H
  have A2 := Aside0.mk A20
  clear A20
  obtain rfl := Option.some.inj H
  go_enter Try.func25, Try.ntmps25
  go_wp2_with (first | ((with_reducible refine gate_dst (N := 1) rfl ?_); refine box_event ?hg (N := 1) ?hd (cs := #[.slice A0_0 l0_0.length c0_0]) (t := 26) ?hr ?_; (case hd => rfl); (case hg => rfl); (case hr => first | (go_simp; done) | (go_simp; rfl)); intro gb211 hg w3 hbox hb; have n0_ := Aside0.mk (below_step (by repeat (first | (with_reducible first | exact HB.out | apply below_alloc | apply pw_below_drewN | apply below_drew1) | exact HB.out)) hb); have n1_ := Aside0.mk (hbox); have n2_ := Aside0.mk ((by rw [hg]; exact (below_size (by repeat (first | (with_reducible first | exact HB.out | apply below_alloc | apply pw_below_drewN | apply below_drew1) | exact HB.out))) : w.heap.size ≤ gb211)); have n3_ := Aside0.mk ((by rw [hg]; exact (below_size (by repeat (first | (with_reducible first | exact HB.out | apply below_alloc | apply pw_below_drewN | apply below_drew1) | exact HB.out))) : w.heap.size ≤ gb211)); clear HB; have HB := n0_; have BK211 := n1_; have GW211 := n2_; have GE211 := n3_; clear n0_ n1_ n2_ n3_; clear hb hbox hg) | ((with_reducible refine gate_dst (N := 2) rfl ?_); refine box_event ?hg (N := 2) ?hd (cs := #[.slice none 0 0]) (t := 26) ?hr ?_; (case hd => rfl); (case hg => rfl); (case hr => first | (go_simp; done) | (go_simp; rfl)); intro gb212 hg w4 hbox hb; have n0_ := Aside0.mk (blk_below (g := gb211) (o := .cells #[.slice A0_0 l0_0.length c0_0] 26 (0, 0)) (by (with_reducible repeat (first | refine blk_drewN ?_ _ | refine blk_drew ?_ | refine blk_alloc ?_ _)); exact BK211.out) hb); have n1_ := Aside0.mk (below_step (by repeat (first | (with_reducible first | exact HB.out | apply below_alloc | apply pw_below_drewN | apply below_drew1 | refine below_set ?_ GE211.out) | exact HB.out)) hb); have n2_ := Aside0.mk (hbox); have n3_ := Aside0.mk ((by rw [hg]; exact (below_size (by repeat (first | (with_reducible first | exact HB.out | apply below_alloc | apply pw_below_drewN | apply below_drew1 | refine below_set ?_ GE211.out) | exact HB.out))) : w.heap.size ≤ gb212)); have n4_ := Aside0.mk ((by rw [hg]; exact (below_size (by repeat (first | (with_reducible first | exact HB.out | apply below_alloc | apply pw_below_drewN | apply below_drew1 | refine below_set ?_ GE211.out) | exact HB.out))) : w.heap.size ≤ gb212)); have n5_ := Aside0.mk ((by rw [hg]; exact Nat.ne_of_lt (blk_lt (g := gb211) (o := .cells #[.slice A0_0 l0_0.length c0_0] 26 (0, 0)) (by (with_reducible repeat (first | refine blk_drewN ?_ _ | refine blk_drew ?_ | refine blk_alloc ?_ _)); exact BK211.out)) : gb211 ≠ gb212)); have n6_ := Aside0.mk ((by rw [hg]; exact Nat.ne_of_gt (blk_lt (g := gb211) (o := .cells #[.slice A0_0 l0_0.length c0_0] 26 (0, 0)) (by (with_reducible repeat (first | refine blk_drewN ?_ _ | refine blk_drew ?_ | refine blk_alloc ?_ _)); exact BK211.out)) : gb212 ≠ gb211)); clear BK211; clear HB; have BK211 := n0_; have HB := n1_; have BK212 := n2_; have GW212 := n3_; have GE212 := n4_; have NB211_212 := n5_; have NB212_211 := n6_; clear n0_ n1_ n2_ n3_ n4_ n5_ n6_; clear hb hbox hg; have hnb5 := NB211_212.out; have hnc5 := NB212_211.out; have hcz6_0 : w4.cell? ⟨gb211, 0, none⟩ = some (.slice A0_0 l0_0.length c0_0) := (blk_cell BK211.out 0).trans rfl; have hfz6_0 := blk_frozen BK211.out 0) | ((with_reducible refine gate_callee (f := 44) rfl ?_); refine goesL_ (some 5) rfl rfl Try.func44 (by kernel_rfl) rfl #[.slice A0_0 l0_0.length c0_0] rfl (by (try simp only [List.map_toArray, List.map_cons, List.map_nil]); first | done | rfl | (simp only [List.length_drop, List.length_take]; rfl)) ?_; (with_reducible refine (impl_File_44.calls _ _ l0_0 t213 _ ?side1 ?side2 A2.out).mono ?_); (case side1 => repeat (first | exact (Kd.C_below HR0_0.out HB.out) | (with_reducible refine Kd.C_alloc ?_ _) | (with_reducible refine Kd.C_drewN ?_ _) | (with_reducible refine Kd.C_drew ?_))); (case side2 => exact HC0_0.out); rintro e w7 ⟨v214, rfl, ho0, hb⟩; refine ⟨_, rfl, ?_⟩; have n0_ := Aside0.mk (Kd.R_lower ho0 (below_size (by repeat (first | (with_reducible first | exact HB.out | apply below_alloc | apply pw_below_drewN | apply below_drew1 | refine below_set ?_ GE211.out | refine below_set ?_ GE212.out) | exact HB.out)))); have n1_ := Aside0.mk (blk_below (g := gb211) (o := .cells #[.slice A0_0 l0_0.length c0_0] 26 (0, 0)) (by (with_reducible repeat (first | refine blk_drewN ?_ _ | refine blk_drew ?_ | refine blk_alloc ?_ _)); exact BK211.out) hb); have n2_ := Aside0.mk (blk_below (g := gb212) (o := .cells #[.slice none 0 0] 26 (0, 0)) (by (with_reducible repeat (first | refine blk_drewN ?_ _ | refine blk_drew ?_ | refine blk_alloc ?_ _)); exact BK212.out) hb); have n3_ := Aside0.mk (below_step (by repeat (first | (with_reducible first | exact HB.out | apply below_alloc | apply pw_below_drewN | apply below_drew1 | refine below_set ?_ GE211.out | refine below_set ?_ GE212.out) | exact HB.out)) hb); clear BK211; clear BK212; clear HB; have HO215 := n0_; have BK211 := n1_; have BK212 := n2_; have HB := n3_; clear n0_ n1_ n2_ n3_; (try clear hb); (try clear hb2); (try clear hk); (try clear hi); (try clear ho0); obtain ⟨Ao8, co8, eo8⟩ := Kd.R_slice HO215.out; subst eo8; have hcz9_0 : w7.cell? ⟨gb212, 0, none⟩ = some (.slice none 0 0) := (blk_cell BK212.out 0).trans rfl; have hfz9_0 := blk_frozen BK212.out 0))
  refine bodyPost_ret (results_cell_row rfl _ _ gb212 26 #[.slice Ao8 t213.length co8] (0, 0) _ rfl (by (with_reducible repeat (first | refine blk_drewN ?_ _ | refine blk_drew ?_ | refine blk_alloc ?_ _)); refine blk_put (cs := #[.slice none 0 0]) ?_ 0 _ rfl; (with_reducible repeat (first | refine blk_drewN ?_ _ | refine blk_drew ?_ | refine blk_alloc ?_ _)); exact BK212.out) Try.underlying26 rfl (by kernel_rfl)) rfl ?_
  exact ⟨_, by first | rfl | (simp [errW_none, errW_some] <;> rfl) | (simp [*, errW_none, errW_some] <;> rfl), by (with_reducible repeat (first | apply Kd.R_alloc | apply Kd.R_drewN | apply Kd.R_drew)); exact Kd.R_mono (Kd.R_far (p := ⟨gb212, 0, none⟩) (Kd.R_types HO215.out BK212.out (by decide)) (fun _ hk => hk.2) (.slice Ao8 t213.length co8)) (fun _ hk => trivial), by repeat (first | (with_reducible first | exact HB.out | apply below_alloc | apply pw_below_drewN | apply below_drew1 | refine below_set ?_ GE211.out | refine below_set ?_ GE212.out) | exact HB.out)⟩

/-! ### impl_LoseDisk: function 9 -/
def impl_LoseDisk.l0 : Nat → List Int → List (S36) → Int → Int → List (S36) → Option ((List (S36)) × Bool)
  | 0, _, _, _, _, _ => none
  | k + 1, x1, x17, x18, x19, x223000 => if x19 < x18 then (if 0 ≤ x19 then (if x19 < (x17.length : Int) then (if x19 < (x1.length : Int) then (if 0 ≤ (mx (mx 0 (mn (rd x1 x19) (((rd_T36 x17 x19).f1).size : Int))) ((rd_T36 x17 x19).f2)) then (if (mx (mx 0 (mn (rd x1 x19) (((rd_T36 x17 x19).f1).size : Int))) ((rd_T36 x17 x19).f2)) ≤ (((rd_T36 x17 x19).f1).size : Int) then (if x19 < (x223000.length : Int) then ((some (x223000.set (x19 : Int).toNat (⟨(rd_T36 x223000 x19).f0, ((rd_T36 x17 x19).f1).extract 0 ((mx (mx 0 (mn (rd x1 x19) (((rd_T36 x17 x19).f1).size : Int))) ((rd_T36 x17 x19).f2)) : Int).toNat, (rd_T36 x223000 x19).f2⟩ : S36) : List (S36))).bind fun y226 => (impl_LoseDisk.l0 k x1 x17 x18 (wrap64 (x19 + 1)) (y226.set (x19 : Int).toNat (⟨(rd_T36 y226 x19).f0, (rd_T36 y226 x19).f1, mx (mx 0 (mn (rd x1 x19) (((rd_T36 x17 x19).f1).size : Int))) ((rd_T36 x17 x19).f2)⟩ : S36)))) else (none)) else (none)) else (none)) else (if 0 ≤ (mx 0 ((rd_T36 x17 x19).f2)) then (if (mx 0 ((rd_T36 x17 x19).f2)) ≤ (((rd_T36 x17 x19).f1).size : Int) then (if x19 < (x223000.length : Int) then ((some (x223000.set (x19 : Int).toNat (⟨(rd_T36 x223000 x19).f0, ((rd_T36 x17 x19).f1).extract 0 ((mx 0 ((rd_T36 x17 x19).f2)) : Int).toNat, (rd_T36 x223000 x19).f2⟩ : S36) : List (S36))).bind fun y228 => (impl_LoseDisk.l0 k x1 x17 x18 (wrap64 (x19 + 1)) (y228.set (x19 : Int).toNat (⟨(rd_T36 y228 x19).f0, (rd_T36 y228 x19).f1, mx 0 ((rd_T36 x17 x19).f2)⟩ : S36)))) else (none)) else (none)) else (none))) else (none)) else (none)) else (some (x223000, true))
def impl_LoseDisk.f (k : Nat) (l0_0 : List (S36)) (l1 : List Int) : Option ((List (S36)) × Bool) := (impl_DiskOk.f k l0_0).bind fun t218 => (if t218 = true then ((impl_cloneDisk.f l0_0).bind fun t219 => (impl_LoseDisk.l0 k l1 t219 (t219.length : Int) 0 t219)) else (some (([] : List (S36)), false)))
theorem impl_LoseDisk.mono_l : ∀ k, (∀ y0 y1 y2 y3 y4, LeO (impl_LoseDisk.l0 k y0 y1 y2 y3 y4) (impl_LoseDisk.l0 (k + 1) y0 y1 y2 y3 y4))
  | 0 => fun _ _ _ _ _ r h => by simp [impl_LoseDisk.l0] at h
  | k + 1 => by
    have ih0 := impl_LoseDisk.mono_l k
    · intro y0 y1 y2 y3 y4
      unfold impl_LoseDisk.l0
      repeat' first
      | (with_reducible exact ih0 _ _ _ _ _)
      | (with_reducible exact impl_DiskOk.mono _ _)
      | (with_reducible exact LeO.refl _)
      | (with_reducible exact LeO.none _)
      | (with_reducible refine LeO.ite ?_ ?_)
      | (with_reducible refine LeO.bind ?_ (fun _ => ?_))
      | exact ih0 _ _ _ _ _
      | exact impl_DiskOk.mono _ _
      | exact LeO.none _
      | refine LeO.ite ?_ ?_
      | refine LeO.bind ?_ (fun _ => ?_)
theorem impl_LoseDisk.mono : ∀ a0 a1 k, LeO (impl_LoseDisk.f k a0 a1) (impl_LoseDisk.f (k + 1) a0 a1) := by
  intro a0 a1 k
  have ih0 := impl_LoseDisk.mono_l k
  unfold impl_LoseDisk.f
  repeat' first
      | (with_reducible exact ih0 _ _ _ _ _)
      | (with_reducible exact impl_DiskOk.mono _ _)
      | (with_reducible exact LeO.refl _)
      | (with_reducible exact LeO.none _)
      | (with_reducible refine LeO.ite ?_ ?_)
      | (with_reducible refine LeO.bind ?_ (fun _ => ?_))
      | exact ih0 _ _ _ _ _
      | exact impl_DiskOk.mono _ _
      | exact LeO.none _
      | refine LeO.ite ?_ ?_
      | refine LeO.bind ?_ (fun _ => ?_)
def impl_LoseDisk.T9 : Bool × List (List Nat × List Nat) := (true, [([], []), ([], []), ([0, 1], [0, 1]), ([2], [2]), ([], []), ([4], [4]), ([5], [5]), ([3, 6], [3, 6]), ([7], [7]), ([8, 0, 1, 2, 3, 4, 5, 6, 7, 8], [8])])
def impl_LoseDisk.B9 : List Nat := [0, 0, 3, 7, 0, 16, 48, 127, 255, 511]
theorem impl_LoseDisk.tab9 : rtab .any (opsOf Try.f9 9) = impl_LoseDisk.T9 := by kernel_rfl
theorem impl_LoseDisk.bits9 : waitsOk impl_LoseDisk.T9.2 impl_LoseDisk.B9 = true := by kernel_rfl
def impl_LoseDisk.T11 : Bool × List (List Nat × List Nat) := (true, [([], []), ([0], [0]), ([], []), ([], []), ([3], [3]), ([], []), ([4, 5], [4, 5]), ([1, 2, 0, 1, 2, 3, 4, 5, 6], [1, 2]), ([7, 0, 1, 2, 3, 4, 5, 6], [7]), ([8, 6, 0, 1, 2, 3, 4, 5, 6], [6, 8])])
def impl_LoseDisk.B11 : List Nat := [0, 1, 0, 0, 8, 0, 56, 127, 255, 511]
theorem impl_LoseDisk.tab11 : rtab .any (opsOf Try.f9 11) = impl_LoseDisk.T11 := by kernel_rfl
theorem impl_LoseDisk.bits11 : waitsOk impl_LoseDisk.T11.2 impl_LoseDisk.B11 = true := by kernel_rfl
/-- The slice that is ranged over is the one that is written; from place i on it holds what that one holds. -/
def LoseInv (v u : Value) (x17 x : List S36) (i : Int) : Prop := u = v ∧ x17.length = x.length ∧ ∀ j : Int, i ≤ j → rd_T36 x17 j = rd_T36 x j
theorem rd_far (x : List S36) (a : S36) (i j : Int) (h0 : 0 ≤ i) (h : i < j) : rd_T36 (x.set i.toNat a) j = rd_T36 x j := by
  unfold rd_T36
  rw [List.getD_eq_getElem?_getD, List.getD_eq_getElem?_getD, List.getElem?_set_ne (by omega)]
theorem LoseInv.step {v u : Value} {x17 x y1 y2 : List S36} {i : Int} {a b : S36} (h : LoseInv v u x17 x i) (h0 : 0 ≤ i) (hb : (x17.length : Int) ≤ 9223372036854775807) (hi : i < (x17.length : Int)) (e1 : y1 = x.set i.toNat a) (e2 : y2 = y1.set i.toNat b) : LoseInv v u x17 y2 (wrap64 (i + 1)) := by
  have hw : wrap64 (i + 1) = i + 1 := by unfold wrap64; omega
  refine ⟨h.1, by rw [e2, e1, List.length_set, List.length_set]; exact h.2.1, fun j hj => ?_⟩
  rw [hw] at hj
  rw [e2, rd_far _ _ _ _ h0 (by omega), e1, rd_far _ _ _ _ h0 (by omega)]
  exact h.2.2 j (by omega)
set_option maxHeartbeats 8000000 in
set_option maxRecDepth 100000 in
theorem impl_LoseDisk.calls (k : Nat) (A0_0 : Option Addr) (c0_0 : Nat) (l0_0 : List (S36)) (A1 : Option Addr) (c1 : Nat) (l1 : List Int) (r1 : List (S36)) (r2 : Bool) (w : World) (hr0_0 : Kd.C k36 w A0_0 l0_0.length l0_0) (hc0_0 : l0_0.length ≤ c0_0) (hr1 : Kd.C (Kd.int .i64) w A1 l1.length l1) (hc1 : l1.length ≤ c1) (h : impl_LoseDisk.f k l0_0 l1 = some (r1, r2)) :
    Calls Try.prog 9 #[.agg #[.slice A0_0 l0_0.length c0_0], .slice A1 l1.length c1] w fun e w' => ∃ v0_ : Value, e = .returned (.tuple #[.agg #[v0_], .bool r2]) ∧ Kd.R k36 36 w' w.heap.size (fun _ => True) v0_ r1 ∧ Below w.heap.size w w' := by
  have hu26 := Try.underlying26
  have hu36 := Try.underlying36
  have HR0_0 := Aside0.mk hr0_0
  have HC0_0 := Aside0.mk hc0_0
  clear hr0_0 hc0_0
  have HR1 := Aside0.mk hr1
  have HC1 := Aside0.mk hc1
  clear hr1 hc1
  have HB := Aside0.mk (Below.refl w.heap.size w)
  have H : ((impl_DiskOk.f k l0_0).bind fun t218 => (if t218 = true then ((impl_cloneDisk.f l0_0).bind fun t219 => (impl_LoseDisk.l0 k l1 t219 (t219.length : Int) 0 t219)) else (some (([] : List (S36)), false)))) = some (r1, r2) := h
  clear h
  replace H := Option.bind_eq_some_iff.mp H
  obtain ⟨t218, A30, H⟩ := H
  replace H : (if t218 = true then ((impl_cloneDisk.f l0_0).bind fun t219 => (impl_LoseDisk.l0 k l1 t219 (t219.length : Int) 0 t219)) else (some (([] : List (S36)), false))) = some (r1, r2) := H
  have A3 := Aside0.mk A30
  clear A30
  by_cases c4 : t218 = true
  · subst c4
    have H1 : ((impl_cloneDisk.f l0_0).bind fun t219 => (impl_LoseDisk.l0 k l1 t219 (t219.length : Int) 0 t219)) = some (r1, r2) := by rw [if_pos rfl] at H; exact H
    clear H
    have H := H1
    clear H1
    replace H := Option.bind_eq_some_iff.mp H
    obtain ⟨t219, A50, H⟩ := H
    replace H : (impl_LoseDisk.l0 k l1 t219 (t219.length : Int) 0 t219) = some (r1, r2) := H
    have A5 := Aside0.mk A50
    clear A50
    have H' := Aside0.mk H
    clear H
    go_enter Try.func9, Try.ntmps9
    go_wp2_with (first | ((with_reducible refine gate_dst (N := 2) rfl ?_); refine box_event ?hg (N := 2) ?hd (cs := #[.slice A0_0 l0_0.length c0_0]) (t := 26) ?hr ?_; (case hd => rfl); (case hg => rfl); (case hr => first | (go_simp; done) | (go_simp; rfl)); intro gb216 hg w6 hbox hb; have n0_ := Aside0.mk (below_step (by repeat (first | (with_reducible first | exact HB.out | apply below_alloc | apply pw_below_drewN | apply below_drew1) | exact HB.out)) hb); have n1_ := Aside0.mk (hbox); have n2_ := Aside0.mk ((by rw [hg]; exact (below_size (by repeat (first | (with_reducible first | exact HB.out | apply below_alloc | apply pw_below_drewN | apply below_drew1) | exact HB.out))) : w.heap.size ≤ gb216)); have n3_ := Aside0.mk ((by rw [hg]; exact (below_size (by repeat (first | (with_reducible first | exact HB.out | apply below_alloc | apply pw_below_drewN | apply below_drew1) | exact HB.out))) : w.heap.size ≤ gb216)); clear HB; have HB := n0_; have BK216 := n1_; have GW216 := n2_; have GE216 := n3_; clear n0_ n1_ n2_ n3_; clear hb hbox hg) | ((with_reducible refine gate_dst (N := 4) rfl ?_); refine box_event ?hg (N := 4) ?hd (cs := #[.slice none 0 0]) (t := 26) ?hr ?_; (case hd => rfl); (case hg => rfl); (case hr => first | (go_simp; done) | (go_simp; rfl)); intro gb217 hg w7 hbox hb; have n0_ := Aside0.mk (blk_below (g := gb216) (o := .cells #[.slice A0_0 l0_0.length c0_0] 26 (0, 0)) (by (with_reducible repeat (first | refine blk_drewN ?_ _ | refine blk_drew ?_ | refine blk_alloc ?_ _)); exact BK216.out) hb); have n1_ := Aside0.mk (below_step (by repeat (first | (with_reducible first | exact HB.out | apply below_alloc | apply pw_below_drewN | apply below_drew1 | refine below_set ?_ GE216.out) | exact HB.out)) hb); have n2_ := Aside0.mk (hbox); have n3_ := Aside0.mk ((by rw [hg]; exact (below_size (by repeat (first | (with_reducible first | exact HB.out | apply below_alloc | apply pw_below_drewN | apply below_drew1 | refine below_set ?_ GE216.out) | exact HB.out))) : w.heap.size ≤ gb217)); have n4_ := Aside0.mk ((by rw [hg]; exact (below_size (by repeat (first | (with_reducible first | exact HB.out | apply below_alloc | apply pw_below_drewN | apply below_drew1 | refine below_set ?_ GE216.out) | exact HB.out))) : w.heap.size ≤ gb217)); have n5_ := Aside0.mk ((by rw [hg]; exact Nat.ne_of_lt (blk_lt (g := gb216) (o := .cells #[.slice A0_0 l0_0.length c0_0] 26 (0, 0)) (by (with_reducible repeat (first | refine blk_drewN ?_ _ | refine blk_drew ?_ | refine blk_alloc ?_ _)); exact BK216.out)) : gb216 ≠ gb217)); have n6_ := Aside0.mk ((by rw [hg]; exact Nat.ne_of_gt (blk_lt (g := gb216) (o := .cells #[.slice A0_0 l0_0.length c0_0] 26 (0, 0)) (by (with_reducible repeat (first | refine blk_drewN ?_ _ | refine blk_drew ?_ | refine blk_alloc ?_ _)); exact BK216.out)) : gb217 ≠ gb216)); clear BK216; clear HB; have BK216 := n0_; have HB := n1_; have BK217 := n2_; have GW217 := n3_; have GE217 := n4_; have NB216_217 := n5_; have NB217_216 := n6_; clear n0_ n1_ n2_ n3_ n4_ n5_ n6_; clear hb hbox hg; have hnb8 := NB216_217.out; have hnc8 := NB217_216.out; have hcz9_0 : w7.cell? ⟨gb216, 0, none⟩ = some (.slice A0_0 l0_0.length c0_0) := (blk_cell BK216.out 0).trans rfl; have hfz9_0 := blk_frozen BK216.out 0) | ((with_reducible refine gate_callee (f := 12) rfl ?_); refine goesL_ (some 11) rfl rfl Try.func12 (by kernel_rfl) rfl #[.agg #[.slice A0_0 l0_0.length c0_0]] rfl (by (try simp only [List.map_toArray, List.map_cons, List.map_nil]); first | done | rfl | (simp only [List.length_drop, List.length_take]; rfl)) ?_; (with_reducible refine (impl_DiskOk.calls k _ _ l0_0 true _ ?side1 ?side2 A3.out).mono ?_); (case side1 => repeat (first | exact (Kd.C_below HR0_0.out HB.out) | (with_reducible refine Kd.C_alloc ?_ _) | (with_reducible refine Kd.C_drewN ?_ _) | (with_reducible refine Kd.C_drew ?_))); (case side2 => exact HC0_0.out); rintro e w10 ⟨rfl, hb⟩; refine ⟨_, rfl, ?_⟩; have n0_ := Aside0.mk (blk_below (g := gb216) (o := .cells #[.slice A0_0 l0_0.length c0_0] 26 (0, 0)) (by (with_reducible repeat (first | refine blk_drewN ?_ _ | refine blk_drew ?_ | refine blk_alloc ?_ _)); exact BK216.out) hb); have n1_ := Aside0.mk (blk_below (g := gb217) (o := .cells #[.slice none 0 0] 26 (0, 0)) (by (with_reducible repeat (first | refine blk_drewN ?_ _ | refine blk_drew ?_ | refine blk_alloc ?_ _)); exact BK217.out) hb); have n2_ := Aside0.mk (below_step (by repeat (first | (with_reducible first | exact HB.out | apply below_alloc | apply pw_below_drewN | apply below_drew1 | refine below_set ?_ GE216.out | refine below_set ?_ GE217.out) | exact HB.out)) hb); clear BK216; clear BK217; clear HB; have BK216 := n0_; have BK217 := n1_; have HB := n2_; clear n0_ n1_ n2_; (try clear hb); (try clear hb2); (try clear hk); (try clear hi); have hcz11_0 : w10.cell? ⟨gb216, 0, none⟩ = some (.slice A0_0 l0_0.length c0_0) := (blk_cell BK216.out 0).trans rfl; have hfz11_0 := blk_frozen BK216.out 0) | ((with_reducible refine gate_callee (f := 25) rfl ?_); refine goesL_ (some 15) rfl rfl Try.func25 (by kernel_rfl) rfl #[.agg #[.slice A0_0 l0_0.length c0_0]] rfl (by (try simp only [List.map_toArray, List.map_cons, List.map_nil]); first | done | rfl | (simp only [List.length_drop, List.length_take]; rfl)) ?_; (with_reducible refine (impl_cloneDisk.calls _ _ l0_0 t219 _ ?side1 ?side2 A5.out).mono ?_); (case side1 => repeat (first | exact (Kd.C_below HR0_0.out HB.out) | (with_reducible refine Kd.C_alloc ?_ _) | (with_reducible refine Kd.C_drewN ?_ _) | (with_reducible refine Kd.C_drew ?_))); (case side2 => exact HC0_0.out); rintro e w12 ⟨v220, rfl, ho0, hb⟩; refine ⟨_, rfl, ?_⟩; have n0_ := Aside0.mk (Kd.R_lower ho0 (below_size (by repeat (first | (with_reducible first | exact HB.out | apply below_alloc | apply pw_below_drewN | apply below_drew1 | refine below_set ?_ GE216.out | refine below_set ?_ GE217.out) | exact HB.out)))); have n1_ := Aside0.mk (blk_below (g := gb216) (o := .cells #[.slice A0_0 l0_0.length c0_0] 26 (0, 0)) (by (with_reducible repeat (first | refine blk_drewN ?_ _ | refine blk_drew ?_ | refine blk_alloc ?_ _)); exact BK216.out) hb); have n2_ := Aside0.mk (blk_below (g := gb217) (o := .cells #[.slice none 0 0] 26 (0, 0)) (by (with_reducible repeat (first | refine blk_drewN ?_ _ | refine blk_drew ?_ | refine blk_alloc ?_ _)); exact BK217.out) hb); have n3_ := Aside0.mk (below_step (by repeat (first | (with_reducible first | exact HB.out | apply below_alloc | apply pw_below_drewN | apply below_drew1 | refine below_set ?_ GE216.out | refine below_set ?_ GE217.out) | exact HB.out)) hb); clear BK216; clear BK217; clear HB; have HO221 := n0_; have BK216 := n1_; have BK217 := n2_; have HB := n3_; clear n0_ n1_ n2_ n3_; (try clear hb); (try clear hb2); (try clear hk); (try clear hi); (try clear ho0)) | ((with_reducible refine gate_dst (N := 6) rfl ?_); refine box_event ?hg (N := 6) ?hd (cs := #[.slice none 0 0]) (t := 26) ?hr ?_; (case hd => rfl); (case hg => rfl); (case hr => first | (go_simp; done) | (go_simp; rfl)); intro gb222 hg w13 hbox hb; have n0_ := Aside0.mk (Kd.R_below (by (with_reducible repeat (first | apply Kd.R_alloc | apply Kd.R_drewN | apply Kd.R_drew)); exact HO221.out) hb); have n1_ := Aside0.mk (blk_below (g := gb216) (o := .cells #[.slice A0_0 l0_0.length c0_0] 26 (0, 0)) (by (with_reducible repeat (first | refine blk_drewN ?_ _ | refine blk_drew ?_ | refine blk_alloc ?_ _)); exact BK216.out) hb); have n2_ := Aside0.mk (blk_below (g := gb217) (o := .cells #[.slice none 0 0] 26 (0, 0)) (by (with_reducible repeat (first | refine blk_drewN ?_ _ | refine blk_drew ?_ | refine blk_alloc ?_ _)); exact BK217.out) hb); have n3_ := Aside0.mk (below_step (by repeat (first | (with_reducible first | exact HB.out | apply below_alloc | apply pw_below_drewN | apply below_drew1 | refine below_set ?_ GE216.out | refine below_set ?_ GE217.out) | exact HB.out)) hb); have n4_ := Aside0.mk (hbox); have n5_ := Aside0.mk ((by rw [hg]; exact (below_size (by repeat (first | (with_reducible first | exact HB.out | apply below_alloc | apply pw_below_drewN | apply below_drew1 | refine below_set ?_ GE216.out | refine below_set ?_ GE217.out) | exact HB.out))) : w.heap.size ≤ gb222)); have n6_ := Aside0.mk ((by rw [hg]; exact (below_size (by repeat (first | (with_reducible first | exact HB.out | apply below_alloc | apply pw_below_drewN | apply below_drew1 | refine below_set ?_ GE216.out | refine below_set ?_ GE217.out) | exact HB.out))) : w.heap.size ≤ gb222)); have n7_ := Aside0.mk ((by rw [hg]; exact Nat.ne_of_lt (blk_lt (g := gb216) (o := .cells #[.slice A0_0 l0_0.length c0_0] 26 (0, 0)) (by (with_reducible repeat (first | refine blk_drewN ?_ _ | refine blk_drew ?_ | refine blk_alloc ?_ _)); exact BK216.out)) : gb216 ≠ gb222)); have n8_ := Aside0.mk ((by rw [hg]; exact Nat.ne_of_gt (blk_lt (g := gb216) (o := .cells #[.slice A0_0 l0_0.length c0_0] 26 (0, 0)) (by (with_reducible repeat (first | refine blk_drewN ?_ _ | refine blk_drew ?_ | refine blk_alloc ?_ _)); exact BK216.out)) : gb222 ≠ gb216)); have n9_ := Aside0.mk ((by rw [hg]; exact Nat.ne_of_lt (blk_lt (g := gb217) (o := .cells #[.slice none 0 0] 26 (0, 0)) (by (with_reducible repeat (first | refine blk_drewN ?_ _ | refine blk_drew ?_ | refine blk_alloc ?_ _)); exact BK217.out)) : gb217 ≠ gb222)); have n10_ := Aside0.mk ((by rw [hg]; exact Nat.ne_of_gt (blk_lt (g := gb217) (o := .cells #[.slice none 0 0] 26 (0, 0)) (by (with_reducible repeat (first | refine blk_drewN ?_ _ | refine blk_drew ?_ | refine blk_alloc ?_ _)); exact BK217.out)) : gb222 ≠ gb217)); clear HO221; clear BK216; clear BK217; clear HB; have HO221 := n0_; have BK216 := n1_; have BK217 := n2_; have HB := n3_; have BK222 := n4_; have GW222 := n5_; have GE222 := n6_; have NB216_222 := n7_; have NB222_216 := n8_; have NB217_222 := n9_; have NB222_217 := n10_; clear n0_ n1_ n2_ n3_ n4_ n5_ n6_ n7_ n8_ n9_ n10_; clear hb hbox hg; obtain ⟨Ao14, co14, eo14⟩ := Kd.R_slice HO221.out; subst eo14; have hnb15 := NB222_216.out; have hnc15 := NB216_222.out; have hnb16 := NB222_217.out; have hnc16 := NB217_222.out; have hcz17_0 : w13.cell? ⟨gb222, 0, none⟩ = some (.slice none 0 0) := (blk_cell BK222.out 0).trans rfl; have hfz17_0 := blk_frozen BK222.out 0))
    go_loopg [19] k (fun kq v19 w' => ∃ (x17_1 : List (S36)) (x19_1 : Int) (x223000_1 : List (S36)) (u223000 : Value), v19 = .int .i64 x19_1 ∧ Aside0 (impl_LoseDisk.l0 kq l1 x17_1 (t219.length : Int) x19_1 x223000_1 = some (r1, r2)) ∧ Aside0 (kq ≤ k) ∧ Aside0 (t219.length = x17_1.length ∧ LoseInv (.slice Ao14 t219.length co14) u223000 x17_1 x223000_1 x19_1) ∧ Aside0 (Kd.R k36 36 w' w.heap.size (fun _ => True) u223000 x223000_1) ∧ Aside0 (w'.heap[gb216]? = some (.cells #[(.slice A0_0 l0_0.length c0_0)] 26 (0, 0))) ∧ Aside0 (w'.heap[gb217]? = some (.cells #[(.slice none 0 0)] 26 (0, 0))) ∧ Aside0 (w'.heap[gb222]? = some (.cells #[u223000] 26 (0, 0))) ∧ Aside0 (Below w.heap.size w w'))
    case atStart => exact ⟨(t219), (0), (t219), (.slice Ao14 t219.length co14), (by first | rfl | (simp; done) | (simp [*]; done)), H', ⟨Nat.le_refl _⟩, ⟨⟨rfl, rfl, rfl, fun _ _ => rfl⟩⟩, ⟨by (with_reducible repeat (first | apply Kd.R_alloc | apply Kd.R_drewN | apply Kd.R_drew)); exact Kd.R_mono (Kd.R_far (p := ⟨gb222, 0, none⟩) (Kd.R_types HO221.out BK222.out (by decide)) (fun _ hk => hk.2) (.slice Ao14 t219.length co14)) (fun _ hk => trivial)⟩, ⟨by (with_reducible repeat (first | refine blk_drewN ?_ _ | refine blk_drew ?_ | refine blk_alloc ?_ _)); refine blk_far ?_ NB216_222.out _; (with_reducible repeat (first | refine blk_drewN ?_ _ | refine blk_drew ?_ | refine blk_alloc ?_ _)); exact BK216.out⟩, ⟨by (with_reducible repeat (first | refine blk_drewN ?_ _ | refine blk_drew ?_ | refine blk_alloc ?_ _)); refine blk_far ?_ NB217_222.out _; (with_reducible repeat (first | refine blk_drewN ?_ _ | refine blk_drew ?_ | refine blk_alloc ?_ _)); exact BK217.out⟩, ⟨by (with_reducible repeat (first | refine blk_drewN ?_ _ | refine blk_drew ?_ | refine blk_alloc ?_ _)); refine blk_put (cs := #[.slice none 0 0]) ?_ 0 _ rfl; (with_reducible repeat (first | refine blk_drewN ?_ _ | refine blk_drew ?_ | refine blk_alloc ?_ _)); exact BK222.out⟩, ⟨by repeat (first | (with_reducible first | exact HB.out | apply below_alloc | apply pw_below_drewN | apply below_drew1 | refine below_set ?_ GE216.out | refine below_set ?_ GE217.out | refine below_set ?_ GE222.out) | exact HB.out)⟩⟩
    case round =>
      clear H'
      try clear c1
      try clear c2
      try clear p2
      try clear c4
      try clear c8
      try clear c9
      try clear c12
      try clear c15
      try clear c16
      try clear hcz11_0
      try clear hcz17_0
      try clear hcz9_0
      try clear hfz11_0
      try clear hfz17_0
      try clear hfz9_0
      obtain ⟨x17_1, x19_1, x223000_1, u223000, rfl, HA, HK1, HO_17, HO_223000, BK216, BK217, BK222, HB⟩ := hrel
      have hl17_1 : t219.length = x17_1.length := HO_17.out.1
      rw [hl17_1] at HO_17
      (try simp only [hl17_1])
      (try simp only [hl17_1] at BK216)
      (try simp only [hl17_1] at BK217)
      (try simp only [hl17_1] at BK222)
      (try simp only [hl17_1] at HO_223000)
      cases gk with
      | zero => exact absurd HA.out (by simp [impl_LoseDisk.l0])
      | succ k1 =>
        have H := HA.out
        clear HA
        simp only [impl_LoseDisk.l0] at H
        by_cases c18 : x19_1 < (t219.length : Int)
        · rw [if_pos c18] at H
          have c18b0 : decide (x19_1 < (t219.length : Int)) = true := decide_eq_true c18
          clear c18
          by_cases c19 : 0 ≤ x19_1
          · rw [if_pos c19] at H
            have c19b0 : decide (0 ≤ x19_1) = true := decide_eq_true c19
            clear c19
            by_cases c20 : x19_1 < (x17_1.length : Int)
            · rw [if_pos c20] at H
              have c20b0 : decide (x19_1 < (x17_1.length : Int)) = true := decide_eq_true c20
              clear c20
              by_cases c21 : x19_1 < (l1.length : Int)
              · rw [if_pos c21] at H
                have c21b0 : decide (x19_1 < (l1.length : Int)) = true := decide_eq_true c21
                clear c21
                obtain ⟨ji22, hji22⟩ : ∃ j_ : Int, (mn (rd l1 x19_1) (((rd_T36 x17_1 x19_1).f1).size : Int)) = j_ := ⟨_, rfl⟩
                replace H : (if 0 ≤ (mx (mx 0 (ji22)) ((rd_T36 x17_1 x19_1).f2)) then (if (mx (mx 0 (ji22)) ((rd_T36 x17_1 x19_1).f2)) ≤ (((rd_T36 x17_1 x19_1).f1).size : Int) then (if x19_1 < (x223000_1.length : Int) then ((some (x223000_1.set (x19_1 : Int).toNat (⟨(rd_T36 x223000_1 x19_1).f0, ((rd_T36 x17_1 x19_1).f1).extract 0 ((mx (mx 0 (ji22)) ((rd_T36 x17_1 x19_1).f2)) : Int).toNat, (rd_T36 x223000_1 x19_1).f2⟩ : S36) : List (S36))).bind fun y226 => (impl_LoseDisk.l0 k1 l1 x17_1 (t219.length : Int) (wrap64 (x19_1 + 1)) (y226.set (x19_1 : Int).toNat (⟨(rd_T36 y226 x19_1).f0, (rd_T36 y226 x19_1).f1, mx (mx 0 (ji22)) ((rd_T36 x17_1 x19_1).f2)⟩ : S36)))) else (none)) else (none)) else (none)) = some (r1, r2) := by first | (rw [hji22] at H; exact H) | (simp only [hji22] at H ⊢; exact H)
                have hji22_ : (if (((rd_T36 x17_1 x19_1).f1).size : Int) < (rd l1 x19_1) then (((rd_T36 x17_1 x19_1).f1).size : Int) else (rd l1 x19_1)) = ji22 := hji22
                obtain ⟨ji23, hji23⟩ : ∃ j_ : Int, (mx 0 (ji22)) = j_ := ⟨_, rfl⟩
                replace H : (if 0 ≤ (mx (ji23) ((rd_T36 x17_1 x19_1).f2)) then (if (mx (ji23) ((rd_T36 x17_1 x19_1).f2)) ≤ (((rd_T36 x17_1 x19_1).f1).size : Int) then (if x19_1 < (x223000_1.length : Int) then ((some (x223000_1.set (x19_1 : Int).toNat (⟨(rd_T36 x223000_1 x19_1).f0, ((rd_T36 x17_1 x19_1).f1).extract 0 ((mx (ji23) ((rd_T36 x17_1 x19_1).f2)) : Int).toNat, (rd_T36 x223000_1 x19_1).f2⟩ : S36) : List (S36))).bind fun y226 => (impl_LoseDisk.l0 k1 l1 x17_1 (t219.length : Int) (wrap64 (x19_1 + 1)) (y226.set (x19_1 : Int).toNat (⟨(rd_T36 y226 x19_1).f0, (rd_T36 y226 x19_1).f1, mx (ji23) ((rd_T36 x17_1 x19_1).f2)⟩ : S36)))) else (none)) else (none)) else (none)) = some (r1, r2) := by first | (rw [hji23] at H; exact H) | (simp only [hji23] at H ⊢; exact H)
                have hji23_ : (if 0 < (ji22) then (ji22) else 0) = ji23 := hji23
                obtain ⟨ji24, hji24⟩ : ∃ j_ : Int, (mx (ji23) ((rd_T36 x17_1 x19_1).f2)) = j_ := ⟨_, rfl⟩
                replace H : (if 0 ≤ (ji24) then (if (ji24) ≤ (((rd_T36 x17_1 x19_1).f1).size : Int) then (if x19_1 < (x223000_1.length : Int) then ((some (x223000_1.set (x19_1 : Int).toNat (⟨(rd_T36 x223000_1 x19_1).f0, ((rd_T36 x17_1 x19_1).f1).extract 0 ((ji24) : Int).toNat, (rd_T36 x223000_1 x19_1).f2⟩ : S36) : List (S36))).bind fun y226 => (impl_LoseDisk.l0 k1 l1 x17_1 (t219.length : Int) (wrap64 (x19_1 + 1)) (y226.set (x19_1 : Int).toNat (⟨(rd_T36 y226 x19_1).f0, (rd_T36 y226 x19_1).f1, ji24⟩ : S36)))) else (none)) else (none)) else (none)) = some (r1, r2) := by first | (rw [hji24] at H; exact H) | (simp only [hji24] at H ⊢; exact H)
                have hji24_ : (if (ji23) < ((rd_T36 x17_1 x19_1).f2) then ((rd_T36 x17_1 x19_1).f2) else (ji23)) = ji24 := hji24
                by_cases c25 : 0 ≤ (ji24)
                · rw [if_pos c25] at H
                  have c25b0 := eq_true c25
                  have c25b1 : decide (0 ≤ (ji24)) = true := decide_eq_true c25
                  clear c25
                  by_cases c26 : (ji24) ≤ (((rd_T36 x17_1 x19_1).f1).size : Int)
                  · rw [if_pos c26] at H
                    have c26b0 := eq_true c26
                    have c26b1 : decide ((ji24) ≤ (((rd_T36 x17_1 x19_1).f1).size : Int)) = true := decide_eq_true c26
                    clear c26
                    by_cases c27 : x19_1 < (x223000_1.length : Int)
                    · rw [if_pos c27] at H
                      have c27b0 : decide (x19_1 < (x223000_1.length : Int)) = true := decide_eq_true c27
                      clear c27
                      obtain ⟨y226, hy226⟩ : ∃ y_ : List (S36), y_ = (x223000_1.set (x19_1 : Int).toNat (⟨(rd_T36 x223000_1 x19_1).f0, ((rd_T36 x17_1 x19_1).f1).extract 0 ((ji24) : Int).toNat, (rd_T36 x223000_1 x19_1).f2⟩ : S36)) := ⟨_, rfl⟩
                      replace H : (impl_LoseDisk.l0 k1 l1 x17_1 (t219.length : Int) (wrap64 (x19_1 + 1)) (y226.set (x19_1 : Int).toNat (⟨(rd_T36 y226 x19_1).f0, (rd_T36 y226 x19_1).f1, ji24⟩ : S36))) = some (r1, r2) := by first | (rw [hy226]; with_reducible exact H) | (have H2_ := (Option.bind_some _ _).symm.trans H; rw [hy226]; with_reducible exact H2_) | (have H2_ := (Option.bind_some _ _).symm.trans H; with_reducible exact H2_) | with_reducible exact H | (rw [hy226]; exact H) | exact H
                      have Ny226 := Aside0.mk hy226
                      clear hy226
                      obtain ⟨y227, hy227⟩ : ∃ y_ : List (S36), y_ = (y226.set (x19_1 : Int).toNat (⟨(rd_T36 y226 x19_1).f0, (rd_T36 y226 x19_1).f1, ji24⟩ : S36)) := ⟨_, rfl⟩
                      replace H : (impl_LoseDisk.l0 k1 l1 x17_1 (t219.length : Int) (wrap64 (x19_1 + 1)) y227) = some (r1, r2) := by first | (rw [hy227]; with_reducible exact H) | (have H2_ := (Option.bind_some _ _).symm.trans H; rw [hy227]; with_reducible exact H2_) | (have H2_ := (Option.bind_some _ _).symm.trans H; with_reducible exact H2_) | with_reducible exact H | (rw [hy227]; exact H) | exact H
                      have Ny227 := Aside0.mk hy227
                      clear hy227
                      have H' := Aside0.mk H
                      clear H
                      have p223 : 0 ≤ (x19_1 : Int) := of_decide_eq_true (by first | (with_reducible assumption) | assumption)
                      have q223 : x19_1 < (x17_1.length : Int) := of_decide_eq_true (by first | (with_reducible assumption) | assumption)
                      have hP_ := HO_17.out.2
                      have hR_ := HO_223000.out
                      rw [hP_.1] at hR_
                      have hL_ := at_T36 (Kd.R_reads' hR_).2.2 x19_1 p223 (by have := hP_.2.1; have := (Kd.R_reads' hR_).1; omega)
                      rw [← hP_.2.2 x19_1 (Int.le_refl _)] at hL_
                      have hN_ : (x17_1.length : Int) ≤ 9223372036854775807 := by have := (Kd.R_reads' hR_).2.2.2.1; have := hP_.2.1; omega
                      clear hP_ hR_
                      obtain ⟨ad223, e223, hx223_0, hx223_1, hx223_2⟩ := hL_
                      cases e223
                      replace p223 := eq_true p223
                      replace q223 := eq_true q223
                      try go_wp2_with (first | ((with_reducible refine gate_dst (N := 8) rfl ?_); refine box_event ?hg (N := 8) ?hd (cs := #[.string (⟨#[]⟩ : ByteArray), .string (⟨#[]⟩ : ByteArray), .int .i64 0]) (t := 36) ?hr ?_; (case hd => rfl); (case hg => rfl); (case hr => first | (go_simp; done) | (go_simp; rfl)); intro gb224 hg w30 hbox hb; have n0_ := HO_17; have n1_ := Aside0.mk (Kd.R_below (Kd.R_elderB (by (with_reducible repeat (first | apply Kd.R_alloc | apply Kd.R_drewN | apply Kd.R_drew)); exact HO_223000.out) gb224 (Nat.le_of_eq hg.symm)) hb); have n2_ := Aside0.mk (blk_below (g := gb216) (o := .cells #[.slice A0_0 l0_0.length c0_0] 26 (0, 0)) (by (with_reducible repeat (first | refine blk_drewN ?_ _ | refine blk_drew ?_ | refine blk_alloc ?_ _)); exact BK216.out) hb); have n3_ := Aside0.mk (blk_below (g := gb217) (o := .cells #[.slice none 0 0] 26 (0, 0)) (by (with_reducible repeat (first | refine blk_drewN ?_ _ | refine blk_drew ?_ | refine blk_alloc ?_ _)); exact BK217.out) hb); have n4_ := Aside0.mk (blk_below (g := gb222) (o := .cells #[u223000] 26 (0, 0)) (by (with_reducible repeat (first | refine blk_drewN ?_ _ | refine blk_drew ?_ | refine blk_alloc ?_ _)); exact BK222.out) hb); have n5_ := Aside0.mk (below_step (by repeat (first | (with_reducible first | exact HB.out | apply below_alloc | apply pw_below_drewN | apply below_drew1 | refine below_set ?_ GE216.out | refine below_set ?_ GE217.out | refine below_set ?_ GE222.out) | exact HB.out)) hb); have n6_ := Aside0.mk (hbox); have n7_ := Aside0.mk ((by rw [hg]; exact (below_size (by repeat (first | (with_reducible first | exact HB.out | apply below_alloc | apply pw_below_drewN | apply below_drew1 | refine below_set ?_ GE216.out | refine below_set ?_ GE217.out | refine below_set ?_ GE222.out) | exact HB.out))) : w.heap.size ≤ gb224)); have n8_ := Aside0.mk ((by rw [hg]; exact (below_size (by repeat (first | (with_reducible first | exact HB.out | apply below_alloc | apply pw_below_drewN | apply below_drew1 | refine below_set ?_ GE216.out | refine below_set ?_ GE217.out | refine below_set ?_ GE222.out) | exact HB.out))) : w.heap.size ≤ gb224)); have n9_ := Aside0.mk ((by rw [hg]; exact Nat.ne_of_lt (blk_lt (g := gb216) (o := .cells #[.slice A0_0 l0_0.length c0_0] 26 (0, 0)) (by (with_reducible repeat (first | refine blk_drewN ?_ _ | refine blk_drew ?_ | refine blk_alloc ?_ _)); exact BK216.out)) : gb216 ≠ gb224)); have n10_ := Aside0.mk ((by rw [hg]; exact Nat.ne_of_gt (blk_lt (g := gb216) (o := .cells #[.slice A0_0 l0_0.length c0_0] 26 (0, 0)) (by (with_reducible repeat (first | refine blk_drewN ?_ _ | refine blk_drew ?_ | refine blk_alloc ?_ _)); exact BK216.out)) : gb224 ≠ gb216)); have n11_ := Aside0.mk ((by rw [hg]; exact Nat.ne_of_lt (blk_lt (g := gb217) (o := .cells #[.slice none 0 0] 26 (0, 0)) (by (with_reducible repeat (first | refine blk_drewN ?_ _ | refine blk_drew ?_ | refine blk_alloc ?_ _)); exact BK217.out)) : gb217 ≠ gb224)); have n12_ := Aside0.mk ((by rw [hg]; exact Nat.ne_of_gt (blk_lt (g := gb217) (o := .cells #[.slice none 0 0] 26 (0, 0)) (by (with_reducible repeat (first | refine blk_drewN ?_ _ | refine blk_drew ?_ | refine blk_alloc ?_ _)); exact BK217.out)) : gb224 ≠ gb217)); have n13_ := Aside0.mk ((by rw [hg]; exact Nat.ne_of_lt (blk_lt (g := gb222) (o := .cells #[u223000] 26 (0, 0)) (by (with_reducible repeat (first | refine blk_drewN ?_ _ | refine blk_drew ?_ | refine blk_alloc ?_ _)); exact BK222.out)) : gb222 ≠ gb224)); have n14_ := Aside0.mk ((by rw [hg]; exact Nat.ne_of_gt (blk_lt (g := gb222) (o := .cells #[u223000] 26 (0, 0)) (by (with_reducible repeat (first | refine blk_drewN ?_ _ | refine blk_drew ?_ | refine blk_alloc ?_ _)); exact BK222.out)) : gb224 ≠ gb222)); clear HO_17; clear HO_223000; clear BK216; clear BK217; clear BK222; clear HB; have HO_17 := n0_; have HO_223000 := n1_; have BK216 := n2_; have BK217 := n3_; have BK222 := n4_; have HB := n5_; have BK224 := n6_; have GW224 := n7_; have GE224 := n8_; have NB216_224 := n9_; have NB224_216 := n10_; have NB217_224 := n11_; have NB224_217 := n12_; have NB222_224 := n13_; have NB224_222 := n14_; clear n0_ n1_ n2_ n3_ n4_ n5_ n6_ n7_ n8_ n9_ n10_ n11_ n12_ n13_ n14_; clear hb hbox hg; have hnb31 := NB224_216.out; have hnc31 := NB216_224.out; have hnb32 := NB224_217.out; have hnc32 := NB217_224.out; have hnb33 := NB224_222.out; have hnc33 := NB222_224.out; have hcz34_0 : w30.cell? ⟨gb224, 0, none⟩ = some (.string (⟨#[]⟩ : ByteArray)) := (blk_cell BK224.out 0).trans rfl; have hcz34_1 : w30.cell? ⟨gb224, 1, none⟩ = some (.string (⟨#[]⟩ : ByteArray)) := (blk_cell BK224.out 1).trans rfl; have hcz34_2 : w30.cell? ⟨gb224, 2, none⟩ = some (.int .i64 0) := (blk_cell BK224.out 2).trans rfl; have hfz34_0 := blk_frozen BK224.out 0; have hfz34_1 := blk_frozen BK224.out 1; have hfz34_2 := blk_frozen BK224.out 2))
                      have n0_ := HO_17
                      have n1_ : Aside0 (Kd.R k36 36 (((w30.setCell ⟨gb224, 0, none⟩ (.string ((rd_T36 x17_1 x19_1).f0))).setCell ⟨gb224, 1, none⟩ (.string ((rd_T36 x17_1 x19_1).f1))).setCell ⟨gb224, 2, none⟩ (.int .i64 ((rd_T36 x17_1 x19_1).f2))) w.heap.size (fun k_ => k_ ≠ gb224) u223000 x223000_1) := ⟨by (with_reducible repeat (first | apply Kd.R_alloc | apply Kd.R_drewN | apply Kd.R_drew)); exact Kd.R_mono (Kd.R_far (p := ⟨gb224, 2, none⟩) (Kd.R_far (p := ⟨gb224, 1, none⟩) (Kd.R_far (p := ⟨gb224, 0, none⟩) (Kd.R_mono HO_223000.out (fun k_ hk => (⟨hk, hk.2⟩ : _ ∧ k_ ≠ gb224))) (fun _ hk => hk.2) (.string ((rd_T36 x17_1 x19_1).f0))) (fun _ hk => hk.2) (.string ((rd_T36 x17_1 x19_1).f1))) (fun _ hk => hk.2) (.int .i64 ((rd_T36 x17_1 x19_1).f2))) (fun _ hk => hk.1.2)⟩
                      have n2_ : Aside0 ((((w30.setCell ⟨gb224, 0, none⟩ (.string ((rd_T36 x17_1 x19_1).f0))).setCell ⟨gb224, 1, none⟩ (.string ((rd_T36 x17_1 x19_1).f1))).setCell ⟨gb224, 2, none⟩ (.int .i64 ((rd_T36 x17_1 x19_1).f2))).heap[gb216]? = some (.cells #[.slice A0_0 l0_0.length c0_0] 26 (0, 0))) := ⟨by (with_reducible repeat (first | refine blk_drewN ?_ _ | refine blk_drew ?_ | refine blk_alloc ?_ _)); refine blk_far ?_ NB216_224.out _; (with_reducible repeat (first | refine blk_drewN ?_ _ | refine blk_drew ?_ | refine blk_alloc ?_ _)); refine blk_far ?_ NB216_224.out _; (with_reducible repeat (first | refine blk_drewN ?_ _ | refine blk_drew ?_ | refine blk_alloc ?_ _)); refine blk_far ?_ NB216_224.out _; (with_reducible repeat (first | refine blk_drewN ?_ _ | refine blk_drew ?_ | refine blk_alloc ?_ _)); exact BK216.out⟩
                      have n3_ : Aside0 ((((w30.setCell ⟨gb224, 0, none⟩ (.string ((rd_T36 x17_1 x19_1).f0))).setCell ⟨gb224, 1, none⟩ (.string ((rd_T36 x17_1 x19_1).f1))).setCell ⟨gb224, 2, none⟩ (.int .i64 ((rd_T36 x17_1 x19_1).f2))).heap[gb217]? = some (.cells #[.slice none 0 0] 26 (0, 0))) := ⟨by (with_reducible repeat (first | refine blk_drewN ?_ _ | refine blk_drew ?_ | refine blk_alloc ?_ _)); refine blk_far ?_ NB217_224.out _; (with_reducible repeat (first | refine blk_drewN ?_ _ | refine blk_drew ?_ | refine blk_alloc ?_ _)); refine blk_far ?_ NB217_224.out _; (with_reducible repeat (first | refine blk_drewN ?_ _ | refine blk_drew ?_ | refine blk_alloc ?_ _)); refine blk_far ?_ NB217_224.out _; (with_reducible repeat (first | refine blk_drewN ?_ _ | refine blk_drew ?_ | refine blk_alloc ?_ _)); exact BK217.out⟩
                      have n4_ : Aside0 ((((w30.setCell ⟨gb224, 0, none⟩ (.string ((rd_T36 x17_1 x19_1).f0))).setCell ⟨gb224, 1, none⟩ (.string ((rd_T36 x17_1 x19_1).f1))).setCell ⟨gb224, 2, none⟩ (.int .i64 ((rd_T36 x17_1 x19_1).f2))).heap[gb222]? = some (.cells #[u223000] 26 (0, 0))) := ⟨by (with_reducible repeat (first | refine blk_drewN ?_ _ | refine blk_drew ?_ | refine blk_alloc ?_ _)); refine blk_far ?_ NB222_224.out _; (with_reducible repeat (first | refine blk_drewN ?_ _ | refine blk_drew ?_ | refine blk_alloc ?_ _)); refine blk_far ?_ NB222_224.out _; (with_reducible repeat (first | refine blk_drewN ?_ _ | refine blk_drew ?_ | refine blk_alloc ?_ _)); refine blk_far ?_ NB222_224.out _; (with_reducible repeat (first | refine blk_drewN ?_ _ | refine blk_drew ?_ | refine blk_alloc ?_ _)); exact BK222.out⟩
                      have n5_ : Aside0 ((((w30.setCell ⟨gb224, 0, none⟩ (.string ((rd_T36 x17_1 x19_1).f0))).setCell ⟨gb224, 1, none⟩ (.string ((rd_T36 x17_1 x19_1).f1))).setCell ⟨gb224, 2, none⟩ (.int .i64 ((rd_T36 x17_1 x19_1).f2))).heap[gb224]? = some (.cells #[.string ((rd_T36 x17_1 x19_1).f0), .string ((rd_T36 x17_1 x19_1).f1), .int .i64 ((rd_T36 x17_1 x19_1).f2)] 36 (0, 0))) := ⟨by (with_reducible repeat (first | refine blk_drewN ?_ _ | refine blk_drew ?_ | refine blk_alloc ?_ _)); refine blk_put (cs := #[.string ((rd_T36 x17_1 x19_1).f0), .string ((rd_T36 x17_1 x19_1).f1), .int .i64 0]) ?_ 2 _ rfl; (with_reducible repeat (first | refine blk_drewN ?_ _ | refine blk_drew ?_ | refine blk_alloc ?_ _)); refine blk_put (cs := #[.string ((rd_T36 x17_1 x19_1).f0), .string (⟨#[]⟩ : ByteArray), .int .i64 0]) ?_ 1 _ rfl; (with_reducible repeat (first | refine blk_drewN ?_ _ | refine blk_drew ?_ | refine blk_alloc ?_ _)); refine blk_put (cs := #[.string (⟨#[]⟩ : ByteArray), .string (⟨#[]⟩ : ByteArray), .int .i64 0]) ?_ 0 _ rfl; (with_reducible repeat (first | refine blk_drewN ?_ _ | refine blk_drew ?_ | refine blk_alloc ?_ _)); exact BK224.out⟩
                      have n6_ : Aside0 (Below w.heap.size w (((w30.setCell ⟨gb224, 0, none⟩ (.string ((rd_T36 x17_1 x19_1).f0))).setCell ⟨gb224, 1, none⟩ (.string ((rd_T36 x17_1 x19_1).f1))).setCell ⟨gb224, 2, none⟩ (.int .i64 ((rd_T36 x17_1 x19_1).f2)))) := ⟨by repeat (first | (with_reducible first | exact HB.out | apply below_alloc | apply pw_below_drewN | apply below_drew1 | refine below_set ?_ GE216.out | refine below_set ?_ GE217.out | refine below_set ?_ GE222.out | refine below_set ?_ GE224.out) | exact HB.out)⟩
                      (try clear HO_17)
                      (try clear HO_223000)
                      (try clear BK216)
                      (try clear BK217)
                      (try clear BK222)
                      (try clear BK224)
                      (try clear HB)
                      generalize (((w30.setCell ⟨gb224, 0, none⟩ (.string ((rd_T36 x17_1 x19_1).f0))).setCell ⟨gb224, 1, none⟩ (.string ((rd_T36 x17_1 x19_1).f1))).setCell ⟨gb224, 2, none⟩ (.int .i64 ((rd_T36 x17_1 x19_1).f2))) = w35 at n1_ n2_ n3_ n4_ n5_ n6_ ⊢
                      have HO_17 := n0_
                      have HO_223000 := n1_
                      have BK216 := n2_
                      have BK217 := n3_
                      have BK222 := n4_
                      have BK224 := n5_
                      have HB := n6_
                      clear n0_ n1_ n2_ n3_ n4_ n5_ n6_
                      have n0_ := HO_17
                      have n1_ := Aside0.mk (Kd.R_drew HO_223000.out)
                      have n2_ := Aside0.mk (blk_drew BK216.out)
                      have n3_ := Aside0.mk (blk_drew BK217.out)
                      have n4_ := Aside0.mk (blk_drew BK222.out)
                      have n5_ := Aside0.mk (blk_drew BK224.out)
                      have n6_ := Aside0.mk (below_drew1 HB.out)
                      clear HO_17
                      clear HO_223000
                      clear BK216
                      clear BK217
                      clear BK222
                      clear BK224
                      clear HB
                      have HO_17 := n0_
                      have HO_223000 := n1_
                      have BK216 := n2_
                      have BK217 := n3_
                      have BK222 := n4_
                      have BK224 := n5_
                      have HB := n6_
                      clear n0_ n1_ n2_ n3_ n4_ n5_ n6_
                      have p225 : 0 ≤ (x19_1 : Int) := of_decide_eq_true (by first | (with_reducible assumption) | assumption)
                      have q225 : x19_1 < (l1.length : Int) := of_decide_eq_true (by first | (with_reducible assumption) | assumption)
                      obtain ⟨ad225, e225, hx225_0⟩ := Kd.at_int HR1.out x19_1 p225 q225
                      have hw225_0 := hx225_0
                      cases e225
                      replace hx225_0 := (HB.out.cell (World.block_lt_of_cell? w _ hx225_0)).trans hx225_0
                      replace p225 := eq_true p225
                      replace q225 := eq_true q225
                      refine start_ (n := 10) (S := fun w' => w'.cell? ⟨gb224, 0, none⟩ = some (.string ((rd_T36 x17_1 x19_1).f0)) ∧ w'.cell? ⟨gb224, 1, none⟩ = some (.string ((rd_T36 x17_1 x19_1).f1)) ∧ w'.cell? ⟨gb224, 2, none⟩ = some (.int .i64 ((rd_T36 x17_1 x19_1).f2)) ∧ w'.cell? (ad225.add (x19_1).toNat) = some (.int .i64 (rd l1 x19_1))) (ds := []) #[false, false, false, false, false, false, false, false, false, false] (by kernel_rfl) rfl rfl ⟨(blk_cell BK224.out 0).trans rfl, (blk_cell BK224.out 1).trans rfl, (blk_cell BK224.out 2).trans rfl, ((HB.out.cell (World.block_lt_of_cell? w _ hw225_0)).trans hw225_0)⟩ (fun hHeld => ?_); refine with_tabW impl_LoseDisk.tab9 impl_LoseDisk.bits9 (fun HT_ HW_ => ?_)
                      generalize w35.drew = w36 at HO_223000 BK216 BK217 BK222 BK224 HB hx225_0 hHeld ⊢
                      refine pure_ (i := 0) (N := some 28) (v := ?_) (a' := ?_) #[true, false, false, false, false, false, false, false, false, false] rfl rfl (any_of HT_.out (by kernel_rfl)) (fun _ _ _ h => h) (Or.inl ⟨by rfl, ?_⟩) ?_ ?_
                      rotate_left
                      · intro w'
                        go_simp
                        with_reducible rfl
                      rotate_left
                      · simp only [Act.put, List.setIfInBounds_toArray, List.set_cons_zero, List.set_cons_succ, i64_w, i32_w]
                        rfl
                      refine pure_ (i := 1) (N := some 29) (v := ?_) (a' := ?_) #[true, true, false, false, false, false, false, false, false, false] rfl rfl (any_of HT_.out (by kernel_rfl)) (fun _ _ _ h => h) (Or.inl ⟨by rfl, ?_⟩) ?_ ?_
                      rotate_left
                      · intro w'
                        go_simp
                        with_reducible rfl
                      rotate_left
                      · simp only [Act.put, List.setIfInBounds_toArray, List.set_cons_zero, List.set_cons_succ, i64_w, i32_w]
                        rfl
                      refine pure_ (i := 2) (N := some 30) (v := ?_) (a' := ?_) #[true, true, true, false, false, false, false, false, false, false] rfl rfl (any_of HT_.out (by kernel_rfl)) (fun _ _ _ h => h) (Or.inl ⟨by rfl, ?_⟩) ?_ ?_
                      rotate_left
                      · intro w'
                        go_simp
                        with_reducible rfl
                      rotate_left
                      · simp only [Act.put, List.setIfInBounds_toArray, List.set_cons_zero, List.set_cons_succ, i64_w, i32_w]
                        rfl
                      refine pure_ (i := 4) (N := some 32) (v := ?_) (a' := ?_) #[true, true, true, false, true, false, false, false, false, false] rfl rfl (any_of HT_.out (by kernel_rfl)) (fun _ _ _ h => h) (Or.inl ⟨by rfl, ?_⟩) ?_ ?_
                      rotate_left
                      · intro w'
                        go_simp
                        with_reducible rfl
                      rotate_left
                      · simp only [Act.put, List.setIfInBounds_toArray, List.set_cons_zero, List.set_cons_succ, i64_w, i32_w]
                        rfl
                      refine take_ (i := 3) (N := some 31) (v := ?_) (a' := ?_) #[true, true, true, true, true, false, false, false, false, false] rfl rfl (take_ofW HT_.out HW_.out (by kernel_rfl)) (fun _ _ _ h => h) (Or.inl ⟨by rfl, ?_⟩) hHeld ?_ ?_
                      rotate_left
                      · rintro w' ⟨s0, s1, s2, s3⟩
                        go_simp
                        with_reducible rfl
                      rotate_left
                      · simp only [Act.put, List.setIfInBounds_toArray, List.set_cons_zero, List.set_cons_succ, i64_w, i32_w]
                        rfl
                      refine take_ (i := 5) (N := some 33) (v := ?_) (a' := ?_) #[true, true, true, true, true, true, false, false, false, false] rfl rfl (take_ofW HT_.out HW_.out (by kernel_rfl)) (fun _ _ _ h => h) (Or.inl ⟨by rfl, ?_⟩) hHeld ?_ ?_
                      rotate_left
                      · rintro w' ⟨s0, s1, s2, s3⟩
                        go_simp
                        with_reducible rfl
                      rotate_left
                      · simp only [Act.put, List.setIfInBounds_toArray, List.set_cons_zero, List.set_cons_succ, i64_w, i32_w]
                        rfl
                      refine pure_ (i := 6) (N := some 34) (v := ?_) (a' := ?_) #[true, true, true, true, true, true, true, false, false, false] rfl rfl (any_of HT_.out (by kernel_rfl)) (fun _ _ _ h => h) (Or.inl ⟨by rfl, ?_⟩) ?_ ?_
                      rotate_left
                      · intro w'
                        go_simp
                        with_reducible rfl
                      rotate_left
                      · simp only [Act.put, List.setIfInBounds_toArray, List.set_cons_zero, List.set_cons_succ, i64_w, i32_w]
                        rfl
                      refine pure_ (i := 7) (N := some 35) (v := ?_) (a' := ?_) #[true, true, true, true, true, true, true, true, false, false] rfl rfl (any_of HT_.out (by kernel_rfl)) (fun _ _ _ h => h) (Or.inl ⟨by rfl, ?_⟩) ?_ ?_
                      rotate_left
                      · intro w'
                        go_simp
                        with_reducible rfl
                      rotate_left
                      · simp only [Act.put, List.setIfInBounds_toArray, List.set_cons_zero, List.set_cons_succ, i64_w, i32_w]
                        rfl
                      refine pure_ (i := 8) (N := some 36) (v := ?_) (a' := ?_) #[true, true, true, true, true, true, true, true, true, false] rfl rfl (any_of HT_.out (by kernel_rfl)) (fun _ _ _ h => h) (Or.inl ⟨by rfl, ?_⟩) ?_ ?_
                      rotate_left
                      · intro w'
                        go_simp
                        with_reducible rfl
                      rotate_left
                      · simp only [Act.put, List.setIfInBounds_toArray, List.set_cons_zero, List.set_cons_succ, i64_w, i32_w]
                        rfl
                      refine pure_ (i := 9) (N := some 9) (v := ?_) (a' := ?_) #[true, true, true, true, true, true, true, true, true, true] rfl rfl (any_of HT_.out (by kernel_rfl)) (fun _ _ _ h => h) (Or.inl ⟨by rfl, ?_⟩) ?_ ?_
                      rotate_left
                      · intro w'
                        go_simp
                        with_reducible rfl
                      rotate_left
                      · simp only [Act.put, List.setIfInBounds_toArray, List.set_cons_zero, List.set_cons_succ, i64_w, i32_w]
                        rfl
                      refine done_ (done_of HT_.out (by kernel_rfl)) ?_
                      have hcz37_0 : w36.cell? ⟨gb224, 0, none⟩ = some (.string ((rd_T36 x17_1 x19_1).f0)) := (blk_cell BK224.out 0).trans rfl
                      have hcz37_1 : w36.cell? ⟨gb224, 1, none⟩ = some (.string ((rd_T36 x17_1 x19_1).f1)) := (blk_cell BK224.out 1).trans rfl
                      have hcz37_2 : w36.cell? ⟨gb224, 2, none⟩ = some (.int .i64 ((rd_T36 x17_1 x19_1).f2)) := (blk_cell BK224.out 2).trans rfl
                      have hfz37_0 := blk_frozen BK224.out 0
                      have hfz37_1 := blk_frozen BK224.out 1
                      have hfz37_2 := blk_frozen BK224.out 2
                      try go_wp2
                      have n0_ := HO_17
                      have n1_ := Aside0.mk (Kd.R_drew HO_223000.out)
                      have n2_ := Aside0.mk (blk_drew BK216.out)
                      have n3_ := Aside0.mk (blk_drew BK217.out)
                      have n4_ := Aside0.mk (blk_drew BK222.out)
                      have n5_ := Aside0.mk (blk_drew BK224.out)
                      have n6_ := Aside0.mk (below_drew1 HB.out)
                      clear HO_17
                      clear HO_223000
                      clear BK216
                      clear BK217
                      clear BK222
                      clear BK224
                      clear HB
                      have HO_17 := n0_
                      have HO_223000 := n1_
                      have BK216 := n2_
                      have BK217 := n3_
                      have BK222 := n4_
                      have BK224 := n5_
                      have HB := n6_
                      clear n0_ n1_ n2_ n3_ n4_ n5_ n6_
                      have p28 : 0 ≤ (x19_1 : Int) := of_decide_eq_true (by first | (with_reducible assumption) | assumption)
                      have q28 : (x19_1 : Int) < ((x223000_1.length : Int) : Int) := of_decide_eq_true (by first | (with_reducible assumption) | assumption)
                      obtain ⟨go28, co28, eo28, gb28, gl28, cl28, HG28⟩ := Kd.R_form HO_223000.out (by omega)
                      (first | cases eo28 | (injection eo28 with ea_ en_ ec_; (first | subst ea_ | (injection ea_ with ea_; subst ea_)); subst ec_; clear en_))
                      have GB28 := Aside0.mk gb28
                      have GG28 := Aside0.mk HG28
                      clear gb28 gl28 HG28
                      obtain ⟨ce28, hcl28, hM28, hcc28, hfr28⟩ := Kd.R_elem HO_223000.out z36 (x19_1 : Int) p28 q28
                      obtain rfl := k36_openM hM28
                      have hx28_0 : World.cell? _ ⟨go28, (x19_1 : Int).toNat * 3, none⟩ = some (.string ((rd_T36 x223000_1 x19_1).f0)) := hcc28 0 _ rfl
                      have hx28_1 : World.cell? _ ⟨go28, (x19_1 : Int).toNat * 3 + 1, none⟩ = some (.string ((rd_T36 x223000_1 x19_1).f1)) := hcc28 1 _ rfl
                      have hx28_2 : World.cell? _ ⟨go28, (x19_1 : Int).toNat * 3 + 2, none⟩ = some (.int .i64 ((rd_T36 x223000_1 x19_1).f2)) := hcc28 2 _ rfl
                      have hf28_0 : World.frozen? _ ⟨go28, (x19_1 : Int).toNat * 3, none⟩ = false := hfr28 0
                      have hf28_1 : World.frozen? _ ⟨go28, (x19_1 : Int).toNat * 3 + 1, none⟩ = false := hfr28 1
                      have hf28_2 : World.frozen? _ ⟨go28, (x19_1 : Int).toNat * 3 + 2, none⟩ = false := hfr28 2
                      clear hcl28 hcc28 hfr28 hM28
                      replace p28 := eq_true p28
                      replace q28 := eq_true q28
                      obtain ⟨ce39, hcl39, hM39, hcc39, hfr39⟩ := Kd.R_elem HO_223000.out z36 (x19_1 : Int) (of_decide_eq_true (by first | (with_reducible assumption) | assumption)) (by have h_ : (x19_1 : Int) < ((x223000_1.length : Int) : Int) := of_decide_eq_true (by first | (with_reducible assumption) | assumption); first | exact h_ | (have e_ := (Kd.R_reads' HO_223000.out).1; omega) | simpa using h_)
                      obtain rfl := k36_openM hM39
                      have HP39 := (Kd.R_seg HO_223000.out (x19_1 : Int) (of_decide_eq_true (by first | (with_reducible assumption) | assumption)) (by have h_ : (x19_1 : Int) < ((x223000_1.length : Int) : Int) := of_decide_eq_true (by first | (with_reducible assumption) | assumption); first | exact h_ | (have e_ := (Kd.R_reads' HO_223000.out).1; omega) | simpa using h_) (seg := [.string (((rd_T36 x17_1 x19_1).f1).extract 0 ((ji24) : Int).toNat)]) (j := 1) hcl39 hcc39 (show 2 ≤ 3 from by decide) (x' := (⟨(rd_T36 x223000_1 x19_1).f0, ((rd_T36 x17_1 x19_1).f1).extract 0 ((ji24) : Int).toNat, (rd_T36 x223000_1 x19_1).f2⟩ : S36)) (k36_mkM _ _ _ (⟨(rd_T36 x223000_1 x19_1).f0, ((rd_T36 x17_1 x19_1).f1).extract 0 ((ji24) : Int).toNat, (rd_T36 x223000_1 x19_1).f2⟩ : S36) ) (fun _ hk => hk)).1
                      rw [← Ny226.out] at HP39
                      have HQ39 := Aside0.mk HP39
                      clear hcl39 hcc39 hfr39 hM39 HP39
                      refine start_ (n := 10) (S := fun w' => w'.cell? ⟨gb222, 0, none⟩ = some (.slice (some ⟨go28, 0, none⟩) x223000_1.length co28) ∧ w'.cell? ⟨gb224, 0, none⟩ = some (.string ((rd_T36 x17_1 x19_1).f0)) ∧ w'.cell? ⟨gb224, 1, none⟩ = some (.string ((rd_T36 x17_1 x19_1).f1)) ∧ w'.cell? ⟨gb224, 2, none⟩ = some (.int .i64 ((rd_T36 x17_1 x19_1).f2))) (ds := [9]) #[false, false, false, false, false, false, false, false, false, false] (by kernel_rfl) rfl rfl ⟨(blk_cell BK222.out 0).trans rfl, (blk_cell BK224.out 0).trans rfl, (blk_cell BK224.out 1).trans rfl, (blk_cell BK224.out 2).trans rfl⟩ (fun hHeld => ?_); refine with_tabW impl_LoseDisk.tab11 impl_LoseDisk.bits11 (fun HT_ HW_ => ?_)
                      generalize w36.drew = w38 at HO_223000 BK216 BK217 BK222 BK224 HB GG28 HQ39 hf28_0 hf28_1 hf28_2 hx28_0 hx28_1 hx28_2 hHeld ⊢
                      refine pure_ (i := 0) (N := some 41) (v := ?_) (a' := ?_) #[true, false, false, false, false, false, false, false, false, false] rfl rfl (any_of HT_.out (by kernel_rfl)) (fun _ _ _ h => h) (Or.inl ⟨by rfl, ?_⟩) ?_ ?_
                      rotate_left
                      · intro w'
                        go_simp
                        with_reducible rfl
                      rotate_left
                      · simp only [Act.put, List.setIfInBounds_toArray, List.set_cons_zero, List.set_cons_succ, i64_w, i32_w]
                        rfl
                      refine pure_ (i := 2) (N := some 43) (v := ?_) (a' := ?_) #[true, false, true, false, false, false, false, false, false, false] rfl rfl (any_of HT_.out (by kernel_rfl)) (fun _ _ _ h => h) (Or.inl ⟨by rfl, ?_⟩) ?_ ?_
                      rotate_left
                      · intro w'
                        go_simp
                        with_reducible rfl
                      rotate_left
                      · simp only [Act.put, List.setIfInBounds_toArray, List.set_cons_zero, List.set_cons_succ, i64_w, i32_w]
                        rfl
                      refine pure_ (i := 3) (N := some 44) (v := ?_) (a' := ?_) #[true, false, true, true, false, false, false, false, false, false] rfl rfl (any_of HT_.out (by kernel_rfl)) (fun _ _ _ h => h) (Or.inl ⟨by rfl, ?_⟩) ?_ ?_
                      rotate_left
                      · intro w'
                        go_simp
                        with_reducible rfl
                      rotate_left
                      · simp only [Act.put, List.setIfInBounds_toArray, List.set_cons_zero, List.set_cons_succ, i64_w, i32_w]
                        rfl
                      refine pure_ (i := 5) (N := some 46) (v := ?_) (a' := ?_) #[true, false, true, true, false, true, false, false, false, false] rfl rfl (any_of HT_.out (by kernel_rfl)) (fun _ _ _ h => h) (Or.inl ⟨by rfl, ?_⟩) ?_ ?_
                      rotate_left
                      · intro w'
                        go_simp
                        with_reducible rfl
                      rotate_left
                      · simp only [Act.put, List.setIfInBounds_toArray, List.set_cons_zero, List.set_cons_succ, i64_w, i32_w]
                        rfl
                      refine take_ (i := 1) (N := some 42) (v := ?_) (a' := ?_) #[true, true, true, true, false, true, false, false, false, false] rfl rfl (take_ofW HT_.out HW_.out (by kernel_rfl)) (fun _ _ _ h => h) (Or.inl ⟨by rfl, ?_⟩) hHeld ?_ ?_
                      rotate_left
                      · rintro w' ⟨s0, s1, s2, s3⟩
                        go_simp
                        with_reducible rfl
                      rotate_left
                      · simp only [Act.put, List.setIfInBounds_toArray, List.set_cons_zero, List.set_cons_succ, i64_w, i32_w]
                        rfl
                      refine take_ (i := 4) (N := some 45) (v := ?_) (a' := ?_) #[true, true, true, true, true, true, false, false, false, false] rfl rfl (take_ofW HT_.out HW_.out (by kernel_rfl)) (fun _ _ _ h => h) (Or.inl ⟨by rfl, ?_⟩) hHeld ?_ ?_
                      rotate_left
                      · rintro w' ⟨s0, s1, s2, s3⟩
                        go_simp
                        with_reducible rfl
                      rotate_left
                      · simp only [Act.put, List.setIfInBounds_toArray, List.set_cons_zero, List.set_cons_succ, i64_w, i32_w]
                        rfl
                      refine pure_ (i := 6) (N := some 47) (v := ?_) (a' := ?_) #[true, true, true, true, true, true, true, false, false, false] rfl rfl (any_of HT_.out (by kernel_rfl)) (fun _ _ _ h => h) (Or.inl ⟨by rfl, ?_⟩) ?_ ?_
                      rotate_left
                      · intro w'
                        go_simp
                        with_reducible rfl
                      rotate_left
                      · simp only [Act.put, List.setIfInBounds_toArray, List.set_cons_zero, List.set_cons_succ, i64_w, i32_w]
                        rfl
                      refine pure_ (i := 7) (N := some 48) (v := ?_) (a' := ?_) #[true, true, true, true, true, true, true, true, false, false] rfl rfl (any_of HT_.out (by kernel_rfl)) (fun _ _ _ h => h) (Or.inl ⟨by rfl, ?_⟩) ?_ ?_
                      rotate_left
                      · intro w'
                        go_simp
                        with_reducible rfl
                      rotate_left
                      · simp only [Act.put, List.setIfInBounds_toArray, List.set_cons_zero, List.set_cons_succ, i64_w, i32_w]
                        rfl
                      refine pure_ (i := 8) (N := some 49) (v := ?_) (a' := ?_) #[true, true, true, true, true, true, true, true, true, false] rfl rfl (any_of HT_.out (by kernel_rfl)) (fun _ _ _ h => h) (Or.inl ⟨by rfl, ?_⟩) ?_ ?_
                      rotate_left
                      · intro w'
                        go_simp
                        with_reducible rfl
                      rotate_left
                      · simp only [Act.put, List.setIfInBounds_toArray, List.set_cons_zero, List.set_cons_succ, i64_w, i32_w]
                        rfl
                      refine last_ (i := 9) (N := none) #[true, true, true, true, true, true, true, true, true, true] rfl rfl (one_of HT_.out (by kernel_rfl)) (by decide) (fun K hK => ?_)
                      refine skip_ (w1 := ?_) (by rfl) rfl ?_ ?_
                      rotate_left
                      · go_simp
                        rfl
                      refine hK.out _ _ ?_
                      clear hK K
                      refine done_ (done_of HT_.out (by kernel_rfl)) ?_
                      have n0_ := HO_17
                      have n1_ : Aside0 (Kd.R k36 36 (w38.setCell ⟨go28, (x19_1 : Int).toNat * 3 + 1, none⟩ (.string (((rd_T36 x17_1 x19_1).f1).extract 0 ((ji24) : Int).toNat))) w.heap.size (fun k_ => k_ ≠ gb224) (.slice (some ⟨go28, 0, none⟩) x223000_1.length co28) y226) := ⟨by (with_reducible repeat (first | apply Kd.R_alloc | apply Kd.R_drewN | apply Kd.R_drew)); exact HQ39.out⟩
                      have n2_ : Aside0 ((w38.setCell ⟨go28, (x19_1 : Int).toNat * 3 + 1, none⟩ (.string (((rd_T36 x17_1 x19_1).f1).extract 0 ((ji24) : Int).toNat))).heap[gb216]? = some (.cells #[.slice A0_0 l0_0.length c0_0] 26 (0, 0))) := ⟨by (with_reducible repeat (first | refine blk_drewN ?_ _ | refine blk_drew ?_ | refine blk_alloc ?_ _)); refine blk_far ?_ (by have h_ := Kd.R_ne HO_223000.out BK216.out (by decide); intro e_; exact h_ (by rw [e_]; rfl)) _; (with_reducible repeat (first | refine blk_drewN ?_ _ | refine blk_drew ?_ | refine blk_alloc ?_ _)); exact BK216.out⟩
                      have n3_ : Aside0 ((w38.setCell ⟨go28, (x19_1 : Int).toNat * 3 + 1, none⟩ (.string (((rd_T36 x17_1 x19_1).f1).extract 0 ((ji24) : Int).toNat))).heap[gb217]? = some (.cells #[.slice none 0 0] 26 (0, 0))) := ⟨by (with_reducible repeat (first | refine blk_drewN ?_ _ | refine blk_drew ?_ | refine blk_alloc ?_ _)); refine blk_far ?_ (by have h_ := Kd.R_ne HO_223000.out BK217.out (by decide); intro e_; exact h_ (by rw [e_]; rfl)) _; (with_reducible repeat (first | refine blk_drewN ?_ _ | refine blk_drew ?_ | refine blk_alloc ?_ _)); exact BK217.out⟩
                      have n4_ : Aside0 ((w38.setCell ⟨go28, (x19_1 : Int).toNat * 3 + 1, none⟩ (.string (((rd_T36 x17_1 x19_1).f1).extract 0 ((ji24) : Int).toNat))).heap[gb222]? = some (.cells #[.slice (some ⟨go28, 0, none⟩) x223000_1.length co28] 26 (0, 0))) := ⟨by (with_reducible repeat (first | refine blk_drewN ?_ _ | refine blk_drew ?_ | refine blk_alloc ?_ _)); refine blk_far ?_ (by have h_ := Kd.R_ne HO_223000.out BK222.out (by decide); intro e_; exact h_ (by rw [e_]; rfl)) _; (with_reducible repeat (first | refine blk_drewN ?_ _ | refine blk_drew ?_ | refine blk_alloc ?_ _)); exact BK222.out⟩
                      have n5_ : Aside0 ((w38.setCell ⟨go28, (x19_1 : Int).toNat * 3 + 1, none⟩ (.string (((rd_T36 x17_1 x19_1).f1).extract 0 ((ji24) : Int).toNat))).heap[gb224]? = some (.cells #[.string ((rd_T36 x17_1 x19_1).f0), .string ((rd_T36 x17_1 x19_1).f1), .int .i64 ((rd_T36 x17_1 x19_1).f2)] 36 (0, 0))) := ⟨by (with_reducible repeat (first | refine blk_drewN ?_ _ | refine blk_drew ?_ | refine blk_alloc ?_ _)); refine blk_far ?_ (by have h_ := Kd.R_away HO_223000.out (fun _ hk => hk); intro e_; exact h_ (by rw [e_]; rfl)) _; (with_reducible repeat (first | refine blk_drewN ?_ _ | refine blk_drew ?_ | refine blk_alloc ?_ _)); exact BK224.out⟩
                      have n6_ : Aside0 (Below w.heap.size w (w38.setCell ⟨go28, (x19_1 : Int).toNat * 3 + 1, none⟩ (.string (((rd_T36 x17_1 x19_1).f1).extract 0 ((ji24) : Int).toNat)))) := ⟨by repeat (first | (with_reducible first | exact HB.out | apply below_alloc | apply pw_below_drewN | apply below_drew1 | refine below_set ?_ GB28.out | refine below_set ?_ GE216.out | refine below_set ?_ GE217.out | refine below_set ?_ GE222.out | refine below_set ?_ GE224.out) | exact HB.out)⟩
                      (try clear HO_17)
                      (try clear HO_223000)
                      (try clear BK216)
                      (try clear BK217)
                      (try clear BK222)
                      (try clear BK224)
                      (try clear HB)
                      generalize (w38.setCell ⟨go28, (x19_1 : Int).toNat * 3 + 1, none⟩ (.string (((rd_T36 x17_1 x19_1).f1).extract 0 ((ji24) : Int).toNat))) = w40 at n1_ n2_ n3_ n4_ n5_ n6_ ⊢
                      have HO_17 := n0_
                      have HO_223000 := n1_
                      have BK216 := n2_
                      have BK217 := n3_
                      have BK222 := n4_
                      have BK224 := n5_
                      have HB := n6_
                      clear n0_ n1_ n2_ n3_ n4_ n5_ n6_
                      have hnb41 := NB222_216.out
                      have hnc41 := NB216_222.out
                      have hnb42 := NB222_217.out
                      have hnc42 := NB217_222.out
                      have hcz43_0 : w40.cell? ⟨gb222, 0, none⟩ = some (.slice (some ⟨go28, 0, none⟩) x223000_1.length co28) := (blk_cell BK222.out 0).trans rfl
                      have hfz43_0 := blk_frozen BK222.out 0
                      have p29 : 0 ≤ (x19_1 : Int) := of_decide_eq_true (by first | (with_reducible assumption) | assumption)
                      have q29 : (x19_1 : Int) < ((x223000_1.length : Int) : Int) := of_decide_eq_true (by first | (with_reducible assumption) | assumption)
                      replace p29 := eq_true p29
                      replace q29 := eq_true q29
                      have HX44 := Aside0.mk (show Kd.R k36 36 w40 w.heap.size (fun k_ => k_ ≠ gb224) (.slice (some ⟨go28, 0, none⟩) x223000_1.length co28) y226 from (by (with_reducible repeat (first | apply Kd.R_alloc | apply Kd.R_drewN | apply Kd.R_drew)); exact HO_223000.out))
                      obtain ⟨ce44, hcl44, hM44, hcc44, hfr44⟩ := Kd.R_elem HX44.out z36 (x19_1 : Int) (of_decide_eq_true (by first | (with_reducible assumption) | assumption)) (by have h_ : (x19_1 : Int) < ((x223000_1.length : Int) : Int) := of_decide_eq_true (by first | (with_reducible assumption) | assumption); first | exact h_ | (have e_ := (Kd.R_reads' HO_223000.out).1; omega) | simpa using h_)
                      obtain rfl := k36_openM hM44
                      have HP44 := Kd.R_seg HX44.out (x19_1 : Int) (of_decide_eq_true (by first | (with_reducible assumption) | assumption)) (by have h_ : (x19_1 : Int) < ((x223000_1.length : Int) : Int) := of_decide_eq_true (by first | (with_reducible assumption) | assumption); first | exact h_ | (have e_ := (Kd.R_reads' HO_223000.out).1; omega) | simpa using h_) (seg := [.int .i64 ji24]) (j := 2) hcl44 hcc44 (show 3 ≤ 3 from by decide) (x' := (⟨(rd_T36 y226 x19_1).f0, (rd_T36 y226 x19_1).f1, ji24⟩ : S36)) (k36_mkM _ _ _ (⟨(rd_T36 y226 x19_1).f0, (rd_T36 y226 x19_1).f1, ji24⟩ : S36) ) (fun _ hk => hk)
                      have hx44_2 := hcc44 2 _ rfl
                      (try simp only [show (k36).sz = 3 from rfl, Nat.mul_one, Nat.add_zero] at hx44_2)
                      have hf44_2 := hfr44 2
                      (try simp only [show (k36).sz = 3 from rfl, Nat.mul_one, Nat.add_zero] at hf44_2)
                      clear hcl44 hcc44 hfr44 hM44
                      try go_wp2_with (first | ((with_reducible refine gate_store (t := 3) (p := 55) rfl ?_); refine store_event (t := 3) (p := 55) (v := ?vo_w45) (w1 := (w40.setCell ⟨go28, (x19_1 : Int).toNat * 3 + 2, none⟩ (.int .i64 ji24))) ?hg ?ho ?hn ?hr ?_; (case ho => rfl); (case hg => rfl); (case hn => rfl); (case hr => first | (go_simp; done) | (go_simp; rfl)); intro w45 hw; have hg : w40.grownBy w45 (some go28) := (by rw [hw]; exact HP44.2); have hp_ : Kd.R k36 36 w45 w.heap.size (fun k_ => k_ ≠ gb224) (.slice (some ⟨go28, 0, none⟩) x223000_1.length co28) y227 := (by rw [hw, Ny227.out]; exact HP44.1); clear HP44; have n0_ := HO_17; have n1_ := Aside0.mk (hp_); have n2_ := Aside0.mk (blk_grown (g := gb216) (o := .cells #[.slice A0_0 l0_0.length c0_0] 26 (0, 0)) (by (with_reducible repeat (first | refine blk_drewN ?_ _ | refine blk_drew ?_ | refine blk_alloc ?_ _)); exact BK216.out) hg (Kd.R_ne HO_223000.out BK216.out (by decide))); have n3_ := Aside0.mk (blk_grown (g := gb217) (o := .cells #[.slice none 0 0] 26 (0, 0)) (by (with_reducible repeat (first | refine blk_drewN ?_ _ | refine blk_drew ?_ | refine blk_alloc ?_ _)); exact BK217.out) hg (Kd.R_ne HO_223000.out BK217.out (by decide))); have n4_ := Aside0.mk (blk_grown (g := gb222) (o := .cells #[.slice (some ⟨go28, 0, none⟩) x223000_1.length co28] 26 (0, 0)) (by (with_reducible repeat (first | refine blk_drewN ?_ _ | refine blk_drew ?_ | refine blk_alloc ?_ _)); exact BK222.out) hg (Kd.R_ne HO_223000.out BK222.out (by decide))); have n5_ := Aside0.mk (blk_grown (g := gb224) (o := .cells #[.string ((rd_T36 x17_1 x19_1).f0), .string ((rd_T36 x17_1 x19_1).f1), .int .i64 ((rd_T36 x17_1 x19_1).f2)] 36 (0, 0)) (by (with_reducible repeat (first | refine blk_drewN ?_ _ | refine blk_drew ?_ | refine blk_alloc ?_ _)); exact BK224.out) hg (Kd.R_away HO_223000.out (fun _ hk => hk))); have n6_ := Aside0.mk ((by rw [hw]; exact below_set (HB.out) GB28.out : Below w.heap.size w w45)); clear HO_17; clear HO_223000; clear BK216; clear BK217; clear BK222; clear BK224; clear HB; have HO_17 := n0_; have HO_223000 := n1_; have BK216 := n2_; have BK217 := n3_; have BK222 := n4_; have BK224 := n5_; have HB := n6_; clear n0_ n1_ n2_ n3_ n4_ n5_ n6_; clear hg hw hp_))
                      (try simp only [← hl17_1])
                      go_roundg k1
                      case measure => have := HK1.out; omega
                      case rel => exact ⟨(x17_1), (wrap64 (x19_1 + 1)), (y227), (.slice (some ⟨go28, 0, none⟩) x223000_1.length co28), (by first | rfl | (simp; done) | (simp [*]; done)), H', ⟨by have := HK1.out; omega⟩, ⟨⟨by first | rfl | assumption, (by (try simp only [hl17_1]); exact LoseInv.step HO_17.out.2 (of_decide_eq_true (by first | (with_reducible assumption) | assumption)) hN_ (of_decide_eq_true (by first | (with_reducible assumption) | assumption)) Ny226.out Ny227.out)⟩⟩, ⟨by (try simp only [hl17_1]); (with_reducible repeat (first | apply Kd.R_alloc | apply Kd.R_drewN | apply Kd.R_drew)); exact Kd.R_mono HO_223000.out (fun _ hk => trivial)⟩, ⟨by (try simp only [hl17_1]); (with_reducible repeat (first | refine blk_drewN ?_ _ | refine blk_drew ?_ | refine blk_alloc ?_ _)); exact BK216.out⟩, ⟨by (try simp only [hl17_1]); (with_reducible repeat (first | refine blk_drewN ?_ _ | refine blk_drew ?_ | refine blk_alloc ?_ _)); exact BK217.out⟩, ⟨by (try simp only [hl17_1]); (with_reducible repeat (first | refine blk_drewN ?_ _ | refine blk_drew ?_ | refine blk_alloc ?_ _)); exact BK222.out⟩, ⟨by repeat (first | (with_reducible first | exact HB.out | apply below_alloc | apply pw_below_drewN | apply below_drew1 | refine below_set ?_ GE216.out | refine below_set ?_ GE217.out | refine below_set ?_ GE222.out | refine below_set ?_ GE224.out) | exact HB.out)⟩⟩
                    · rw [if_neg c27] at H
                      exact absurd H (by simp)
                  · rw [if_neg c26] at H
                    exact absurd H (by simp)
                · rw [if_neg c25] at H
                  exact absurd H (by simp)
              · rw [if_neg c21] at H
                have c21b0 : decide (x19_1 < (l1.length : Int)) = false := decide_eq_false c21
                clear c21
                obtain ⟨ji46, hji46⟩ : ∃ j_ : Int, (mx 0 ((rd_T36 x17_1 x19_1).f2)) = j_ := ⟨_, rfl⟩
                replace H : (if 0 ≤ (ji46) then (if (ji46) ≤ (((rd_T36 x17_1 x19_1).f1).size : Int) then (if x19_1 < (x223000_1.length : Int) then ((some (x223000_1.set (x19_1 : Int).toNat (⟨(rd_T36 x223000_1 x19_1).f0, ((rd_T36 x17_1 x19_1).f1).extract 0 ((ji46) : Int).toNat, (rd_T36 x223000_1 x19_1).f2⟩ : S36) : List (S36))).bind fun y228 => (impl_LoseDisk.l0 k1 l1 x17_1 (t219.length : Int) (wrap64 (x19_1 + 1)) (y228.set (x19_1 : Int).toNat (⟨(rd_T36 y228 x19_1).f0, (rd_T36 y228 x19_1).f1, ji46⟩ : S36)))) else (none)) else (none)) else (none)) = some (r1, r2) := by first | (rw [hji46] at H; exact H) | (simp only [hji46] at H ⊢; exact H)
                have hji46_ : (if 0 < ((rd_T36 x17_1 x19_1).f2) then ((rd_T36 x17_1 x19_1).f2) else 0) = ji46 := hji46
                by_cases c47 : 0 ≤ (ji46)
                · rw [if_pos c47] at H
                  have c47b0 := eq_true c47
                  have c47b1 : decide (0 ≤ (ji46)) = true := decide_eq_true c47
                  clear c47
                  by_cases c48 : (ji46) ≤ (((rd_T36 x17_1 x19_1).f1).size : Int)
                  · rw [if_pos c48] at H
                    have c48b0 := eq_true c48
                    have c48b1 : decide ((ji46) ≤ (((rd_T36 x17_1 x19_1).f1).size : Int)) = true := decide_eq_true c48
                    clear c48
                    by_cases c49 : x19_1 < (x223000_1.length : Int)
                    · rw [if_pos c49] at H
                      have c49b0 : decide (x19_1 < (x223000_1.length : Int)) = true := decide_eq_true c49
                      clear c49
                      obtain ⟨y228, hy228⟩ : ∃ y_ : List (S36), y_ = (x223000_1.set (x19_1 : Int).toNat (⟨(rd_T36 x223000_1 x19_1).f0, ((rd_T36 x17_1 x19_1).f1).extract 0 ((ji46) : Int).toNat, (rd_T36 x223000_1 x19_1).f2⟩ : S36)) := ⟨_, rfl⟩
                      replace H : (impl_LoseDisk.l0 k1 l1 x17_1 (t219.length : Int) (wrap64 (x19_1 + 1)) (y228.set (x19_1 : Int).toNat (⟨(rd_T36 y228 x19_1).f0, (rd_T36 y228 x19_1).f1, ji46⟩ : S36))) = some (r1, r2) := by first | (rw [hy228]; with_reducible exact H) | (have H2_ := (Option.bind_some _ _).symm.trans H; rw [hy228]; with_reducible exact H2_) | (have H2_ := (Option.bind_some _ _).symm.trans H; with_reducible exact H2_) | with_reducible exact H | (rw [hy228]; exact H) | exact H
                      have Ny228 := Aside0.mk hy228
                      clear hy228
                      obtain ⟨y229, hy229⟩ : ∃ y_ : List (S36), y_ = (y228.set (x19_1 : Int).toNat (⟨(rd_T36 y228 x19_1).f0, (rd_T36 y228 x19_1).f1, ji46⟩ : S36)) := ⟨_, rfl⟩
                      replace H : (impl_LoseDisk.l0 k1 l1 x17_1 (t219.length : Int) (wrap64 (x19_1 + 1)) y229) = some (r1, r2) := by first | (rw [hy229]; with_reducible exact H) | (have H2_ := (Option.bind_some _ _).symm.trans H; rw [hy229]; with_reducible exact H2_) | (have H2_ := (Option.bind_some _ _).symm.trans H; with_reducible exact H2_) | with_reducible exact H | (rw [hy229]; exact H) | exact H
                      have Ny229 := Aside0.mk hy229
                      clear hy229
                      have H' := Aside0.mk H
                      clear H
                      have p223 : 0 ≤ (x19_1 : Int) := of_decide_eq_true (by first | (with_reducible assumption) | assumption)
                      have q223 : x19_1 < (x17_1.length : Int) := of_decide_eq_true (by first | (with_reducible assumption) | assumption)
                      have hP_ := HO_17.out.2
                      have hR_ := HO_223000.out
                      rw [hP_.1] at hR_
                      have hL_ := at_T36 (Kd.R_reads' hR_).2.2 x19_1 p223 (by have := hP_.2.1; have := (Kd.R_reads' hR_).1; omega)
                      rw [← hP_.2.2 x19_1 (Int.le_refl _)] at hL_
                      have hN_ : (x17_1.length : Int) ≤ 9223372036854775807 := by have := (Kd.R_reads' hR_).2.2.2.1; have := hP_.2.1; omega
                      clear hP_ hR_
                      obtain ⟨ad223, e223, hx223_0, hx223_1, hx223_2⟩ := hL_
                      cases e223
                      replace p223 := eq_true p223
                      replace q223 := eq_true q223
                      try go_wp2_with (first | ((with_reducible refine gate_dst (N := 8) rfl ?_); refine box_event ?hg (N := 8) ?hd (cs := #[.string (⟨#[]⟩ : ByteArray), .string (⟨#[]⟩ : ByteArray), .int .i64 0]) (t := 36) ?hr ?_; (case hd => rfl); (case hg => rfl); (case hr => first | (go_simp; done) | (go_simp; rfl)); intro gb224 hg w52 hbox hb; have n0_ := HO_17; have n1_ := Aside0.mk (Kd.R_below (Kd.R_elderB (by (with_reducible repeat (first | apply Kd.R_alloc | apply Kd.R_drewN | apply Kd.R_drew)); exact HO_223000.out) gb224 (Nat.le_of_eq hg.symm)) hb); have n2_ := Aside0.mk (blk_below (g := gb216) (o := .cells #[.slice A0_0 l0_0.length c0_0] 26 (0, 0)) (by (with_reducible repeat (first | refine blk_drewN ?_ _ | refine blk_drew ?_ | refine blk_alloc ?_ _)); exact BK216.out) hb); have n3_ := Aside0.mk (blk_below (g := gb217) (o := .cells #[.slice none 0 0] 26 (0, 0)) (by (with_reducible repeat (first | refine blk_drewN ?_ _ | refine blk_drew ?_ | refine blk_alloc ?_ _)); exact BK217.out) hb); have n4_ := Aside0.mk (blk_below (g := gb222) (o := .cells #[u223000] 26 (0, 0)) (by (with_reducible repeat (first | refine blk_drewN ?_ _ | refine blk_drew ?_ | refine blk_alloc ?_ _)); exact BK222.out) hb); have n5_ := Aside0.mk (below_step (by repeat (first | (with_reducible first | exact HB.out | apply below_alloc | apply pw_below_drewN | apply below_drew1 | refine below_set ?_ GE216.out | refine below_set ?_ GE217.out | refine below_set ?_ GE222.out) | exact HB.out)) hb); have n6_ := Aside0.mk (hbox); have n7_ := Aside0.mk ((by rw [hg]; exact (below_size (by repeat (first | (with_reducible first | exact HB.out | apply below_alloc | apply pw_below_drewN | apply below_drew1 | refine below_set ?_ GE216.out | refine below_set ?_ GE217.out | refine below_set ?_ GE222.out) | exact HB.out))) : w.heap.size ≤ gb224)); have n8_ := Aside0.mk ((by rw [hg]; exact (below_size (by repeat (first | (with_reducible first | exact HB.out | apply below_alloc | apply pw_below_drewN | apply below_drew1 | refine below_set ?_ GE216.out | refine below_set ?_ GE217.out | refine below_set ?_ GE222.out) | exact HB.out))) : w.heap.size ≤ gb224)); have n9_ := Aside0.mk ((by rw [hg]; exact Nat.ne_of_lt (blk_lt (g := gb216) (o := .cells #[.slice A0_0 l0_0.length c0_0] 26 (0, 0)) (by (with_reducible repeat (first | refine blk_drewN ?_ _ | refine blk_drew ?_ | refine blk_alloc ?_ _)); exact BK216.out)) : gb216 ≠ gb224)); have n10_ := Aside0.mk ((by rw [hg]; exact Nat.ne_of_gt (blk_lt (g := gb216) (o := .cells #[.slice A0_0 l0_0.length c0_0] 26 (0, 0)) (by (with_reducible repeat (first | refine blk_drewN ?_ _ | refine blk_drew ?_ | refine blk_alloc ?_ _)); exact BK216.out)) : gb224 ≠ gb216)); have n11_ := Aside0.mk ((by rw [hg]; exact Nat.ne_of_lt (blk_lt (g := gb217) (o := .cells #[.slice none 0 0] 26 (0, 0)) (by (with_reducible repeat (first | refine blk_drewN ?_ _ | refine blk_drew ?_ | refine blk_alloc ?_ _)); exact BK217.out)) : gb217 ≠ gb224)); have n12_ := Aside0.mk ((by rw [hg]; exact Nat.ne_of_gt (blk_lt (g := gb217) (o := .cells #[.slice none 0 0] 26 (0, 0)) (by (with_reducible repeat (first | refine blk_drewN ?_ _ | refine blk_drew ?_ | refine blk_alloc ?_ _)); exact BK217.out)) : gb224 ≠ gb217)); have n13_ := Aside0.mk ((by rw [hg]; exact Nat.ne_of_lt (blk_lt (g := gb222) (o := .cells #[u223000] 26 (0, 0)) (by (with_reducible repeat (first | refine blk_drewN ?_ _ | refine blk_drew ?_ | refine blk_alloc ?_ _)); exact BK222.out)) : gb222 ≠ gb224)); have n14_ := Aside0.mk ((by rw [hg]; exact Nat.ne_of_gt (blk_lt (g := gb222) (o := .cells #[u223000] 26 (0, 0)) (by (with_reducible repeat (first | refine blk_drewN ?_ _ | refine blk_drew ?_ | refine blk_alloc ?_ _)); exact BK222.out)) : gb224 ≠ gb222)); clear HO_17; clear HO_223000; clear BK216; clear BK217; clear BK222; clear HB; have HO_17 := n0_; have HO_223000 := n1_; have BK216 := n2_; have BK217 := n3_; have BK222 := n4_; have HB := n5_; have BK224 := n6_; have GW224 := n7_; have GE224 := n8_; have NB216_224 := n9_; have NB224_216 := n10_; have NB217_224 := n11_; have NB224_217 := n12_; have NB222_224 := n13_; have NB224_222 := n14_; clear n0_ n1_ n2_ n3_ n4_ n5_ n6_ n7_ n8_ n9_ n10_ n11_ n12_ n13_ n14_; clear hb hbox hg; have hnb53 := NB224_216.out; have hnc53 := NB216_224.out; have hnb54 := NB224_217.out; have hnc54 := NB217_224.out; have hnb55 := NB224_222.out; have hnc55 := NB222_224.out; have hcz56_0 : w52.cell? ⟨gb224, 0, none⟩ = some (.string (⟨#[]⟩ : ByteArray)) := (blk_cell BK224.out 0).trans rfl; have hcz56_1 : w52.cell? ⟨gb224, 1, none⟩ = some (.string (⟨#[]⟩ : ByteArray)) := (blk_cell BK224.out 1).trans rfl; have hcz56_2 : w52.cell? ⟨gb224, 2, none⟩ = some (.int .i64 0) := (blk_cell BK224.out 2).trans rfl; have hfz56_0 := blk_frozen BK224.out 0; have hfz56_1 := blk_frozen BK224.out 1; have hfz56_2 := blk_frozen BK224.out 2))
                      have n0_ := HO_17
                      have n1_ : Aside0 (Kd.R k36 36 (((w52.setCell ⟨gb224, 0, none⟩ (.string ((rd_T36 x17_1 x19_1).f0))).setCell ⟨gb224, 1, none⟩ (.string ((rd_T36 x17_1 x19_1).f1))).setCell ⟨gb224, 2, none⟩ (.int .i64 ((rd_T36 x17_1 x19_1).f2))) w.heap.size (fun k_ => k_ ≠ gb224) u223000 x223000_1) := ⟨by (with_reducible repeat (first | apply Kd.R_alloc | apply Kd.R_drewN | apply Kd.R_drew)); exact Kd.R_mono (Kd.R_far (p := ⟨gb224, 2, none⟩) (Kd.R_far (p := ⟨gb224, 1, none⟩) (Kd.R_far (p := ⟨gb224, 0, none⟩) (Kd.R_mono HO_223000.out (fun k_ hk => (⟨hk, hk.2⟩ : _ ∧ k_ ≠ gb224))) (fun _ hk => hk.2) (.string ((rd_T36 x17_1 x19_1).f0))) (fun _ hk => hk.2) (.string ((rd_T36 x17_1 x19_1).f1))) (fun _ hk => hk.2) (.int .i64 ((rd_T36 x17_1 x19_1).f2))) (fun _ hk => hk.1.2)⟩
                      have n2_ : Aside0 ((((w52.setCell ⟨gb224, 0, none⟩ (.string ((rd_T36 x17_1 x19_1).f0))).setCell ⟨gb224, 1, none⟩ (.string ((rd_T36 x17_1 x19_1).f1))).setCell ⟨gb224, 2, none⟩ (.int .i64 ((rd_T36 x17_1 x19_1).f2))).heap[gb216]? = some (.cells #[.slice A0_0 l0_0.length c0_0] 26 (0, 0))) := ⟨by (with_reducible repeat (first | refine blk_drewN ?_ _ | refine blk_drew ?_ | refine blk_alloc ?_ _)); refine blk_far ?_ NB216_224.out _; (with_reducible repeat (first | refine blk_drewN ?_ _ | refine blk_drew ?_ | refine blk_alloc ?_ _)); refine blk_far ?_ NB216_224.out _; (with_reducible repeat (first | refine blk_drewN ?_ _ | refine blk_drew ?_ | refine blk_alloc ?_ _)); refine blk_far ?_ NB216_224.out _; (with_reducible repeat (first | refine blk_drewN ?_ _ | refine blk_drew ?_ | refine blk_alloc ?_ _)); exact BK216.out⟩
                      have n3_ : Aside0 ((((w52.setCell ⟨gb224, 0, none⟩ (.string ((rd_T36 x17_1 x19_1).f0))).setCell ⟨gb224, 1, none⟩ (.string ((rd_T36 x17_1 x19_1).f1))).setCell ⟨gb224, 2, none⟩ (.int .i64 ((rd_T36 x17_1 x19_1).f2))).heap[gb217]? = some (.cells #[.slice none 0 0] 26 (0, 0))) := ⟨by (with_reducible repeat (first | refine blk_drewN ?_ _ | refine blk_drew ?_ | refine blk_alloc ?_ _)); refine blk_far ?_ NB217_224.out _; (with_reducible repeat (first | refine blk_drewN ?_ _ | refine blk_drew ?_ | refine blk_alloc ?_ _)); refine blk_far ?_ NB217_224.out _; (with_reducible repeat (first | refine blk_drewN ?_ _ | refine blk_drew ?_ | refine blk_alloc ?_ _)); refine blk_far ?_ NB217_224.out _; (with_reducible repeat (first | refine blk_drewN ?_ _ | refine blk_drew ?_ | refine blk_alloc ?_ _)); exact BK217.out⟩
                      have n4_ : Aside0 ((((w52.setCell ⟨gb224, 0, none⟩ (.string ((rd_T36 x17_1 x19_1).f0))).setCell ⟨gb224, 1, none⟩ (.string ((rd_T36 x17_1 x19_1).f1))).setCell ⟨gb224, 2, none⟩ (.int .i64 ((rd_T36 x17_1 x19_1).f2))).heap[gb222]? = some (.cells #[u223000] 26 (0, 0))) := ⟨by (with_reducible repeat (first | refine blk_drewN ?_ _ | refine blk_drew ?_ | refine blk_alloc ?_ _)); refine blk_far ?_ NB222_224.out _; (with_reducible repeat (first | refine blk_drewN ?_ _ | refine blk_drew ?_ | refine blk_alloc ?_ _)); refine blk_far ?_ NB222_224.out _; (with_reducible repeat (first | refine blk_drewN ?_ _ | refine blk_drew ?_ | refine blk_alloc ?_ _)); refine blk_far ?_ NB222_224.out _; (with_reducible repeat (first | refine blk_drewN ?_ _ | refine blk_drew ?_ | refine blk_alloc ?_ _)); exact BK222.out⟩
                      have n5_ : Aside0 ((((w52.setCell ⟨gb224, 0, none⟩ (.string ((rd_T36 x17_1 x19_1).f0))).setCell ⟨gb224, 1, none⟩ (.string ((rd_T36 x17_1 x19_1).f1))).setCell ⟨gb224, 2, none⟩ (.int .i64 ((rd_T36 x17_1 x19_1).f2))).heap[gb224]? = some (.cells #[.string ((rd_T36 x17_1 x19_1).f0), .string ((rd_T36 x17_1 x19_1).f1), .int .i64 ((rd_T36 x17_1 x19_1).f2)] 36 (0, 0))) := ⟨by (with_reducible repeat (first | refine blk_drewN ?_ _ | refine blk_drew ?_ | refine blk_alloc ?_ _)); refine blk_put (cs := #[.string ((rd_T36 x17_1 x19_1).f0), .string ((rd_T36 x17_1 x19_1).f1), .int .i64 0]) ?_ 2 _ rfl; (with_reducible repeat (first | refine blk_drewN ?_ _ | refine blk_drew ?_ | refine blk_alloc ?_ _)); refine blk_put (cs := #[.string ((rd_T36 x17_1 x19_1).f0), .string (⟨#[]⟩ : ByteArray), .int .i64 0]) ?_ 1 _ rfl; (with_reducible repeat (first | refine blk_drewN ?_ _ | refine blk_drew ?_ | refine blk_alloc ?_ _)); refine blk_put (cs := #[.string (⟨#[]⟩ : ByteArray), .string (⟨#[]⟩ : ByteArray), .int .i64 0]) ?_ 0 _ rfl; (with_reducible repeat (first | refine blk_drewN ?_ _ | refine blk_drew ?_ | refine blk_alloc ?_ _)); exact BK224.out⟩
                      have n6_ : Aside0 (Below w.heap.size w (((w52.setCell ⟨gb224, 0, none⟩ (.string ((rd_T36 x17_1 x19_1).f0))).setCell ⟨gb224, 1, none⟩ (.string ((rd_T36 x17_1 x19_1).f1))).setCell ⟨gb224, 2, none⟩ (.int .i64 ((rd_T36 x17_1 x19_1).f2)))) := ⟨by repeat (first | (with_reducible first | exact HB.out | apply below_alloc | apply pw_below_drewN | apply below_drew1 | refine below_set ?_ GE216.out | refine below_set ?_ GE217.out | refine below_set ?_ GE222.out | refine below_set ?_ GE224.out) | exact HB.out)⟩
                      (try clear HO_17)
                      (try clear HO_223000)
                      (try clear BK216)
                      (try clear BK217)
                      (try clear BK222)
                      (try clear BK224)
                      (try clear HB)
                      generalize (((w52.setCell ⟨gb224, 0, none⟩ (.string ((rd_T36 x17_1 x19_1).f0))).setCell ⟨gb224, 1, none⟩ (.string ((rd_T36 x17_1 x19_1).f1))).setCell ⟨gb224, 2, none⟩ (.int .i64 ((rd_T36 x17_1 x19_1).f2))) = w57 at n1_ n2_ n3_ n4_ n5_ n6_ ⊢
                      have HO_17 := n0_
                      have HO_223000 := n1_
                      have BK216 := n2_
                      have BK217 := n3_
                      have BK222 := n4_
                      have BK224 := n5_
                      have HB := n6_
                      clear n0_ n1_ n2_ n3_ n4_ n5_ n6_
                      have n0_ := HO_17
                      have n1_ := Aside0.mk (Kd.R_drew HO_223000.out)
                      have n2_ := Aside0.mk (blk_drew BK216.out)
                      have n3_ := Aside0.mk (blk_drew BK217.out)
                      have n4_ := Aside0.mk (blk_drew BK222.out)
                      have n5_ := Aside0.mk (blk_drew BK224.out)
                      have n6_ := Aside0.mk (below_drew1 HB.out)
                      clear HO_17
                      clear HO_223000
                      clear BK216
                      clear BK217
                      clear BK222
                      clear BK224
                      clear HB
                      have HO_17 := n0_
                      have HO_223000 := n1_
                      have BK216 := n2_
                      have BK217 := n3_
                      have BK222 := n4_
                      have BK224 := n5_
                      have HB := n6_
                      clear n0_ n1_ n2_ n3_ n4_ n5_ n6_
                      have p50 : 0 ≤ (x19_1 : Int) := of_decide_eq_true (by first | (with_reducible assumption) | assumption)
                      have q50 : (x19_1 : Int) < ((x223000_1.length : Int) : Int) := of_decide_eq_true (by first | (with_reducible assumption) | assumption)
                      obtain ⟨go50, co50, eo50, gb50, gl50, cl50, HG50⟩ := Kd.R_form HO_223000.out (by omega)
                      (first | cases eo50 | (injection eo50 with ea_ en_ ec_; (first | subst ea_ | (injection ea_ with ea_; subst ea_)); subst ec_; clear en_))
                      have GB50 := Aside0.mk gb50
                      have GG50 := Aside0.mk HG50
                      clear gb50 gl50 HG50
                      obtain ⟨ce50, hcl50, hM50, hcc50, hfr50⟩ := Kd.R_elem HO_223000.out z36 (x19_1 : Int) p50 q50
                      obtain rfl := k36_openM hM50
                      have hx50_0 : World.cell? _ ⟨go50, (x19_1 : Int).toNat * 3, none⟩ = some (.string ((rd_T36 x223000_1 x19_1).f0)) := hcc50 0 _ rfl
                      have hx50_1 : World.cell? _ ⟨go50, (x19_1 : Int).toNat * 3 + 1, none⟩ = some (.string ((rd_T36 x223000_1 x19_1).f1)) := hcc50 1 _ rfl
                      have hx50_2 : World.cell? _ ⟨go50, (x19_1 : Int).toNat * 3 + 2, none⟩ = some (.int .i64 ((rd_T36 x223000_1 x19_1).f2)) := hcc50 2 _ rfl
                      have hf50_0 : World.frozen? _ ⟨go50, (x19_1 : Int).toNat * 3, none⟩ = false := hfr50 0
                      have hf50_1 : World.frozen? _ ⟨go50, (x19_1 : Int).toNat * 3 + 1, none⟩ = false := hfr50 1
                      have hf50_2 : World.frozen? _ ⟨go50, (x19_1 : Int).toNat * 3 + 2, none⟩ = false := hfr50 2
                      clear hcl50 hcc50 hfr50 hM50
                      replace p50 := eq_true p50
                      replace q50 := eq_true q50
                      obtain ⟨ce59, hcl59, hM59, hcc59, hfr59⟩ := Kd.R_elem HO_223000.out z36 (x19_1 : Int) (of_decide_eq_true (by first | (with_reducible assumption) | assumption)) (by have h_ : (x19_1 : Int) < ((x223000_1.length : Int) : Int) := of_decide_eq_true (by first | (with_reducible assumption) | assumption); first | exact h_ | (have e_ := (Kd.R_reads' HO_223000.out).1; omega) | simpa using h_)
                      obtain rfl := k36_openM hM59
                      have HP59 := (Kd.R_seg HO_223000.out (x19_1 : Int) (of_decide_eq_true (by first | (with_reducible assumption) | assumption)) (by have h_ : (x19_1 : Int) < ((x223000_1.length : Int) : Int) := of_decide_eq_true (by first | (with_reducible assumption) | assumption); first | exact h_ | (have e_ := (Kd.R_reads' HO_223000.out).1; omega) | simpa using h_) (seg := [.string (((rd_T36 x17_1 x19_1).f1).extract 0 ((ji46) : Int).toNat)]) (j := 1) hcl59 hcc59 (show 2 ≤ 3 from by decide) (x' := (⟨(rd_T36 x223000_1 x19_1).f0, ((rd_T36 x17_1 x19_1).f1).extract 0 ((ji46) : Int).toNat, (rd_T36 x223000_1 x19_1).f2⟩ : S36)) (k36_mkM _ _ _ (⟨(rd_T36 x223000_1 x19_1).f0, ((rd_T36 x17_1 x19_1).f1).extract 0 ((ji46) : Int).toNat, (rd_T36 x223000_1 x19_1).f2⟩ : S36) ) (fun _ hk => hk)).1
                      rw [← Ny228.out] at HP59
                      have HQ59 := Aside0.mk HP59
                      clear hcl59 hcc59 hfr59 hM59 HP59
                      refine start_ (n := 10) (S := fun w' => w'.cell? ⟨gb222, 0, none⟩ = some (.slice (some ⟨go50, 0, none⟩) x223000_1.length co50) ∧ w'.cell? ⟨gb224, 0, none⟩ = some (.string ((rd_T36 x17_1 x19_1).f0)) ∧ w'.cell? ⟨gb224, 1, none⟩ = some (.string ((rd_T36 x17_1 x19_1).f1)) ∧ w'.cell? ⟨gb224, 2, none⟩ = some (.int .i64 ((rd_T36 x17_1 x19_1).f2))) (ds := [9]) #[false, false, false, false, false, false, false, false, false, false] (by kernel_rfl) rfl rfl ⟨(blk_cell BK222.out 0).trans rfl, (blk_cell BK224.out 0).trans rfl, (blk_cell BK224.out 1).trans rfl, (blk_cell BK224.out 2).trans rfl⟩ (fun hHeld => ?_); refine with_tabW impl_LoseDisk.tab11 impl_LoseDisk.bits11 (fun HT_ HW_ => ?_)
                      generalize w57.drew = w58 at HO_223000 BK216 BK217 BK222 BK224 HB GG50 HQ59 hf50_0 hf50_1 hf50_2 hx50_0 hx50_1 hx50_2 hHeld ⊢
                      refine pure_ (i := 0) (N := some 41) (v := ?_) (a' := ?_) #[true, false, false, false, false, false, false, false, false, false] rfl rfl (any_of HT_.out (by kernel_rfl)) (fun _ _ _ h => h) (Or.inl ⟨by rfl, ?_⟩) ?_ ?_
                      rotate_left
                      · intro w'
                        go_simp
                        with_reducible rfl
                      rotate_left
                      · simp only [Act.put, List.setIfInBounds_toArray, List.set_cons_zero, List.set_cons_succ, i64_w, i32_w]
                        rfl
                      refine pure_ (i := 2) (N := some 43) (v := ?_) (a' := ?_) #[true, false, true, false, false, false, false, false, false, false] rfl rfl (any_of HT_.out (by kernel_rfl)) (fun _ _ _ h => h) (Or.inl ⟨by rfl, ?_⟩) ?_ ?_
                      rotate_left
                      · intro w'
                        go_simp
                        with_reducible rfl
                      rotate_left
                      · simp only [Act.put, List.setIfInBounds_toArray, List.set_cons_zero, List.set_cons_succ, i64_w, i32_w]
                        rfl
                      refine pure_ (i := 3) (N := some 44) (v := ?_) (a' := ?_) #[true, false, true, true, false, false, false, false, false, false] rfl rfl (any_of HT_.out (by kernel_rfl)) (fun _ _ _ h => h) (Or.inl ⟨by rfl, ?_⟩) ?_ ?_
                      rotate_left
                      · intro w'
                        go_simp
                        with_reducible rfl
                      rotate_left
                      · simp only [Act.put, List.setIfInBounds_toArray, List.set_cons_zero, List.set_cons_succ, i64_w, i32_w]
                        rfl
                      refine pure_ (i := 5) (N := some 46) (v := ?_) (a' := ?_) #[true, false, true, true, false, true, false, false, false, false] rfl rfl (any_of HT_.out (by kernel_rfl)) (fun _ _ _ h => h) (Or.inl ⟨by rfl, ?_⟩) ?_ ?_
                      rotate_left
                      · intro w'
                        go_simp
                        with_reducible rfl
                      rotate_left
                      · simp only [Act.put, List.setIfInBounds_toArray, List.set_cons_zero, List.set_cons_succ, i64_w, i32_w]
                        rfl
                      refine take_ (i := 1) (N := some 42) (v := ?_) (a' := ?_) #[true, true, true, true, false, true, false, false, false, false] rfl rfl (take_ofW HT_.out HW_.out (by kernel_rfl)) (fun _ _ _ h => h) (Or.inl ⟨by rfl, ?_⟩) hHeld ?_ ?_
                      rotate_left
                      · rintro w' ⟨s0, s1, s2, s3⟩
                        go_simp
                        with_reducible rfl
                      rotate_left
                      · simp only [Act.put, List.setIfInBounds_toArray, List.set_cons_zero, List.set_cons_succ, i64_w, i32_w]
                        rfl
                      refine take_ (i := 4) (N := some 45) (v := ?_) (a' := ?_) #[true, true, true, true, true, true, false, false, false, false] rfl rfl (take_ofW HT_.out HW_.out (by kernel_rfl)) (fun _ _ _ h => h) (Or.inl ⟨by rfl, ?_⟩) hHeld ?_ ?_
                      rotate_left
                      · rintro w' ⟨s0, s1, s2, s3⟩
                        go_simp
                        with_reducible rfl
                      rotate_left
                      · simp only [Act.put, List.setIfInBounds_toArray, List.set_cons_zero, List.set_cons_succ, i64_w, i32_w]
                        rfl
                      refine pure_ (i := 6) (N := some 47) (v := ?_) (a' := ?_) #[true, true, true, true, true, true, true, false, false, false] rfl rfl (any_of HT_.out (by kernel_rfl)) (fun _ _ _ h => h) (Or.inl ⟨by rfl, ?_⟩) ?_ ?_
                      rotate_left
                      · intro w'
                        go_simp
                        with_reducible rfl
                      rotate_left
                      · simp only [Act.put, List.setIfInBounds_toArray, List.set_cons_zero, List.set_cons_succ, i64_w, i32_w]
                        rfl
                      refine pure_ (i := 7) (N := some 48) (v := ?_) (a' := ?_) #[true, true, true, true, true, true, true, true, false, false] rfl rfl (any_of HT_.out (by kernel_rfl)) (fun _ _ _ h => h) (Or.inl ⟨by rfl, ?_⟩) ?_ ?_
                      rotate_left
                      · intro w'
                        go_simp
                        with_reducible rfl
                      rotate_left
                      · simp only [Act.put, List.setIfInBounds_toArray, List.set_cons_zero, List.set_cons_succ, i64_w, i32_w]
                        rfl
                      refine pure_ (i := 8) (N := some 49) (v := ?_) (a' := ?_) #[true, true, true, true, true, true, true, true, true, false] rfl rfl (any_of HT_.out (by kernel_rfl)) (fun _ _ _ h => h) (Or.inl ⟨by rfl, ?_⟩) ?_ ?_
                      rotate_left
                      · intro w'
                        go_simp
                        with_reducible rfl
                      rotate_left
                      · simp only [Act.put, List.setIfInBounds_toArray, List.set_cons_zero, List.set_cons_succ, i64_w, i32_w]
                        rfl
                      refine last_ (i := 9) (N := none) #[true, true, true, true, true, true, true, true, true, true] rfl rfl (one_of HT_.out (by kernel_rfl)) (by decide) (fun K hK => ?_)
                      refine skip_ (w1 := ?_) (by rfl) rfl ?_ ?_
                      rotate_left
                      · go_simp
                        rfl
                      refine hK.out _ _ ?_
                      clear hK K
                      refine done_ (done_of HT_.out (by kernel_rfl)) ?_
                      have n0_ := HO_17
                      have n1_ : Aside0 (Kd.R k36 36 (w58.setCell ⟨go50, (x19_1 : Int).toNat * 3 + 1, none⟩ (.string (((rd_T36 x17_1 x19_1).f1).extract 0 ((ji46) : Int).toNat))) w.heap.size (fun k_ => k_ ≠ gb224) (.slice (some ⟨go50, 0, none⟩) x223000_1.length co50) y228) := ⟨by (with_reducible repeat (first | apply Kd.R_alloc | apply Kd.R_drewN | apply Kd.R_drew)); exact HQ59.out⟩
                      have n2_ : Aside0 ((w58.setCell ⟨go50, (x19_1 : Int).toNat * 3 + 1, none⟩ (.string (((rd_T36 x17_1 x19_1).f1).extract 0 ((ji46) : Int).toNat))).heap[gb216]? = some (.cells #[.slice A0_0 l0_0.length c0_0] 26 (0, 0))) := ⟨by (with_reducible repeat (first | refine blk_drewN ?_ _ | refine blk_drew ?_ | refine blk_alloc ?_ _)); refine blk_far ?_ (by have h_ := Kd.R_ne HO_223000.out BK216.out (by decide); intro e_; exact h_ (by rw [e_]; rfl)) _; (with_reducible repeat (first | refine blk_drewN ?_ _ | refine blk_drew ?_ | refine blk_alloc ?_ _)); exact BK216.out⟩
                      have n3_ : Aside0 ((w58.setCell ⟨go50, (x19_1 : Int).toNat * 3 + 1, none⟩ (.string (((rd_T36 x17_1 x19_1).f1).extract 0 ((ji46) : Int).toNat))).heap[gb217]? = some (.cells #[.slice none 0 0] 26 (0, 0))) := ⟨by (with_reducible repeat (first | refine blk_drewN ?_ _ | refine blk_drew ?_ | refine blk_alloc ?_ _)); refine blk_far ?_ (by have h_ := Kd.R_ne HO_223000.out BK217.out (by decide); intro e_; exact h_ (by rw [e_]; rfl)) _; (with_reducible repeat (first | refine blk_drewN ?_ _ | refine blk_drew ?_ | refine blk_alloc ?_ _)); exact BK217.out⟩
                      have n4_ : Aside0 ((w58.setCell ⟨go50, (x19_1 : Int).toNat * 3 + 1, none⟩ (.string (((rd_T36 x17_1 x19_1).f1).extract 0 ((ji46) : Int).toNat))).heap[gb222]? = some (.cells #[.slice (some ⟨go50, 0, none⟩) x223000_1.length co50] 26 (0, 0))) := ⟨by (with_reducible repeat (first | refine blk_drewN ?_ _ | refine blk_drew ?_ | refine blk_alloc ?_ _)); refine blk_far ?_ (by have h_ := Kd.R_ne HO_223000.out BK222.out (by decide); intro e_; exact h_ (by rw [e_]; rfl)) _; (with_reducible repeat (first | refine blk_drewN ?_ _ | refine blk_drew ?_ | refine blk_alloc ?_ _)); exact BK222.out⟩
                      have n5_ : Aside0 ((w58.setCell ⟨go50, (x19_1 : Int).toNat * 3 + 1, none⟩ (.string (((rd_T36 x17_1 x19_1).f1).extract 0 ((ji46) : Int).toNat))).heap[gb224]? = some (.cells #[.string ((rd_T36 x17_1 x19_1).f0), .string ((rd_T36 x17_1 x19_1).f1), .int .i64 ((rd_T36 x17_1 x19_1).f2)] 36 (0, 0))) := ⟨by (with_reducible repeat (first | refine blk_drewN ?_ _ | refine blk_drew ?_ | refine blk_alloc ?_ _)); refine blk_far ?_ (by have h_ := Kd.R_away HO_223000.out (fun _ hk => hk); intro e_; exact h_ (by rw [e_]; rfl)) _; (with_reducible repeat (first | refine blk_drewN ?_ _ | refine blk_drew ?_ | refine blk_alloc ?_ _)); exact BK224.out⟩
                      have n6_ : Aside0 (Below w.heap.size w (w58.setCell ⟨go50, (x19_1 : Int).toNat * 3 + 1, none⟩ (.string (((rd_T36 x17_1 x19_1).f1).extract 0 ((ji46) : Int).toNat)))) := ⟨by repeat (first | (with_reducible first | exact HB.out | apply below_alloc | apply pw_below_drewN | apply below_drew1 | refine below_set ?_ GB50.out | refine below_set ?_ GE216.out | refine below_set ?_ GE217.out | refine below_set ?_ GE222.out | refine below_set ?_ GE224.out) | exact HB.out)⟩
                      (try clear HO_17)
                      (try clear HO_223000)
                      (try clear BK216)
                      (try clear BK217)
                      (try clear BK222)
                      (try clear BK224)
                      (try clear HB)
                      generalize (w58.setCell ⟨go50, (x19_1 : Int).toNat * 3 + 1, none⟩ (.string (((rd_T36 x17_1 x19_1).f1).extract 0 ((ji46) : Int).toNat))) = w60 at n1_ n2_ n3_ n4_ n5_ n6_ ⊢
                      have HO_17 := n0_
                      have HO_223000 := n1_
                      have BK216 := n2_
                      have BK217 := n3_
                      have BK222 := n4_
                      have BK224 := n5_
                      have HB := n6_
                      clear n0_ n1_ n2_ n3_ n4_ n5_ n6_
                      have hnb61 := NB222_216.out
                      have hnc61 := NB216_222.out
                      have hnb62 := NB222_217.out
                      have hnc62 := NB217_222.out
                      have hcz63_0 : w60.cell? ⟨gb222, 0, none⟩ = some (.slice (some ⟨go50, 0, none⟩) x223000_1.length co50) := (blk_cell BK222.out 0).trans rfl
                      have hfz63_0 := blk_frozen BK222.out 0
                      have p51 : 0 ≤ (x19_1 : Int) := of_decide_eq_true (by first | (with_reducible assumption) | assumption)
                      have q51 : (x19_1 : Int) < ((x223000_1.length : Int) : Int) := of_decide_eq_true (by first | (with_reducible assumption) | assumption)
                      replace p51 := eq_true p51
                      replace q51 := eq_true q51
                      have HX64 := Aside0.mk (show Kd.R k36 36 w60 w.heap.size (fun k_ => k_ ≠ gb224) (.slice (some ⟨go50, 0, none⟩) x223000_1.length co50) y228 from (by (with_reducible repeat (first | apply Kd.R_alloc | apply Kd.R_drewN | apply Kd.R_drew)); exact HO_223000.out))
                      obtain ⟨ce64, hcl64, hM64, hcc64, hfr64⟩ := Kd.R_elem HX64.out z36 (x19_1 : Int) (of_decide_eq_true (by first | (with_reducible assumption) | assumption)) (by have h_ : (x19_1 : Int) < ((x223000_1.length : Int) : Int) := of_decide_eq_true (by first | (with_reducible assumption) | assumption); first | exact h_ | (have e_ := (Kd.R_reads' HO_223000.out).1; omega) | simpa using h_)
                      obtain rfl := k36_openM hM64
                      have HP64 := Kd.R_seg HX64.out (x19_1 : Int) (of_decide_eq_true (by first | (with_reducible assumption) | assumption)) (by have h_ : (x19_1 : Int) < ((x223000_1.length : Int) : Int) := of_decide_eq_true (by first | (with_reducible assumption) | assumption); first | exact h_ | (have e_ := (Kd.R_reads' HO_223000.out).1; omega) | simpa using h_) (seg := [.int .i64 ji46]) (j := 2) hcl64 hcc64 (show 3 ≤ 3 from by decide) (x' := (⟨(rd_T36 y228 x19_1).f0, (rd_T36 y228 x19_1).f1, ji46⟩ : S36)) (k36_mkM _ _ _ (⟨(rd_T36 y228 x19_1).f0, (rd_T36 y228 x19_1).f1, ji46⟩ : S36) ) (fun _ hk => hk)
                      have hx64_2 := hcc64 2 _ rfl
                      (try simp only [show (k36).sz = 3 from rfl, Nat.mul_one, Nat.add_zero] at hx64_2)
                      have hf64_2 := hfr64 2
                      (try simp only [show (k36).sz = 3 from rfl, Nat.mul_one, Nat.add_zero] at hf64_2)
                      clear hcl64 hcc64 hfr64 hM64
                      try go_wp2_with (first | ((with_reducible refine gate_store (t := 3) (p := 55) rfl ?_); refine store_event (t := 3) (p := 55) (v := ?vo_w65) (w1 := (w60.setCell ⟨go50, (x19_1 : Int).toNat * 3 + 2, none⟩ (.int .i64 ji46))) ?hg ?ho ?hn ?hr ?_; (case ho => rfl); (case hg => rfl); (case hn => rfl); (case hr => first | (go_simp; done) | (go_simp; rfl)); intro w65 hw; have hg : w60.grownBy w65 (some go50) := (by rw [hw]; exact HP64.2); have hp_ : Kd.R k36 36 w65 w.heap.size (fun k_ => k_ ≠ gb224) (.slice (some ⟨go50, 0, none⟩) x223000_1.length co50) y229 := (by rw [hw, Ny229.out]; exact HP64.1); clear HP64; have n0_ := HO_17; have n1_ := Aside0.mk (hp_); have n2_ := Aside0.mk (blk_grown (g := gb216) (o := .cells #[.slice A0_0 l0_0.length c0_0] 26 (0, 0)) (by (with_reducible repeat (first | refine blk_drewN ?_ _ | refine blk_drew ?_ | refine blk_alloc ?_ _)); exact BK216.out) hg (Kd.R_ne HO_223000.out BK216.out (by decide))); have n3_ := Aside0.mk (blk_grown (g := gb217) (o := .cells #[.slice none 0 0] 26 (0, 0)) (by (with_reducible repeat (first | refine blk_drewN ?_ _ | refine blk_drew ?_ | refine blk_alloc ?_ _)); exact BK217.out) hg (Kd.R_ne HO_223000.out BK217.out (by decide))); have n4_ := Aside0.mk (blk_grown (g := gb222) (o := .cells #[.slice (some ⟨go50, 0, none⟩) x223000_1.length co50] 26 (0, 0)) (by (with_reducible repeat (first | refine blk_drewN ?_ _ | refine blk_drew ?_ | refine blk_alloc ?_ _)); exact BK222.out) hg (Kd.R_ne HO_223000.out BK222.out (by decide))); have n5_ := Aside0.mk (blk_grown (g := gb224) (o := .cells #[.string ((rd_T36 x17_1 x19_1).f0), .string ((rd_T36 x17_1 x19_1).f1), .int .i64 ((rd_T36 x17_1 x19_1).f2)] 36 (0, 0)) (by (with_reducible repeat (first | refine blk_drewN ?_ _ | refine blk_drew ?_ | refine blk_alloc ?_ _)); exact BK224.out) hg (Kd.R_away HO_223000.out (fun _ hk => hk))); have n6_ := Aside0.mk ((by rw [hw]; exact below_set (HB.out) GB50.out : Below w.heap.size w w65)); clear HO_17; clear HO_223000; clear BK216; clear BK217; clear BK222; clear BK224; clear HB; have HO_17 := n0_; have HO_223000 := n1_; have BK216 := n2_; have BK217 := n3_; have BK222 := n4_; have BK224 := n5_; have HB := n6_; clear n0_ n1_ n2_ n3_ n4_ n5_ n6_; clear hg hw hp_))
                      (try simp only [← hl17_1])
                      go_roundg k1
                      case measure => have := HK1.out; omega
                      case rel => exact ⟨(x17_1), (wrap64 (x19_1 + 1)), (y229), (.slice (some ⟨go50, 0, none⟩) x223000_1.length co50), (by first | rfl | (simp; done) | (simp [*]; done)), H', ⟨by have := HK1.out; omega⟩, ⟨⟨by first | rfl | assumption, (by (try simp only [hl17_1]); exact LoseInv.step HO_17.out.2 (of_decide_eq_true (by first | (with_reducible assumption) | assumption)) hN_ (of_decide_eq_true (by first | (with_reducible assumption) | assumption)) Ny228.out Ny229.out)⟩⟩, ⟨by (try simp only [hl17_1]); (with_reducible repeat (first | apply Kd.R_alloc | apply Kd.R_drewN | apply Kd.R_drew)); exact Kd.R_mono HO_223000.out (fun _ hk => trivial)⟩, ⟨by (try simp only [hl17_1]); (with_reducible repeat (first | refine blk_drewN ?_ _ | refine blk_drew ?_ | refine blk_alloc ?_ _)); exact BK216.out⟩, ⟨by (try simp only [hl17_1]); (with_reducible repeat (first | refine blk_drewN ?_ _ | refine blk_drew ?_ | refine blk_alloc ?_ _)); exact BK217.out⟩, ⟨by (try simp only [hl17_1]); (with_reducible repeat (first | refine blk_drewN ?_ _ | refine blk_drew ?_ | refine blk_alloc ?_ _)); exact BK222.out⟩, ⟨by repeat (first | (with_reducible first | exact HB.out | apply below_alloc | apply pw_below_drewN | apply below_drew1 | refine below_set ?_ GE216.out | refine below_set ?_ GE217.out | refine below_set ?_ GE222.out | refine below_set ?_ GE224.out) | exact HB.out)⟩⟩
                    · rw [if_neg c49] at H
                      exact absurd H (by simp)
                  · rw [if_neg c48] at H
                    exact absurd H (by simp)
                · rw [if_neg c47] at H
                  exact absurd H (by simp)
            · rw [if_neg c20] at H
              exact absurd H (by simp)
          · rw [if_neg c19] at H
            exact absurd H (by simp)
        · rw [if_neg c18] at H
          have c18b0 : decide (x19_1 < (t219.length : Int)) = false := decide_eq_false c18
          rw [hl17_1] at c18b0
          clear c18
          simp only [Option.some.injEq, Prod.mk.injEq] at H
          obtain ⟨rfl, rfl⟩ := H
          have hnb66 := NB222_216.out
          have hnc66 := NB216_222.out
          have hnb67 := NB222_217.out
          have hnc67 := NB217_222.out
          have hcz68_0 : wr.cell? ⟨gb222, 0, none⟩ = some (u223000) := (blk_cell BK222.out 0).trans rfl
          have hfz68_0 := blk_frozen BK222.out 0
          obtain ⟨Ao69, co69, eo69⟩ := Kd.R_slice HO_223000.out
          subst eo69
          have hnb70 := NB217_216.out
          have hnc70 := NB216_217.out
          have hcz71_0 : wr.cell? ⟨gb217, 0, none⟩ = some (.slice none 0 0) := (blk_cell BK217.out 0).trans rfl
          have hfz71_0 := blk_frozen BK217.out 0
          go_wp2
          refine bodyPost_ret (results_ct rfl _ _ gb217 26 #[.slice Ao69 x223000_1.length co69] (0, 0) _ rfl (by (with_reducible repeat (first | refine blk_drewN ?_ _ | refine blk_drew ?_ | refine blk_alloc ?_ _)); refine blk_put (cs := #[.slice none 0 0]) ?_ 0 _ rfl; (with_reducible repeat (first | refine blk_drewN ?_ _ | refine blk_drew ?_ | refine blk_alloc ?_ _)); exact BK217.out) Try.underlying26 rfl (by kernel_rfl)) rfl ?_
          exact ⟨_, by first | rfl | (simp [errW_none, errW_some] <;> rfl) | (simp [*, errW_none, errW_some] <;> rfl), by (with_reducible repeat (first | apply Kd.R_alloc | apply Kd.R_drewN | apply Kd.R_drew)); exact Kd.R_mono (Kd.R_far (p := ⟨gb217, 0, none⟩) (Kd.R_types HO_223000.out BK217.out (by decide)) (fun _ hk => hk.2) (.slice Ao69 x223000_1.length co69)) (fun _ hk => trivial), by repeat (first | (with_reducible first | exact HB.out | apply below_alloc | apply pw_below_drewN | apply below_drew1 | refine below_set ?_ GE216.out | refine below_set ?_ GE217.out | refine below_set ?_ GE222.out) | exact HB.out)⟩
  · replace c4 := Bool.eq_false_iff.mpr c4
    subst c4
    have H1 : (some (([] : List (S36)), false)) = some (r1, r2) := by rw [if_neg (show ¬ (false = true) by decide)] at H; exact H
    clear H
    have H := H1
    clear H1
    simp only [Option.some.injEq, Prod.mk.injEq] at H
    obtain ⟨rfl, rfl⟩ := H
    go_enter Try.func9, Try.ntmps9
    go_wp2_with (first | ((with_reducible refine gate_dst (N := 2) rfl ?_); refine box_event ?hg (N := 2) ?hd (cs := #[.slice A0_0 l0_0.length c0_0]) (t := 26) ?hr ?_; (case hd => rfl); (case hg => rfl); (case hr => first | (go_simp; done) | (go_simp; rfl)); intro gb216 hg w72 hbox hb; have n0_ := Aside0.mk (below_step (by repeat (first | (with_reducible first | exact HB.out | apply below_alloc | apply pw_below_drewN | apply below_drew1) | exact HB.out)) hb); have n1_ := Aside0.mk (hbox); have n2_ := Aside0.mk ((by rw [hg]; exact (below_size (by repeat (first | (with_reducible first | exact HB.out | apply below_alloc | apply pw_below_drewN | apply below_drew1) | exact HB.out))) : w.heap.size ≤ gb216)); have n3_ := Aside0.mk ((by rw [hg]; exact (below_size (by repeat (first | (with_reducible first | exact HB.out | apply below_alloc | apply pw_below_drewN | apply below_drew1) | exact HB.out))) : w.heap.size ≤ gb216)); clear HB; have HB := n0_; have BK216 := n1_; have GW216 := n2_; have GE216 := n3_; clear n0_ n1_ n2_ n3_; clear hb hbox hg) | ((with_reducible refine gate_dst (N := 4) rfl ?_); refine box_event ?hg (N := 4) ?hd (cs := #[.slice none 0 0]) (t := 26) ?hr ?_; (case hd => rfl); (case hg => rfl); (case hr => first | (go_simp; done) | (go_simp; rfl)); intro gb217 hg w73 hbox hb; have n0_ := Aside0.mk (blk_below (g := gb216) (o := .cells #[.slice A0_0 l0_0.length c0_0] 26 (0, 0)) (by (with_reducible repeat (first | refine blk_drewN ?_ _ | refine blk_drew ?_ | refine blk_alloc ?_ _)); exact BK216.out) hb); have n1_ := Aside0.mk (below_step (by repeat (first | (with_reducible first | exact HB.out | apply below_alloc | apply pw_below_drewN | apply below_drew1 | refine below_set ?_ GE216.out) | exact HB.out)) hb); have n2_ := Aside0.mk (hbox); have n3_ := Aside0.mk ((by rw [hg]; exact (below_size (by repeat (first | (with_reducible first | exact HB.out | apply below_alloc | apply pw_below_drewN | apply below_drew1 | refine below_set ?_ GE216.out) | exact HB.out))) : w.heap.size ≤ gb217)); have n4_ := Aside0.mk ((by rw [hg]; exact (below_size (by repeat (first | (with_reducible first | exact HB.out | apply below_alloc | apply pw_below_drewN | apply below_drew1 | refine below_set ?_ GE216.out) | exact HB.out))) : w.heap.size ≤ gb217)); have n5_ := Aside0.mk ((by rw [hg]; exact Nat.ne_of_lt (blk_lt (g := gb216) (o := .cells #[.slice A0_0 l0_0.length c0_0] 26 (0, 0)) (by (with_reducible repeat (first | refine blk_drewN ?_ _ | refine blk_drew ?_ | refine blk_alloc ?_ _)); exact BK216.out)) : gb216 ≠ gb217)); have n6_ := Aside0.mk ((by rw [hg]; exact Nat.ne_of_gt (blk_lt (g := gb216) (o := .cells #[.slice A0_0 l0_0.length c0_0] 26 (0, 0)) (by (with_reducible repeat (first | refine blk_drewN ?_ _ | refine blk_drew ?_ | refine blk_alloc ?_ _)); exact BK216.out)) : gb217 ≠ gb216)); clear BK216; clear HB; have BK216 := n0_; have HB := n1_; have BK217 := n2_; have GW217 := n3_; have GE217 := n4_; have NB216_217 := n5_; have NB217_216 := n6_; clear n0_ n1_ n2_ n3_ n4_ n5_ n6_; clear hb hbox hg; have hnb74 := NB216_217.out; have hnc74 := NB217_216.out; have hcz75_0 : w73.cell? ⟨gb216, 0, none⟩ = some (.slice A0_0 l0_0.length c0_0) := (blk_cell BK216.out 0).trans rfl; have hfz75_0 := blk_frozen BK216.out 0) | ((with_reducible refine gate_callee (f := 12) rfl ?_); refine goesL_ (some 11) rfl rfl Try.func12 (by kernel_rfl) rfl #[.agg #[.slice A0_0 l0_0.length c0_0]] rfl (by (try simp only [List.map_toArray, List.map_cons, List.map_nil]); first | done | rfl | (simp only [List.length_drop, List.length_take]; rfl)) ?_; (with_reducible refine (impl_DiskOk.calls k _ _ l0_0 false _ ?side1 ?side2 A3.out).mono ?_); (case side1 => repeat (first | exact (Kd.C_below HR0_0.out HB.out) | (with_reducible refine Kd.C_alloc ?_ _) | (with_reducible refine Kd.C_drewN ?_ _) | (with_reducible refine Kd.C_drew ?_))); (case side2 => exact HC0_0.out); rintro e w76 ⟨rfl, hb⟩; refine ⟨_, rfl, ?_⟩; have n0_ := Aside0.mk (blk_below (g := gb216) (o := .cells #[.slice A0_0 l0_0.length c0_0] 26 (0, 0)) (by (with_reducible repeat (first | refine blk_drewN ?_ _ | refine blk_drew ?_ | refine blk_alloc ?_ _)); exact BK216.out) hb); have n1_ := Aside0.mk (blk_below (g := gb217) (o := .cells #[.slice none 0 0] 26 (0, 0)) (by (with_reducible repeat (first | refine blk_drewN ?_ _ | refine blk_drew ?_ | refine blk_alloc ?_ _)); exact BK217.out) hb); have n2_ := Aside0.mk (below_step (by repeat (first | (with_reducible first | exact HB.out | apply below_alloc | apply pw_below_drewN | apply below_drew1 | refine below_set ?_ GE216.out | refine below_set ?_ GE217.out) | exact HB.out)) hb); clear BK216; clear BK217; clear HB; have BK216 := n0_; have BK217 := n1_; have HB := n2_; clear n0_ n1_ n2_; (try clear hb); (try clear hb2); (try clear hk); (try clear hi); have hcz77_0 : w76.cell? ⟨gb217, 0, none⟩ = some (.slice none 0 0) := (blk_cell BK217.out 0).trans rfl; have hfz77_0 := blk_frozen BK217.out 0))
    refine bodyPost_ret (results_ct rfl _ _ gb217 26 #[.slice none 0 0] (0, 0) _ rfl (by (with_reducible repeat (first | refine blk_drewN ?_ _ | refine blk_drew ?_ | refine blk_alloc ?_ _)); refine blk_put (cs := #[.slice none 0 0]) ?_ 0 _ rfl; (with_reducible repeat (first | refine blk_drewN ?_ _ | refine blk_drew ?_ | refine blk_alloc ?_ _)); exact BK217.out) Try.underlying26 rfl (by kernel_rfl)) rfl ?_
    exact ⟨_, by first | rfl | (simp [errW_none, errW_some] <;> rfl) | (simp [*, errW_none, errW_some] <;> rfl), by first | exact Kd.R_nil _ _ _ _ _ | exact Kd.N_nil _ _ _ _ _ | exact Kd.V_nil _ _ _ _ _ | exact Kd.Q_nil _ _ _ _ _ | exact Kd.S_nil _ _ _ _ _, by repeat (first | (with_reducible first | exact HB.out | apply below_alloc | apply pw_below_drewN | apply below_drew1 | refine below_set ?_ GE216.out | refine below_set ?_ GE217.out) | exact HB.out)⟩

end Go.Proofs.Ytghhepailkkneaa.PFnKeeps
