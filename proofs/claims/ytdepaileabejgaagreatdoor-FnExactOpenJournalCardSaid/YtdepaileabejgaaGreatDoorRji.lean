/- The record's step of ReadJournal, by hand. No condition. -/
import Derived.Test.YtdepaileabejgaaGreatDoorQFnExactOpenJournalx21
namespace Go.Proofs.YtdepaileabejgaaGreatDoor.PFnExactOpenJournal
open Go.RowKit Go.Proofs.YtdepaileabejgaaGreatDoorW.PrintWords Go.Proofs.YtdepaileabejgaaGreatDoorW.PrintLast Go.Proofs.YtdepaileabejgaaGreatDoorW.PrintMore Go.Proofs.YtdepaileabejgaaGreatDoorW.Short
attribute [local go_sem] max2_int min2_int max_two min_two max_three min_three max_four min_four
set_option maxHeartbeats 8000000
set_option maxRecDepth 100000
set_option linter.unusedVariables false
set_option linter.unusedSimpArgs false
theorem blk_other2 {w : World} {g : Nat} {o : Obj} (h : w.heap[g]? = some o) {p : Addr} (hne : g ≠ p.block) (u : Value) : (w.setCell p u).heap[g]? = some o := (Below.heap_setCell w p u g hne).trans h
def IJB (w0 W : World) (g : Nat) (n t v s u : Int) (l : List S105) : Prop := ∃ V : Value, W.heap[g]? = some (.cells #[.int .i64 n, .int .i64 t, .int .i64 v, .int .i64 s, .int .i64 u, V] 30 (0, 0)) ∧ w0.heap.size ≤ g ∧ Kd.R k105 105 W w0.heap.size (fun k => k ≠ g) V l
theorem IJB.below {w0 W W1 : World} {g : Nat} {n t v s u : Int} {l : List S105} (h : IJB w0 W g n t v s u l) (hb : Below W.heap.size W W1) : IJB w0 W1 g n t v s u l := by
 obtain ⟨V, h1, h2, h3⟩ := h
 exact ⟨V, blk_below h1 hb, h2, Kd.R_below h3 hb⟩
def impl_Journal_tells.f (k : Nat) (t v s u : Int) (l : List S105) (text : ByteArray) : Option (Bool × Int × Int × Int × Int × List S105) := (impl_twoNumbers.f k text (⟨#[72]⟩ : ByteArray)).bind fun q => if q.2.2 = true ∧ (0 ≤ q.1 ∧ q.1 ≤ 100000) ∧ (0 ≤ q.2.1 ∧ q.2.1 ≤ 4) then some (true, q.1, q.2.1, s, u, l) else (impl_ReadEntry.f k text).bind fun e => if e.2.2.2.2 = true then (impl_LogPut.f k s u l e.1 e.2.1 e.2.2.1 e.2.2.2.1).bind fun p => if p.2.2.2 = true then some (true, t, v, p.1, p.2.1, p.2.2.1) else some (false, t, v, s, u, l) else some (false, t, v, s, u, l)
theorem impl_Journal_tells.calls (k g : Nat) (n t v s u : Int) (l : List S105) (text : ByteArray) (r : Bool) (t' v' s' u' : Int) (l' : List S105) (w0 w : World) (hJ : IJB w0 w g n t v s u l) (hB : Below w0.heap.size w0 w) (h : impl_Journal_tells.f k t v s u l text = some (r, t', v', s', u', l')) :
 Calls Tryz.prog 59 #[.pointer (some ⟨g, 0, none⟩), .string text] w fun e w' => e = .returned (.bool r) ∧ IJB w0 w' g n t' v' s' u' l' ∧ Below w0.heap.size w0 w' := by
 obtain ⟨V, hblk, hg0, hR⟩ := hJ; have BK := ak hblk; have HO := ak hR; have HG := ak hg0; have HB := ak hB; clear hblk hg0 hR hB; unfold impl_Journal_tells.f at h; obtain ⟨⟨a, b, ok⟩, A10, h⟩ := Option.bind_eq_some_iff.mp h; simp only [] at h; have A1 := ak A10; clear A10
 have i1 : impl_hardOk.f a b = some (decide ((0 ≤ a ∧ a ≤ 100000) ∧ (0 ≤ b ∧ b ≤ 4))) := by
  unfold impl_hardOk.f impl_in.f
  by_cases h : a ≥ 0
  ·rw [if_pos h, Option.bind_some]
   by_cases h1 : a ≤ 100000
   ·rw [dt h1, if_pos rfl]
    by_cases h2 : b ≥ 0
    ·rw [if_pos h2, Option.bind_some]; simp [h1, show 0 ≤ a from h, show 0 ≤ b from h2]
    ·rw [if_neg h2, Option.bind_some]; simp [show ¬ 0 ≤ b from h2]
   ·rw [df h1, if_neg (by simp)]; simp [h1]
  ·rw [if_neg h, Option.bind_some, if_neg (by simp)]; simp [show ¬ 0 ≤ a from h]
 by_cases c0 : ok = true
 focus
  subst c0
  by_cases c1 : (0 ≤ a ∧ a ≤ 100000) ∧ (0 ≤ b ∧ b ≤ 4)
  rw [if_pos ⟨rfl, c1⟩] at h; rw [dt c1] at i1; have I1 := ak i1; obtain ⟨rfl, rfl, rfl, rfl, rfl, rfl⟩ := o6 h; clear i1 c1; rotate_left
  focus
   rw [if_neg (fun h => c1 h.2)] at h
   rw [df c1] at i1; have I1 := ak i1; clear i1 c1; obtain ⟨⟨ei, et, ek, ed, eok⟩, A20, h⟩ := Option.bind_eq_some_iff.mp h; simp only [] at h; have A2 := ak A20; clear A20
   by_cases c3 : eok = true
   subst c3; rw [if_pos rfl] at h; obtain ⟨⟨ps, pu, pl, pok⟩, A30, h⟩ := Option.bind_eq_some_iff.mp h; simp only [] at h; have A3 := ak A30; clear A30; obtain ⟨Av, cv, ev⟩ := Kd.R_slice HO.out; subst ev; rotate_left; replace c3 := Bool.eq_false_iff.mpr c3; subst c3
   rw [if_neg (by simp)] at h
   obtain ⟨rfl, rfl, rfl, rfl, rfl, rfl⟩ := o6 h
 rotate_left 3
 focus
  replace c0 := Bool.eq_false_iff.mpr c0; subst c0
  rw [if_neg (by simp)] at h
  clear i1; obtain ⟨⟨ei, et, ek, ed, eok⟩, A20, h⟩ := Option.bind_eq_some_iff.mp h; simp only [] at h; have A2 := ak A20; clear A20
  by_cases c3 : eok = true
  subst c3; rw [if_pos rfl] at h; obtain ⟨⟨ps, pu, pl, pok⟩, A30, h⟩ := Option.bind_eq_some_iff.mp h; simp only [] at h; have A3 := ak A30; clear A30; obtain ⟨Av, cv, ev⟩ := Kd.R_slice HO.out; subst ev; rotate_left; replace c3 := Bool.eq_false_iff.mpr c3; subst c3
  rw [if_neg (by simp)] at h
  obtain ⟨rfl, rfl, rfl, rfl, rfl, rfl⟩ := o6 h
 all_goals
  go_enter Tryz.func59, Tryz.ntmps59
  go_wp2_with (first | (go_at_call 57; (with_reducible refine (impl_twoNumbers.calls k text _ a b _ _ A1.out).mono ?_); rintro e w1 ⟨rfl, hb⟩; have n0_ := bb BK hb; have n1_ := rb HO hb; have n2_ := ak (below_step (bt HB) hb); clear BK HO HB hb; revert n0_ n1_ n2_; intro BK HO HB; have hc1 : w1.cell? ⟨g, 1, none⟩ = some (.int .i64 t) := bc BK 1; have hf1 := blk_frozen BK.out 1; have hc2 : w1.cell? ⟨g, 2, none⟩ = some (.int .i64 v) := bc BK 2; have hf2 := blk_frozen BK.out 2) | (go_at_call 90; (with_reducible refine (impl_hardOk.calls a b _ _ I1.out).mono ?_); rintro e w2 ⟨rfl, ⟨nd1, rfl⟩⟩) | (go_at_call 91; (with_reducible refine (impl_ReadEntry.calls k text ei et ek ed _ _ A2.out).mono ?_); rintro e w2 ⟨rfl, hb⟩; have n0_ := bb BK hb; have n1_ := rb HO hb; have n2_ := ak (below_step (bt HB) hb); clear BK HO HB hb; revert n0_ n1_ n2_; intro BK HO HB) | ((with_reducible refine gd 9 rfl ?_); refine bx 9 105 #[.int .i64 0, .int .i64 0, .string (⟨#[]⟩ : ByteArray)] ?_; intro gbE hg w3 hbox hb; have n0_ := bb BK hb; have n1_ := ak (Kd.R_below (Kd.R_elderB (rk HO) gbE (Nat.le_of_eq hg.symm)) hb); have n2_ := ak (below_step (bt HB) hb); have n3_ := hbox; have n4_ := ge_ hg HB; have n5_ := ak ((by rw [hg]; exact Nat.ne_of_lt (blk_lt (bk BK)) : g ≠ gbE)); have n6_ := ak ((by rw [hg]; exact Nat.ne_of_gt (blk_lt (bk BK)) : gbE ≠ g)); clear BK HO HB hb hbox hg; revert n0_ n1_ n2_ n3_ n4_ n5_ n6_; intro BK HO HB BE GE NE1 NE2; have hce0 : w3.cell? ⟨gbE, 0, none⟩ = some (.int .i64 0) := bc BE 0; have hce1 : w3.cell? ⟨gbE, 1, none⟩ = some (.int .i64 0) := bc BE 1; have hce2 : w3.cell? ⟨gbE, 2, none⟩ = some (.string (⟨#[]⟩ : ByteArray)) := bc BE 2; have hfe0 := blk_frozen BE.out 0; have hfe1 := blk_frozen BE.out 1; have hfe2 := blk_frozen BE.out 2))
 ·go_ret
  exact ⟨rfl, ⟨V, blk_other2 (blk_other2 (blk_other2 BK.out NE1.out _) NE1.out _) NE1.out _, HG.out, Kd.R_mono (Kd.R_far (Kd.R_far (Kd.R_far HO.out (fun _ hk => hk.2) _) (fun _ hk => hk.2) _) (fun _ hk => hk.2) _) (fun _ hk => hk.1)⟩, below_set (below_set (below_set HB.out GE.out) GE.out) GE.out⟩
 rotate_left
 ·go_ret
  exact ⟨rfl, ⟨V, blk_other2 (blk_other2 (blk_other2 BK.out NE1.out _) NE1.out _) NE1.out _, HG.out, Kd.R_mono (Kd.R_far (Kd.R_far (Kd.R_far HO.out (fun _ hk => hk.2) _) (fun _ hk => hk.2) _) (fun _ hk => hk.2) _) (fun _ hk => hk.1)⟩, below_set (below_set (below_set HB.out GE.out) GE.out) GE.out⟩
 rotate_left
 ·go_ret
  exact ⟨rfl, ⟨V, blk_put (blk_put (blk_drewN BK.out _) 1 _ rfl) 2 _ rfl, HG.out, by repeat (first | (with_reducible first | exact HO.out | apply Kd.R_alloc | apply Kd.R_drewN | apply Kd.R_drew | refine Kd.R_far ?_ (fun _ hk => hk) _) | exact HO.out)⟩, by repeat (first | (with_reducible first | exact HB.out | apply below_alloc | apply pw_below_drewN | apply below_drew1 | refine below_set ?_ HG.out | refine below_set ?_ GE.out | refine below_set ?_ GL.out) | exact HB.out)⟩
 all_goals
  generalize hW : (((w3.setCell ⟨gbE, 0, none⟩ (.int .i64 et)).setCell ⟨gbE, 1, none⟩ (.int .i64 ek)).setCell ⟨gbE, 2, none⟩ (.string ed)) = w4
  have n0_ : Aside0 (w4.heap[g]? = some (.cells #[.int .i64 n, .int .i64 t, .int .i64 v, .int .i64 s, .int .i64 u, (.slice Av l.length cv)] 30 (0, 0))) := ⟨by rw [← hW]; exact blk_other2 (blk_other2 (blk_other2 BK.out NE1.out _) NE1.out _) NE1.out _⟩
  have n1_ : Aside0 (w4.heap[gbE]? = some (.cells #[.int .i64 et, .int .i64 ek, .string ed] 105 (0, 0))) := ⟨by rw [← hW]; exact blk_put (blk_put (blk_put BE.out 0 _ rfl) 1 _ rfl) 2 _ rfl⟩
  have n2_ : Aside0 (Kd.R k105 105 w4 w0.heap.size (fun k => k ≠ g ∧ k ≠ gbE) (.slice Av l.length cv) l) := ⟨by rw [← hW]; exact Kd.R_far (Kd.R_far (Kd.R_far HO.out (fun _ hk => hk.2) _) (fun _ hk => hk.2) _) (fun _ hk => hk.2) _⟩
  have n3_ : Aside0 (Below w0.heap.size w0 w4) := ⟨by rw [← hW]; exact below_set (below_set (below_set HB.out GE.out) GE.out) GE.out⟩
  (try clear hce0 hce1 hce2 hfe0 hfe1 hfe2)
  clear BK BE HO HB hW; revert n0_ n1_ n2_ n3_; intro BK BE HO HB
  refine st0 13 (fun w' => w'.cell? ⟨g, 3, none⟩ = some (.int .i64 s) ∧ w'.cell? ⟨g, 4, none⟩ = some (.int .i64 u) ∧ w'.cell? ⟨g, 5, none⟩ = some (.slice Av l.length cv) ∧ d3 w' gbE (.int .i64 et) (.int .i64 ek) (.string ed)) ⟨bc (w := w4) BK 3, bc (w := w4) BK 4, bc (w := w4) BK 5, bc (w := w4) BE 0, bc (w := w4) BE 1, bc (w := w4) BE 2⟩ fun hHeld => ?_
  replace BK := ak (blk_drew BK.out); replace BE := ak (blk_drew BE.out); replace HO := ak (Kd.R_drew HO.out); replace HB := ak (below_drew1 HB.out)
  generalize w4.drew = w5 at BK BE HO HB hHeld ⊢
  refine pv 0 41 ?_; refine pv 1 42 ?_; refine pv 2 43 ?_; refine pv 4 45 ?_; refine tv hHeld 3 44 ?_; refine tv hHeld 5 46 ?_
  refine join_ (σ := Value × Nat) 2 #[true, true, true, true, true, true, true, true, true, true, true, false, false] (fun s_ => [(47, (.tuple #[.agg #[.int .i64 ps, .int .i64 pu, s_.1], .bool pok])), (11, .pointer (some ⟨s_.2, 0, none⟩)), (40, (.tuple #[.agg #[.int .i64 ps, .int .i64 pu, s_.1], .bool pok])), (48, .agg #[.int .i64 ps, .int .i64 pu, s_.1]), (49, .bool pok)]) (fun s_ w' => (w'.cell? ⟨g, 3, none⟩ = some (.int .i64 s) ∧ w'.cell? ⟨g, 4, none⟩ = some (.int .i64 u) ∧ w'.cell? ⟨g, 5, none⟩ = some (.slice Av l.length cv) ∧ d3 w' gbE (.int .i64 et) (.int .i64 ek) (.string ed)) ∧ Kd.R k105 105 w' w0.heap.size (fun k => k ≠ g ∧ k ≠ s_.2) s_.1 pl ∧ Kd.R k105 105 w' w0.heap.size (fun k => k ≠ g ∧ k ≠ s_.2) (.slice Av l.length cv) l ∧ w'.heap[g]? = some (.cells #[.int .i64 n, .int .i64 t, .int .i64 v, .int .i64 s, .int .i64 u, (.slice Av l.length cv)] 30 (0, 0)) ∧ w'.heap[s_.2]? = some (.cells #[.int .i64 0, .int .i64 0, .slice none 0 0] 28 (0, 0)) ∧ w0.heap.size ≤ s_.2 ∧ g ≠ s_.2 ∧ s_.2 ≠ g ∧ gbE ≠ s_.2 ∧ s_.2 ≠ gbE ∧ Below w0.heap.size w0 w') ?_ ?_
  rotate_left
  ·intro hCont
   refine two_ (i := 6) (j := 10) (Ni := some 47) (Nj := some 11) #[true, true, true, true, true, true, true, false, false, false, false, false, false] #[true, true, true, true, true, true, false, false, false, false, true, false, false] rfl rfl rfl rfl (by kernel_rfl) (by decide) (by decide) (fun K hK => ?_) (fun K hK => ?_)
   skip
   refine goes_ Tryz.func92 (by kernel_rfl) rfl #[.agg #[.int .i64 s, .int .i64 u, .slice Av l.length cv], .int .i64 ei, .agg #[.int .i64 et, .int .i64 ek, .string ed]] (by rfl) rfl rfl (by (try simp only [List.map_toArray, List.map_cons, List.map_nil]); first | done | rfl) ?_
   with_reducible refine (impl_LogPut.calls k s u _ _ l ei et ek ed ps pu pl pok _ ?side1 ?side2 A3.out).mono ?_
   (case side1 => exact (Kd.R_reads' HO.out).2.2)
   (case side2 => exact (Kd.R_reads' HO.out).2.1)
   rintro e w6 ⟨v2, rfl, ho, hb⟩; refine ⟨_, rfl, ?_⟩; replace BE := bb BE hb; have HP := ak (Kd.R_lower (Kd.R_newB ho BK.out) (below_size HB.out)); replace BK := bb BK hb; replace HB := ak (below_step HB.out hb); replace HO := rb HO hb; clear hb ho; rotate_left
   skip
   refine box_step ?hg (N := 11) ?hd (cs := #[.int .i64 0, .int .i64 0, .slice none 0 0]) (t := 28) ?hr ?_; (case hd => rfl); (case hg => rfl); (case hr => first | (go_simp; done) | (go_simp; rfl))
   intro gbL hg w7 hbox hb; have n0_ := bb BK hb; have n1_ := bb BE hb; have n2_ := ak (Kd.R_below (Kd.R_elderB HO.out gbL (Nat.le_of_eq hg.symm)) hb); have n3_ := ak (below_step HB.out hb); have n4_ := ak hbox
   have n5_ := ak ((by rw [hg]; exact (below_size HB.out) : w0.heap.size ≤ gbL))
   have n6_ := ak ((by rw [hg]; exact Nat.ne_of_lt (blk_lt BK.out) : g ≠ gbL))
   have n7_ := ak ((by rw [hg]; exact Nat.ne_of_gt (blk_lt BK.out) : gbL ≠ g))
   have n8_ := ak ((by rw [hg]; exact Nat.ne_of_lt (blk_lt BE.out) : gbE ≠ gbL))
   have n9_ := ak ((by rw [hg]; exact Nat.ne_of_gt (blk_lt BE.out) : gbL ≠ gbE))
   clear BK BE HO HB; revert n0_ n1_ n2_ n3_ n4_ n5_ n6_ n7_ n8_ n9_; intro BK BE HO HB BL GL NL1 NL2 NL3 NL4; clear hb hbox hg
   all_goals
    refine hK.out _ _ ⟨bc BK 3, bc BK 4, bc BK 5, bc BE 0, bc BE 1, bc BE 2⟩ fun hHeld => ?_
    clear hK K
   ·refine norm_ (a' := ?_) ?_ ?_; rotate_left
    ·show Act.put _ (some 11) _ = _
     simp only [Act.put, List.setIfInBounds_toArray, List.set_cons_zero, List.set_cons_succ, i64_w, i32_w]
     rfl
    refine ov 6 47 fun K hK => ?_
    refine goes_ Tryz.func92 (by kernel_rfl) rfl #[.agg #[.int .i64 s, .int .i64 u, .slice Av l.length cv], .int .i64 ei, .agg #[.int .i64 et, .int .i64 ek, .string ed]] (by rfl) rfl rfl (by (try simp only [List.map_toArray, List.map_cons, List.map_nil]); first | done | rfl) ?_
    with_reducible refine (impl_LogPut.calls k s u _ _ l ei et ek ed ps pu pl pok _ ?side1 ?side2 A3.out).mono ?_
    (case side1 => exact (Kd.R_reads' HO.out).2.2)
    (case side2 => exact (Kd.R_reads' HO.out).2.1)
    rintro e w6 ⟨v2, rfl, ho, hb⟩; refine ⟨_, rfl, ?_⟩; replace BE := bb BE hb; have HP := ak (Kd.R_lower (Kd.R_newB (Kd.R_newB ho BK.out) BL.out) (below_size HB.out)); replace BK := bb BK hb; replace HB := ak (below_step HB.out hb); replace HO := rb HO hb; replace BL := bb BL hb; clear hb ho
    refine hK.out _ _ ⟨bc BK 3, bc BK 4, bc BK 5, bc BE 0, bc BE 1, bc BE 2⟩ fun hHeld => ?_
    clear hK K; refine norm_ (a' := ?_) ?_ ?_; rotate_left
    ·show Act.put _ (some 47) _ = _
     simp only [Act.put, List.setIfInBounds_toArray, List.set_cons_zero, List.set_cons_succ, i64_w, i32_w]
     rfl
    refine pv 7 40 ?_; refine pv 8 48 ?_; refine pv 9 49 ?_
    exact norm_ (by simp only [putAll, Act.put, zA, zB, zC]) (hCont (v2, gbL) _ ⟨hHeld, (Kd.R_mono HP.out (fun _ hk => ⟨hk.1.2, hk.2⟩)), Kd.R_mono HO.out (fun _ hk => ⟨hk.1.1, hk.2⟩), BK.out, BL.out, GL.out, NL1.out, NL2.out, NL3.out, NL4.out, HB.out⟩)
   ·refine norm_ (a' := ?_) ?_ ?_; rotate_left
    ·show Act.put _ (some 47) _ = _
     simp only [Act.put, List.setIfInBounds_toArray, List.set_cons_zero, List.set_cons_succ, i64_w, i32_w]
     rfl
    refine pv 7 40 ?_; refine pv 8 48 ?_; refine pv 9 49 ?_
    refine ov 10 11 fun K hK => ?_
    refine box_step ?hg (N := 11) ?hd (cs := #[.int .i64 0, .int .i64 0, .slice none 0 0]) (t := 28) ?hr ?_; (case hd => rfl); (case hg => rfl); (case hr => first | (go_simp; done) | (go_simp; rfl))
    intro gbL hg w7 hbox hb; have n0_ := bb BK hb; have n1_ := bb BE hb; have n2_ := ak (Kd.R_below (Kd.R_elderB HO.out gbL (Nat.le_of_eq hg.symm)) hb); have n10_ := ak (Kd.R_below (Kd.R_elderB HP.out gbL (Nat.le_of_eq hg.symm)) hb); have n3_ := ak (below_step HB.out hb); have n4_ := ak hbox
    have n5_ := ak ((by rw [hg]; exact (below_size HB.out) : w0.heap.size ≤ gbL))
    have n6_ := ak ((by rw [hg]; exact Nat.ne_of_lt (blk_lt BK.out) : g ≠ gbL))
    have n7_ := ak ((by rw [hg]; exact Nat.ne_of_gt (blk_lt BK.out) : gbL ≠ g))
    have n8_ := ak ((by rw [hg]; exact Nat.ne_of_lt (blk_lt BE.out) : gbE ≠ gbL))
    have n9_ := ak ((by rw [hg]; exact Nat.ne_of_gt (blk_lt BE.out) : gbL ≠ gbE))
    clear BK BE HO HB HP; revert n0_ n1_ n2_ n3_ n4_ n5_ n6_ n7_ n8_ n9_ n10_; intro BK BE HO HP HB BL GL NL1 NL2 NL3 NL4; clear hb hbox hg
    refine hK.out _ _ ⟨bc BK 3, bc BK 4, bc BK 5, bc BE 0, bc BE 1, bc BE 2⟩ fun hHeld => ?_
    clear hK K; refine norm_ (a' := ?_) ?_ ?_; rotate_left
    ·show Act.put _ (some 11) _ = _
     simp only [Act.put, List.setIfInBounds_toArray, List.set_cons_zero, List.set_cons_succ, i64_w, i32_w]
     rfl
    exact norm_ (by simp only [putAll, Act.put, zA, zB, zC]) (hCont (v2, gbL) _ ⟨hHeld, (Kd.R_mono HP.out (fun _ hk => ⟨hk.1.2, hk.2⟩)), Kd.R_mono HO.out (fun _ hk => ⟨hk.1.1, hk.2⟩), BK.out, BL.out, GL.out, NL1.out, NL2.out, NL3.out, NL4.out, HB.out⟩)
  rintro ⟨v2, gbL⟩ w8 ⟨hS_, h0_, h9_, h1_, h2_, h3_, h4_, h5_, h6_, h7_, h8_⟩; clear BK BE HO HB hHeld
  have HP : Aside0 (Kd.R k105 105 w8 w0.heap.size (fun k => k ≠ g ∧ k ≠ gbL) v2 pl) := ⟨h0_⟩
  have HO : Aside0 (Kd.R k105 105 w8 w0.heap.size (fun k => k ≠ g ∧ k ≠ gbL) (.slice Av l.length cv) l) := ⟨h9_⟩
  have BK : Aside0 (w8.heap[g]? = some (.cells #[.int .i64 n, .int .i64 t, .int .i64 v, .int .i64 s, .int .i64 u, (.slice Av l.length cv)] 30 (0, 0))) := ⟨h1_⟩; have BL : Aside0 (w8.heap[gbL]? = some (.cells #[.int .i64 0, .int .i64 0, .slice none 0 0] 28 (0, 0))) := ⟨h2_⟩; have GL : Aside0 (w0.heap.size ≤ gbL) := ⟨h3_⟩; have NL1 : Aside0 (g ≠ gbL) := ⟨h4_⟩; have NL2 : Aside0 (gbL ≠ g) := ⟨h5_⟩; have NL3 : Aside0 (gbE ≠ gbL) := ⟨h6_⟩; have NL4 : Aside0 (gbL ≠ gbE) := ⟨h7_⟩; have HB : Aside0 (Below w0.heap.size w0 w8) := ⟨h8_⟩; clear h0_ h1_ h2_ h3_ h4_ h5_ h6_ h7_ h8_ h9_; have hHeld := hS_; clear hS_; obtain ⟨Aw, cw, ew⟩ := Kd.R_slice HP.out; subst ew; refine norm_ (a' := ?_) ?_ ?_; rotate_left
  ·simp only [putAll, Act.put, zA, zB, zC]
   rfl
  refine ov0 11 fun K hK => ?_
  have hs0 : w8.cell? ⟨gbL, 0, none⟩ = some (.int .i64 0) := bc BL 0; have hfs0 := blk_frozen BL.out 0; have hs1 : w8.cell? ⟨gbL, 1, none⟩ = some (.int .i64 0) := bc BL 1; have hfs1 := blk_frozen BL.out 1; have hs2 : w8.cell? ⟨gbL, 2, none⟩ = some (.slice none 0 0) := bc BL 2; have hfs2 := blk_frozen BL.out 2; refine sk ?_
  refine hK.out _ _ hp fun hHeld2 => ?_
  clear hK K hHeld hHeld2 hs0 hs1 hs2 hfs0 hfs1 hfs2; refine pv 12 10 ?_; refine dv ?_
  generalize hW : (((w8.setCell ⟨gbL, 0, none⟩ (.int .i64 ps)).setCell ⟨gbL, 1, none⟩ (.int .i64 pu)).setCell ⟨gbL, 2, none⟩ (.slice Aw pl.length cw)) = w9
  have n0_ : Aside0 (w9.heap[g]? = some (.cells #[.int .i64 n, .int .i64 t, .int .i64 v, .int .i64 s, .int .i64 u, (.slice Av l.length cv)] 30 (0, 0))) := ⟨by rw [← hW]; exact blk_other2 (blk_other2 (blk_other2 BK.out NL1.out _) NL1.out _) NL1.out _⟩
  have n1_ : Aside0 (w9.heap[gbL]? = some (.cells #[.int .i64 ps, .int .i64 pu, .slice Aw pl.length cw] 28 (0, 0))) := ⟨by rw [← hW]; exact blk_put (blk_put (blk_put BL.out 0 _ rfl) 1 _ rfl) 2 _ rfl⟩
  have n2_ : Aside0 (Kd.R k105 105 w9 w0.heap.size (fun k => k ≠ g ∧ k ≠ gbL) (.slice Aw pl.length cw) pl) := ⟨by rw [← hW]; exact Kd.R_far (Kd.R_far (Kd.R_far HP.out (fun _ hk => hk.2) _) (fun _ hk => hk.2) _) (fun _ hk => hk.2) _⟩
  have n3_ : Aside0 (Below w0.heap.size w0 w9) := ⟨by rw [← hW]; exact below_set (below_set (below_set HB.out GL.out) GL.out) GL.out⟩
  have n4_ : Aside0 (Kd.R k105 105 w9 w0.heap.size (fun k => k ≠ g) (.slice Av l.length cv) l) := ⟨by rw [← hW]; exact Kd.R_mono (Kd.R_far (Kd.R_far (Kd.R_far HO.out (fun _ hk => hk.2) _) (fun _ hk => hk.2) _) (fun _ hk => hk.2) _) (fun _ hk => hk.1)⟩
  clear BK BL HP HB HO hW; revert n0_ n1_ n2_ n3_ n4_; intro BK BL HP HB HO
  by_cases c4 : pok = true
  ·subst c4; rw [if_pos rfl] at h; obtain ⟨rfl, rfl, rfl, rfl, rfl, rfl⟩ := o6 h; have hg3 : w9.cell? ⟨g, 3, none⟩ = some (.int .i64 s) := bc BK 3; have hgf3 := blk_frozen BK.out 3; have hg4 : w9.cell? ⟨g, 4, none⟩ = some (.int .i64 u) := bc BK 4; have hgf4 := blk_frozen BK.out 4; have hg5 : w9.cell? ⟨g, 5, none⟩ = some (.slice Av l.length cv) := bc BK 5; have hgf5 := blk_frozen BK.out 5; have hl0 : w9.cell? ⟨gbL, 0, none⟩ = some (.int .i64 ps) := bc BL 0; have hl1 : w9.cell? ⟨gbL, 1, none⟩ = some (.int .i64 pu) := bc BL 1; have hl2 : w9.cell? ⟨gbL, 2, none⟩ = some (.slice Aw pl.length cw) := bc BL 2; have hn1 := NL1.out; have hn2 := NL2.out
   go_wp2_with (fail)
   go_ret
   exact ⟨rfl, ⟨.slice Aw pl.length cw, blk_put (blk_put (blk_put BK.out 3 _ rfl) 4 _ rfl) 5 _ rfl, HG.out, Kd.R_mono (Kd.R_far (Kd.R_far (Kd.R_far HP.out (fun _ hk => hk.1) _) (fun _ hk => hk.1) _) (fun _ hk => hk.1) _) (fun _ hk => hk.1)⟩, below_set (below_set (below_set HB.out HG.out) HG.out) HG.out⟩
  ·replace c4 := Bool.eq_false_iff.mpr c4; subst c4
   rw [if_neg (by simp)] at h
   obtain ⟨rfl, rfl, rfl, rfl, rfl, rfl⟩ := o6 h
   go_wp2_with (fail)
   go_ret; exact ⟨rfl, ⟨.slice Av l.length cv, BK.out, HG.out, HO.out⟩, HB.out⟩
end Go.Proofs.YtdepaileabejgaaGreatDoor.PFnExactOpenJournal
