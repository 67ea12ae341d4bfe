/- The record's step of ReadJournal, by hand. No condition. -/
import Derived.Test.YtghhepailkkneaaShort
import Derived.Test.YtghhepailkkneaaQFnExactReadJournalx0
import Derived.Test.YtghhepailkkneaaQFnExactReadJournalx10
import Derived.Test.YtghhepailkkneaaQFnExactReadJournalx11
import Derived.Test.YtghhepailkkneaaQFnExactReadJournalx12
import Derived.Test.YtghhepailkkneaaQFnExactReadJournalx13
namespace Go.Proofs.Ytghhepailkkneaa.PFnExactReadJournal
open Go.RowKit Go.Proofs.YtghhepailkkneaaW.PrintWords Go.Proofs.YtghhepailkkneaaW.PrintLast Go.Proofs.YtghhepailkkneaaW.PrintMore Go.Proofs.YtghhepailkkneaaW.Short
attribute [local go_sem] max2_int min2_int max_two min_two max_three min_three max_four min_four
set_option linter.unusedVariables false
set_option linter.unusedSimpArgs false
theorem blk_other2 {w : World} {g : Nat} {o : Obj} (h : w.heap[g]? = some o) {p : Addr} (hne : g ≠ p.block) (u : Value) : (w.setCell p u).heap[g]? = some o := (Below.heap_setCell w p u g hne).trans h
def IJB (w0 W : World) (g : Nat) (n t v s u : Int) (l : List S89) : Prop := ∃ V : Value, W.heap[g]? = some (.cells #[.int .i64 n, .int .i64 t, .int .i64 v, .int .i64 s, .int .i64 u, V] 42 (0, 0)) ∧ w0.heap.size ≤ g ∧ Kd.R k89 89 W w0.heap.size (fun k => k ≠ g) V l
theorem IJB.below {w0 W W1 : World} {g : Nat} {n t v s u : Int} {l : List S89} (h : IJB w0 W g n t v s u l) (hb : Below W.heap.size W W1) : IJB w0 W1 g n t v s u l := by
  obtain ⟨V, h1, h2, h3⟩ := h
  exact ⟨V, blk_below h1 hb, h2, Kd.R_below h3 hb⟩
def impl_Journal_tells.f (k : Nat) (t v s u : Int) (l : List S89) (text : ByteArray) : Option (Bool × Int × Int × Int × Int × List S89) := (impl_twoNumbers.f k text (⟨#[72]⟩ : ByteArray)).bind fun q => if q.2.2 = true ∧ (0 ≤ q.1 ∧ q.1 ≤ 100000) ∧ (0 ≤ q.2.1 ∧ q.2.1 ≤ 4) then some (true, q.1, q.2.1, s, u, l) else (impl_ReadEntry.f k text).bind fun e => if e.2.2.2.2 = true then (impl_LogPut.f k s u l e.1 e.2.1 e.2.2.1 e.2.2.2.1).bind fun p => if p.2.2.2 = true then some (true, t, v, p.1, p.2.1, p.2.2.1) else some (false, t, v, s, u, l) else some (false, t, v, s, u, l)
set_option maxHeartbeats 8000000 in
set_option maxRecDepth 100000 in
theorem impl_Journal_tells.calls (k g : Nat) (n t v s u : Int) (l : List S89) (text : ByteArray) (r : Bool) (t' v' s' u' : Int) (l' : List S89) (w0 w : World) (hJ : IJB w0 w g n t v s u l) (hB : Below w0.heap.size w0 w) (h : impl_Journal_tells.f k t v s u l text = some (r, t', v', s', u', l')) :
    Calls Try.prog 39 #[.pointer (some ⟨g, 0, none⟩), .string text] w fun e w' => e = .returned (.bool r) ∧ IJB w0 w' g n t' v' s' u' l' ∧ Below w0.heap.size w0 w' := by
  obtain ⟨V, hblk, hg0, hR⟩ := hJ
  have BK := Aside0.mk hblk
  have HO := Aside0.mk hR
  have HG := Aside0.mk hg0
  have HB := Aside0.mk hB
  clear hblk hg0 hR hB
  unfold impl_Journal_tells.f at h
  obtain ⟨⟨a, b, ok⟩, A10, h⟩ := Option.bind_eq_some_iff.mp h
  simp only [] at h
  have A1 := Aside0.mk A10
  clear A10
  have i1 : impl_hardOk.f a b = some (decide ((0 ≤ a ∧ a ≤ 100000) ∧ (0 ≤ b ∧ b ≤ 4))) := by
    unfold impl_hardOk.f impl_in.f
    by_cases h : a ≥ 0
    · rw [if_pos h, Option.bind_some]
      by_cases h1 : a ≤ 100000
      · rw [decide_eq_true h1, if_pos rfl]
        by_cases h2 : b ≥ 0
        · rw [if_pos h2, Option.bind_some]; simp [h1, show 0 ≤ a from h, show 0 ≤ b from h2]
        · rw [if_neg h2, Option.bind_some]; simp [show ¬ 0 ≤ b from h2]
      · rw [decide_eq_false h1, if_neg (by simp)]; simp [h1]
    · rw [if_neg h, Option.bind_some, if_neg (by simp)]; simp [show ¬ 0 ≤ a from h]
  by_cases c0 : ok = true
  · subst c0
    by_cases c1 : (0 ≤ a ∧ a ≤ 100000) ∧ (0 ≤ b ∧ b ≤ 4)
    · rw [if_pos ⟨rfl, c1⟩] at h
      rw [decide_eq_true c1] at i1
      have I1 := Aside0.mk i1
      simp only [Option.some.injEq, Prod.mk.injEq] at h
      obtain ⟨rfl, rfl, rfl, rfl, rfl, rfl⟩ := h
      clear i1 c1
      go_enter Try.func39, Try.ntmps39
      go_wp2_with (first | (go_at_call 37; (with_reducible refine (impl_twoNumbers.calls k text _ a b true _ A1.out).mono ?_); rintro e w1 ⟨rfl, hb⟩; have n0_ := bb BK hb; have n1_ := rb HO hb; have n2_ := Aside0.mk (below_step (bt HB) hb); clear BK HO HB hb; revert n0_ n1_ n2_; intro BK HO HB; have hc1 : w1.cell? ⟨g, 1, none⟩ = some (.int .i64 t) := bc BK 1; have hf1 := blk_frozen BK.out 1; have hc2 : w1.cell? ⟨g, 2, none⟩ = some (.int .i64 v) := bc BK 2; have hf2 := blk_frozen BK.out 2) | (go_at_call 62; (with_reducible refine (impl_hardOk.calls a b _ _ I1.out).mono ?_); rintro e w2 ⟨rfl, ⟨nd1, rfl⟩⟩))
      go_ret
      exact ⟨rfl, ⟨V, blk_put (blk_put (blk_drewN BK.out _) 1 _ rfl) 2 _ rfl, HG.out, by repeat (first | (with_reducible first | exact HO.out | apply Kd.R_alloc | apply Kd.R_drewN | apply Kd.R_drew | refine Kd.R_far ?_ (fun _ hk => hk) _) | exact HO.out)⟩, by repeat (first | (with_reducible first | exact HB.out | apply below_alloc | apply pw_below_drewN | apply below_drew1 | refine below_set ?_ HG.out | refine below_set ?_ GE.out | refine below_set ?_ GL.out) | exact HB.out)⟩
    · rw [if_neg (fun h => c1 h.2)] at h
      rw [decide_eq_false c1] at i1
      have I1 := Aside0.mk i1
      clear i1 c1
      obtain ⟨⟨ei, et, ek, ed, eok⟩, A20, h⟩ := Option.bind_eq_some_iff.mp h
      simp only [] at h
      have A2 := Aside0.mk A20
      clear A20
      by_cases c3 : eok = true
      · subst c3
        rw [if_pos rfl] at h
        obtain ⟨⟨ps, pu, pl, pok⟩, A30, h⟩ := Option.bind_eq_some_iff.mp h
        simp only [] at h
        have A3 := Aside0.mk A30
        clear A30
        obtain ⟨Av, cv, ev⟩ := Kd.R_slice HO.out
        subst ev
        go_enter Try.func39, Try.ntmps39
        go_wp2_with (first | (go_at_call 37; (with_reducible refine (impl_twoNumbers.calls k text _ a b true _ A1.out).mono ?_); rintro e w1 ⟨rfl, hb⟩; have n0_ := bb BK hb; have n1_ := rb HO hb; have n2_ := Aside0.mk (below_step (bt HB) hb); clear BK HO HB hb; revert n0_ n1_ n2_; intro BK HO HB; have hc1 : w1.cell? ⟨g, 1, none⟩ = some (.int .i64 t) := bc BK 1; have hf1 := blk_frozen BK.out 1; have hc2 : w1.cell? ⟨g, 2, none⟩ = some (.int .i64 v) := bc BK 2; have hf2 := blk_frozen BK.out 2) | (go_at_call 62; (with_reducible refine (impl_hardOk.calls a b _ _ I1.out).mono ?_); rintro e w2 ⟨rfl, ⟨nd1, rfl⟩⟩) | (go_at_call 63; (with_reducible refine (impl_ReadEntry.calls k text ei et ek ed true _ A2.out).mono ?_); rintro e w2 ⟨rfl, hb⟩; have n0_ := bb BK hb; have n1_ := rb HO hb; have n2_ := Aside0.mk (below_step (bt HB) hb); clear BK HO HB hb; revert n0_ n1_ n2_; intro BK HO HB) | ((with_reducible refine gate_dst (N := 9) rfl ?_); refine box_event ?hg (N := 9) ?hd (cs := #[.int .i64 0, .int .i64 0, .string (⟨#[]⟩ : ByteArray)]) (t := 89) ?hr ?_; (case hd => rfl); (case hg => rfl); (case hr => first | (go_simp; done) | (go_simp; rfl)); intro gbE hg w3 hbox hb; have n0_ := bb BK hb; have n1_ := Aside0.mk (Kd.R_below (Kd.R_elderB (rk HO) gbE (Nat.le_of_eq hg.symm)) hb); have n2_ := Aside0.mk (below_step (bt HB) hb); have n3_ := Aside0.mk hbox; have n4_ := Aside0.mk ((by rw [hg]; exact (below_size (bt HB)) : w0.heap.size ≤ gbE)); have n5_ := Aside0.mk ((by rw [hg]; exact Nat.ne_of_lt (blk_lt (bk BK)) : g ≠ gbE)); have n6_ := Aside0.mk ((by rw [hg]; exact Nat.ne_of_gt (blk_lt (bk BK)) : gbE ≠ g)); clear BK HO HB hb hbox hg; revert n0_ n1_ n2_ n3_ n4_ n5_ n6_; intro BK HO HB BE GE NE1 NE2; have hce0 : w3.cell? ⟨gbE, 0, none⟩ = some (.int .i64 0) := bc BE 0; have hce1 : w3.cell? ⟨gbE, 1, none⟩ = some (.int .i64 0) := bc BE 1; have hce2 : w3.cell? ⟨gbE, 2, none⟩ = some (.string (⟨#[]⟩ : ByteArray)) := bc BE 2; have hfe0 := blk_frozen BE.out 0; have hfe1 := blk_frozen BE.out 1; have hfe2 := blk_frozen BE.out 2))
        generalize hW : (((w3.setCell ⟨gbE, 0, none⟩ (.int .i64 et)).setCell ⟨gbE, 1, none⟩ (.int .i64 ek)).setCell ⟨gbE, 2, none⟩ (.string ed)) = w4
        have n0_ : Aside0 (w4.heap[g]? = some (.cells #[.int .i64 n, .int .i64 t, .int .i64 v, .int .i64 s, .int .i64 u, (.slice Av l.length cv)] 42 (0, 0))) := ⟨by rw [← hW]; exact blk_other2 (blk_other2 (blk_other2 BK.out NE1.out _) NE1.out _) NE1.out _⟩
        have n1_ : Aside0 (w4.heap[gbE]? = some (.cells #[.int .i64 et, .int .i64 ek, .string ed] 89 (0, 0))) := ⟨by rw [← hW]; exact blk_put (blk_put (blk_put BE.out 0 _ rfl) 1 _ rfl) 2 _ rfl⟩
        have n2_ : Aside0 (Kd.R k89 89 w4 w0.heap.size (fun k => k ≠ g ∧ k ≠ gbE) (.slice Av l.length cv) l) := ⟨by rw [← hW]; exact Kd.R_far (Kd.R_far (Kd.R_far HO.out (fun _ hk => hk.2) _) (fun _ hk => hk.2) _) (fun _ hk => hk.2) _⟩
        have n3_ : Aside0 (Below w0.heap.size w0 w4) := ⟨by rw [← hW]; exact below_set (below_set (below_set HB.out GE.out) GE.out) GE.out⟩
        (try clear hce0 hce1 hce2 hfe0 hfe1 hfe2)
        clear BK BE HO HB hW
        revert n0_ n1_ n2_ n3_
        intro BK BE HO HB
        refine start_ (n := 13) (S := fun w' => w'.cell? ⟨g, 3, none⟩ = some (.int .i64 s) ∧ w'.cell? ⟨g, 4, none⟩ = some (.int .i64 u) ∧ w'.cell? ⟨g, 5, none⟩ = some (.slice Av l.length cv) ∧ w'.cell? ⟨gbE, 0, none⟩ = some (.int .i64 et) ∧ w'.cell? ⟨gbE, 1, none⟩ = some (.int .i64 ek) ∧ w'.cell? ⟨gbE, 2, none⟩ = some (.string ed)) (ds := []) #[false, false, false, false, false, false, false, false, false, false, false, false, false] (by kernel_rfl) rfl rfl ⟨bc (w := w4) BK 3, bc (w := w4) BK 4, bc (w := w4) BK 5, bc (w := w4) BE 0, bc (w := w4) BE 1, bc (w := w4) BE 2⟩ (fun hHeld => ?_)
        have n0_ := Aside0.mk (blk_drew BK.out)
        have n1_ := Aside0.mk (blk_drew BE.out)
        have n2_ := Aside0.mk (Kd.R_drew HO.out)
        have n3_ := Aside0.mk (below_drew1 HB.out)
        clear BK BE HO HB
        revert n0_ n1_ n2_ n3_
        intro BK BE HO HB
        generalize w4.drew = w5 at BK BE HO HB hHeld ⊢
        refine pure_ (i := 0) (N := some 41) (v := ?_) (a' := ?_) #[true, false, false, false, false, false, false, false, false, false, false, false, false] rfl rfl (by kernel_rfl) (fun _ _ _ h => h) (Or.inl ⟨by rfl, ?_⟩) ?_ ?_
        rotate_left
        · intro w'
          go_simp
          with_reducible rfl
        rotate_left
        · simp only [Act.put, List.setIfInBounds_toArray, List.set_cons_zero, List.set_cons_succ, i64_w, i32_w]
          rfl
        refine pure_ (i := 1) (N := some 42) (v := ?_) (a' := ?_) #[true, true, false, false, false, false, false, false, false, false, false, false, false] rfl rfl (by kernel_rfl) (fun _ _ _ h => h) (Or.inl ⟨by rfl, ?_⟩) ?_ ?_
        rotate_left
        · intro w'
          go_simp
          with_reducible rfl
        rotate_left
        · simp only [Act.put, List.setIfInBounds_toArray, List.set_cons_zero, List.set_cons_succ, i64_w, i32_w]
          rfl
        refine pure_ (i := 2) (N := some 43) (v := ?_) (a' := ?_) #[true, true, true, false, false, false, false, false, false, false, false, false, false] rfl rfl (by kernel_rfl) (fun _ _ _ h => h) (Or.inl ⟨by rfl, ?_⟩) ?_ ?_
        rotate_left
        · intro w'
          go_simp
          with_reducible rfl
        rotate_left
        · simp only [Act.put, List.setIfInBounds_toArray, List.set_cons_zero, List.set_cons_succ, i64_w, i32_w]
          rfl
        refine pure_ (i := 4) (N := some 45) (v := ?_) (a' := ?_) #[true, true, true, false, true, false, false, false, false, false, false, false, false] rfl rfl (by kernel_rfl) (fun _ _ _ h => h) (Or.inl ⟨by rfl, ?_⟩) ?_ ?_
        rotate_left
        · intro w'
          go_simp
          with_reducible rfl
        rotate_left
        · simp only [Act.put, List.setIfInBounds_toArray, List.set_cons_zero, List.set_cons_succ, i64_w, i32_w]
          rfl
        refine take_ (i := 3) (N := some 44) (v := ?_) (a' := ?_) #[true, true, true, true, true, false, false, false, false, false, false, false, false] rfl rfl (by kernel_rfl) (fun _ _ _ h => h) (Or.inl ⟨by rfl, ?_⟩) hHeld ?_ ?_
        rotate_left
        · rintro w' ⟨s0, s1, s2, s3, s4, s5⟩
          go_simp
          with_reducible rfl
        rotate_left
        · simp only [Act.put, List.setIfInBounds_toArray, List.set_cons_zero, List.set_cons_succ, i64_w, i32_w]
          rfl
        refine take_ (i := 5) (N := some 46) (v := ?_) (a' := ?_) #[true, true, true, true, true, true, false, false, false, false, false, false, false] rfl rfl (by kernel_rfl) (fun _ _ _ h => h) (Or.inl ⟨by rfl, ?_⟩) hHeld ?_ ?_
        rotate_left
        · rintro w' ⟨s0, s1, s2, s3, s4, s5⟩
          go_simp
          with_reducible rfl
        rotate_left
        · simp only [Act.put, List.setIfInBounds_toArray, List.set_cons_zero, List.set_cons_succ, i64_w, i32_w]
          rfl
        refine join_ (σ := Value × Nat) 2 #[true, true, true, true, true, true, true, true, true, true, true, false, false] (fun s_ => [(47, (.tuple #[.agg #[.int .i64 ps, .int .i64 pu, s_.1], .bool pok])), (11, .pointer (some ⟨s_.2, 0, none⟩)), (40, (.tuple #[.agg #[.int .i64 ps, .int .i64 pu, s_.1], .bool pok])), (48, .agg #[.int .i64 ps, .int .i64 pu, s_.1]), (49, .bool pok)]) (fun s_ w' => (w'.cell? ⟨g, 3, none⟩ = some (.int .i64 s) ∧ w'.cell? ⟨g, 4, none⟩ = some (.int .i64 u) ∧ w'.cell? ⟨g, 5, none⟩ = some (.slice Av l.length cv) ∧ w'.cell? ⟨gbE, 0, none⟩ = some (.int .i64 et) ∧ w'.cell? ⟨gbE, 1, none⟩ = some (.int .i64 ek) ∧ w'.cell? ⟨gbE, 2, none⟩ = some (.string ed)) ∧ Kd.R k89 89 w' w0.heap.size (fun k => k ≠ g ∧ k ≠ s_.2) s_.1 pl ∧ Kd.R k89 89 w' w0.heap.size (fun k => k ≠ g ∧ k ≠ s_.2) (.slice Av l.length cv) l ∧ w'.heap[g]? = some (.cells #[.int .i64 n, .int .i64 t, .int .i64 v, .int .i64 s, .int .i64 u, (.slice Av l.length cv)] 42 (0, 0)) ∧ w'.heap[s_.2]? = some (.cells #[.int .i64 0, .int .i64 0, .slice none 0 0] 40 (0, 0)) ∧ w0.heap.size ≤ s_.2 ∧ g ≠ s_.2 ∧ s_.2 ≠ g ∧ gbE ≠ s_.2 ∧ s_.2 ≠ gbE ∧ Below w0.heap.size w0 w') ?_ ?_
        rotate_left
        · intro hCont
          refine two_ (i := 6) (j := 10) (Ni := some 47) (Nj := some 11) #[true, true, true, true, true, true, true, false, false, false, false, false, false] #[true, true, true, true, true, true, false, false, false, false, true, false, false] rfl rfl rfl rfl (by kernel_rfl) (by decide) (by decide) (fun K hK => ?_) (fun K hK => ?_)
          · skip
            refine goes_ Try.func64 (by kernel_rfl) rfl #[.agg #[.int .i64 s, .int .i64 u, .slice Av l.length cv], .int .i64 ei, .agg #[.int .i64 et, .int .i64 ek, .string ed]] (by rfl) rfl rfl (by (try simp only [List.map_toArray, List.map_cons, List.map_nil]); first | done | rfl) ?_
            with_reducible refine (impl_LogPut.calls k s u _ _ l ei et ek ed ps pu pl pok _ ?side1 ?side2 A3.out).mono ?_
            (case side1 => exact (Kd.R_reads' HO.out).2.2)
            (case side2 => exact (Kd.R_reads' HO.out).2.1)
            rintro e w6 ⟨v2, rfl, ho, hb⟩
            refine ⟨_, rfl, ?_⟩
            have n0_ := bb BK hb
            have n1_ := bb BE hb
            have n2_ := Aside0.mk (Kd.R_lower (Kd.R_newB ho BK.out) (below_size HB.out))
            have n3_ := Aside0.mk (below_step HB.out hb)
            have n5_ := rb HO hb
            clear BK BE HO HB
            revert n0_ n1_ n2_ n3_ n5_
            intro BK BE HP HB HO
            clear hb ho
            refine hK.out _ _ ⟨bc BK 3, bc BK 4, bc BK 5, bc BE 0, bc BE 1, bc BE 2⟩ (fun hHeld => ?_)
            clear hK K
            refine norm_ (a' := ?_) ?_ ?_
            rotate_left
            · show Act.put _ (some 47) _ = _
              simp only [Act.put, List.setIfInBounds_toArray, List.set_cons_zero, List.set_cons_succ, i64_w, i32_w]
              rfl
            refine pure_ (i := 7) (N := some 40) (v := ?_) (a' := ?_) #[true, true, true, true, true, true, true, true, false, false, false, false, false] rfl rfl (by kernel_rfl) (fun _ _ _ h => h) (Or.inl ⟨by rfl, ?_⟩) ?_ ?_
            rotate_left
            · intro w'
              go_simp
              with_reducible rfl
            rotate_left
            · simp only [Act.put, List.setIfInBounds_toArray, List.set_cons_zero, List.set_cons_succ, i64_w, i32_w]
              rfl
            refine pure_ (i := 8) (N := some 48) (v := ?_) (a' := ?_) #[true, true, true, true, true, true, true, true, true, false, false, false, false] rfl rfl (by kernel_rfl) (fun _ _ _ h => h) (Or.inl ⟨by rfl, ?_⟩) ?_ ?_
            rotate_left
            · intro w'
              go_simp
              with_reducible rfl
            rotate_left
            · simp only [Act.put, List.setIfInBounds_toArray, List.set_cons_zero, List.set_cons_succ, i64_w, i32_w]
              rfl
            refine pure_ (i := 9) (N := some 49) (v := ?_) (a' := ?_) #[true, true, true, true, true, true, true, true, true, true, false, false, false] rfl rfl (by kernel_rfl) (fun _ _ _ h => h) (Or.inl ⟨by rfl, ?_⟩) ?_ ?_
            rotate_left
            · intro w'
              go_simp
              with_reducible rfl
            rotate_left
            · simp only [Act.put, List.setIfInBounds_toArray, List.set_cons_zero, List.set_cons_succ, i64_w, i32_w]
              rfl
            refine one_ (i := 10) (N := some 11) #[true, true, true, true, true, true, true, true, true, true, true, false, false] rfl rfl (by kernel_rfl) (by decide) (fun K hK => ?_)
            refine box_step ?hg (N := 11) ?hd (cs := #[.int .i64 0, .int .i64 0, .slice none 0 0]) (t := 40) ?hr ?_; (case hd => rfl); (case hg => rfl); (case hr => first | (go_simp; done) | (go_simp; rfl))
            intro gbL hg w7 hbox hb
            have n0_ := bb BK hb
            have n1_ := bb BE hb
            have n2_ := Aside0.mk (Kd.R_below (Kd.R_elderB HO.out gbL (Nat.le_of_eq hg.symm)) hb)
            have n10_ := Aside0.mk (Kd.R_below (Kd.R_elderB HP.out gbL (Nat.le_of_eq hg.symm)) hb)
            have n3_ := Aside0.mk (below_step HB.out hb)
            have n4_ := Aside0.mk hbox
            have n5_ := Aside0.mk ((by rw [hg]; exact (below_size HB.out) : w0.heap.size ≤ gbL))
            have n6_ := Aside0.mk ((by rw [hg]; exact Nat.ne_of_lt (blk_lt BK.out) : g ≠ gbL))
            have n7_ := Aside0.mk ((by rw [hg]; exact Nat.ne_of_gt (blk_lt BK.out) : gbL ≠ g))
            have n8_ := Aside0.mk ((by rw [hg]; exact Nat.ne_of_lt (blk_lt BE.out) : gbE ≠ gbL))
            have n9_ := Aside0.mk ((by rw [hg]; exact Nat.ne_of_gt (blk_lt BE.out) : gbL ≠ gbE))
            clear BK BE HO HB HP
            revert n0_ n1_ n2_ n3_ n4_ n5_ n6_ n7_ n8_ n9_ n10_
            intro BK BE HO HP HB BL GL NL1 NL2 NL3 NL4
            clear hb hbox hg
            refine hK.out _ _ ⟨bc BK 3, bc BK 4, bc BK 5, bc BE 0, bc BE 1, bc BE 2⟩ (fun hHeld => ?_)
            clear hK K
            refine norm_ (a' := ?_) ?_ ?_
            rotate_left
            · show Act.put _ (some 11) _ = _
              simp only [Act.put, List.setIfInBounds_toArray, List.set_cons_zero, List.set_cons_succ, i64_w, i32_w]
              rfl
            exact norm_ (by simp only [putAll, Act.put, zA, zB, zC]) (hCont (v2, gbL) _ ⟨hHeld, (Kd.R_mono HP.out (fun _ hk => ⟨hk.1.2, hk.2⟩)), Kd.R_mono HO.out (fun _ hk => ⟨hk.1.1, hk.2⟩), BK.out, BL.out, GL.out, NL1.out, NL2.out, NL3.out, NL4.out, HB.out⟩)
          · skip
            refine box_step ?hg (N := 11) ?hd (cs := #[.int .i64 0, .int .i64 0, .slice none 0 0]) (t := 40) ?hr ?_; (case hd => rfl); (case hg => rfl); (case hr => first | (go_simp; done) | (go_simp; rfl))
            intro gbL hg w7 hbox hb
            have n0_ := bb BK hb
            have n1_ := bb BE hb
            have n2_ := Aside0.mk (Kd.R_below (Kd.R_elderB HO.out gbL (Nat.le_of_eq hg.symm)) hb)
            have n3_ := Aside0.mk (below_step HB.out hb)
            have n4_ := Aside0.mk hbox
            have n5_ := Aside0.mk ((by rw [hg]; exact (below_size HB.out) : w0.heap.size ≤ gbL))
            have n6_ := Aside0.mk ((by rw [hg]; exact Nat.ne_of_lt (blk_lt BK.out) : g ≠ gbL))
            have n7_ := Aside0.mk ((by rw [hg]; exact Nat.ne_of_gt (blk_lt BK.out) : gbL ≠ g))
            have n8_ := Aside0.mk ((by rw [hg]; exact Nat.ne_of_lt (blk_lt BE.out) : gbE ≠ gbL))
            have n9_ := Aside0.mk ((by rw [hg]; exact Nat.ne_of_gt (blk_lt BE.out) : gbL ≠ gbE))
            clear BK BE HO HB
            revert n0_ n1_ n2_ n3_ n4_ n5_ n6_ n7_ n8_ n9_
            intro BK BE HO HB BL GL NL1 NL2 NL3 NL4
            clear hb hbox hg
            refine hK.out _ _ ⟨bc BK 3, bc BK 4, bc BK 5, bc BE 0, bc BE 1, bc BE 2⟩ (fun hHeld => ?_)
            clear hK K
            refine norm_ (a' := ?_) ?_ ?_
            rotate_left
            · show Act.put _ (some 11) _ = _
              simp only [Act.put, List.setIfInBounds_toArray, List.set_cons_zero, List.set_cons_succ, i64_w, i32_w]
              rfl
            refine one_ (i := 6) (N := some 47) #[true, true, true, true, true, true, true, false, false, false, true, false, false] rfl rfl (by kernel_rfl) (by decide) (fun K hK => ?_)
            refine goes_ Try.func64 (by kernel_rfl) rfl #[.agg #[.int .i64 s, .int .i64 u, .slice Av l.length cv], .int .i64 ei, .agg #[.int .i64 et, .int .i64 ek, .string ed]] (by rfl) rfl rfl (by (try simp only [List.map_toArray, List.map_cons, List.map_nil]); first | done | rfl) ?_
            with_reducible refine (impl_LogPut.calls k s u _ _ l ei et ek ed ps pu pl pok _ ?side1 ?side2 A3.out).mono ?_
            (case side1 => exact (Kd.R_reads' HO.out).2.2)
            (case side2 => exact (Kd.R_reads' HO.out).2.1)
            rintro e w6 ⟨v2, rfl, ho, hb⟩
            refine ⟨_, rfl, ?_⟩
            have n0_ := bb BK hb
            have n1_ := bb BE hb
            have n2_ := Aside0.mk (Kd.R_lower (Kd.R_newB (Kd.R_newB ho BK.out) BL.out) (below_size HB.out))
            have n3_ := Aside0.mk (below_step HB.out hb)
            have n5_ := rb HO hb
            have n4_ := bb BL hb
            clear BK BE HO HB BL
            revert n0_ n1_ n2_ n3_ n5_ n4_
            intro BK BE HP HB HO BL
            clear hb ho
            refine hK.out _ _ ⟨bc BK 3, bc BK 4, bc BK 5, bc BE 0, bc BE 1, bc BE 2⟩ (fun hHeld => ?_)
            clear hK K
            refine norm_ (a' := ?_) ?_ ?_
            rotate_left
            · show Act.put _ (some 47) _ = _
              simp only [Act.put, List.setIfInBounds_toArray, List.set_cons_zero, List.set_cons_succ, i64_w, i32_w]
              rfl
            refine pure_ (i := 7) (N := some 40) (v := ?_) (a' := ?_) #[true, true, true, true, true, true, true, true, false, false, true, false, false] rfl rfl (by kernel_rfl) (fun _ _ _ h => h) (Or.inl ⟨by rfl, ?_⟩) ?_ ?_
            rotate_left
            · intro w'
              go_simp
              with_reducible rfl
            rotate_left
            · simp only [Act.put, List.setIfInBounds_toArray, List.set_cons_zero, List.set_cons_succ, i64_w, i32_w]
              rfl
            refine pure_ (i := 8) (N := some 48) (v := ?_) (a' := ?_) #[true, true, true, true, true, true, true, true, true, false, true, false, false] rfl rfl (by kernel_rfl) (fun _ _ _ h => h) (Or.inl ⟨by rfl, ?_⟩) ?_ ?_
            rotate_left
            · intro w'
              go_simp
              with_reducible rfl
            rotate_left
            · simp only [Act.put, List.setIfInBounds_toArray, List.set_cons_zero, List.set_cons_succ, i64_w, i32_w]
              rfl
            refine pure_ (i := 9) (N := some 49) (v := ?_) (a' := ?_) #[true, true, true, true, true, true, true, true, true, true, true, false, false] rfl rfl (by kernel_rfl) (fun _ _ _ h => h) (Or.inl ⟨by rfl, ?_⟩) ?_ ?_
            rotate_left
            · intro w'
              go_simp
              with_reducible rfl
            rotate_left
            · simp only [Act.put, List.setIfInBounds_toArray, List.set_cons_zero, List.set_cons_succ, i64_w, i32_w]
              rfl
            exact norm_ (by simp only [putAll, Act.put, zA, zB, zC]) (hCont (v2, gbL) _ ⟨hHeld, (Kd.R_mono HP.out (fun _ hk => ⟨hk.1.2, hk.2⟩)), Kd.R_mono HO.out (fun _ hk => ⟨hk.1.1, hk.2⟩), BK.out, BL.out, GL.out, NL1.out, NL2.out, NL3.out, NL4.out, HB.out⟩)
        rintro ⟨v2, gbL⟩ w8 ⟨hS_, h0_, h9_, h1_, h2_, h3_, h4_, h5_, h6_, h7_, h8_⟩
        clear BK BE HO HB hHeld
        have HP : Aside0 (Kd.R k89 89 w8 w0.heap.size (fun k => k ≠ g ∧ k ≠ gbL) v2 pl) := ⟨h0_⟩
        have HO : Aside0 (Kd.R k89 89 w8 w0.heap.size (fun k => k ≠ g ∧ k ≠ gbL) (.slice Av l.length cv) l) := ⟨h9_⟩
        have BK : Aside0 (w8.heap[g]? = some (.cells #[.int .i64 n, .int .i64 t, .int .i64 v, .int .i64 s, .int .i64 u, (.slice Av l.length cv)] 42 (0, 0))) := ⟨h1_⟩
        have BL : Aside0 (w8.heap[gbL]? = some (.cells #[.int .i64 0, .int .i64 0, .slice none 0 0] 40 (0, 0))) := ⟨h2_⟩
        have GL : Aside0 (w0.heap.size ≤ gbL) := ⟨h3_⟩
        have NL1 : Aside0 (g ≠ gbL) := ⟨h4_⟩
        have NL2 : Aside0 (gbL ≠ g) := ⟨h5_⟩
        have NL3 : Aside0 (gbE ≠ gbL) := ⟨h6_⟩
        have NL4 : Aside0 (gbL ≠ gbE) := ⟨h7_⟩
        have HB : Aside0 (Below w0.heap.size w0 w8) := ⟨h8_⟩
        clear h0_ h1_ h2_ h3_ h4_ h5_ h6_ h7_ h8_ h9_
        have hHeld : w8.cell? ⟨g, 3, none⟩ = some (.int .i64 s) ∧ w8.cell? ⟨g, 4, none⟩ = some (.int .i64 u) ∧ w8.cell? ⟨g, 5, none⟩ = some (.slice Av l.length cv) ∧ w8.cell? ⟨gbE, 0, none⟩ = some (.int .i64 et) ∧ w8.cell? ⟨gbE, 1, none⟩ = some (.int .i64 ek) ∧ w8.cell? ⟨gbE, 2, none⟩ = some (.string ed) := hS_
        clear hS_
        obtain ⟨Aw, cw, ew⟩ := Kd.R_slice HP.out
        subst ew
        refine norm_ (a' := ?_) ?_ ?_
        rotate_left
        · simp only [putAll, Act.put, zA, zB, zC]
          rfl
        refine one_ (i := 11) (N := none) #[true, true, true, true, true, true, true, true, true, true, true, true, false] rfl rfl (by kernel_rfl) (by decide) (fun K hK => ?_)
        have hs0 : w8.cell? ⟨gbL, 0, none⟩ = some (.int .i64 0) := bc BL 0
        have hfs0 := blk_frozen BL.out 0
        have hs1 : w8.cell? ⟨gbL, 1, none⟩ = some (.int .i64 0) := bc BL 1
        have hfs1 := blk_frozen BL.out 1
        have hs2 : w8.cell? ⟨gbL, 2, none⟩ = some (.slice none 0 0) := bc BL 2
        have hfs2 := blk_frozen BL.out 2
        refine skip_ (w1 := ?_) (by rfl) rfl ?_ ?_
        rotate_left
        · go_simp
          rfl
        refine hK.out _ _ ⟨((cell_far (p := ⟨gbL, _, none⟩) NL1.out _).trans ((cell_far (p := ⟨gbL, _, none⟩) NL1.out _).trans ((cell_far (p := ⟨gbL, _, none⟩) NL1.out _).trans (hHeld.1)))), ((cell_far (p := ⟨gbL, _, none⟩) NL1.out _).trans ((cell_far (p := ⟨gbL, _, none⟩) NL1.out _).trans ((cell_far (p := ⟨gbL, _, none⟩) NL1.out _).trans (hHeld.2.1)))), ((cell_far (p := ⟨gbL, _, none⟩) NL1.out _).trans ((cell_far (p := ⟨gbL, _, none⟩) NL1.out _).trans ((cell_far (p := ⟨gbL, _, none⟩) NL1.out _).trans (hHeld.2.2.1)))), ((cell_far (p := ⟨gbL, _, none⟩) NL3.out _).trans ((cell_far (p := ⟨gbL, _, none⟩) NL3.out _).trans ((cell_far (p := ⟨gbL, _, none⟩) NL3.out _).trans (hHeld.2.2.2.1)))), ((cell_far (p := ⟨gbL, _, none⟩) NL3.out _).trans ((cell_far (p := ⟨gbL, _, none⟩) NL3.out _).trans ((cell_far (p := ⟨gbL, _, none⟩) NL3.out _).trans (hHeld.2.2.2.2.1)))), ((cell_far (p := ⟨gbL, _, none⟩) NL3.out _).trans ((cell_far (p := ⟨gbL, _, none⟩) NL3.out _).trans ((cell_far (p := ⟨gbL, _, none⟩) NL3.out _).trans (hHeld.2.2.2.2.2))))⟩ (fun hHeld2 => ?_)
        clear hK K hHeld hHeld2 hs0 hs1 hs2 hfs0 hfs1 hfs2
        refine pure_ (i := 12) (N := some 10) (v := ?_) (a' := ?_) #[true, true, true, true, true, true, true, true, true, true, true, true, true] rfl rfl (by kernel_rfl) (fun _ _ _ h => h) (Or.inl ⟨by rfl, ?_⟩) ?_ ?_
        rotate_left
        · intro w'
          go_simp
          with_reducible rfl
        rotate_left
        · simp only [Act.put, List.setIfInBounds_toArray, List.set_cons_zero, List.set_cons_succ, i64_w, i32_w]
          rfl
        refine done_ (by kernel_rfl) ?_
        generalize hW : (((w8.setCell ⟨gbL, 0, none⟩ (.int .i64 ps)).setCell ⟨gbL, 1, none⟩ (.int .i64 pu)).setCell ⟨gbL, 2, none⟩ (.slice Aw pl.length cw)) = w9
        have n0_ : Aside0 (w9.heap[g]? = some (.cells #[.int .i64 n, .int .i64 t, .int .i64 v, .int .i64 s, .int .i64 u, (.slice Av l.length cv)] 42 (0, 0))) := ⟨by rw [← hW]; exact blk_other2 (blk_other2 (blk_other2 BK.out NL1.out _) NL1.out _) NL1.out _⟩
        have n1_ : Aside0 (w9.heap[gbL]? = some (.cells #[.int .i64 ps, .int .i64 pu, .slice Aw pl.length cw] 40 (0, 0))) := ⟨by rw [← hW]; exact blk_put (blk_put (blk_put BL.out 0 _ rfl) 1 _ rfl) 2 _ rfl⟩
        have n2_ : Aside0 (Kd.R k89 89 w9 w0.heap.size (fun k => k ≠ g ∧ k ≠ gbL) (.slice Aw pl.length cw) pl) := ⟨by rw [← hW]; exact Kd.R_far (Kd.R_far (Kd.R_far HP.out (fun _ hk => hk.2) _) (fun _ hk => hk.2) _) (fun _ hk => hk.2) _⟩
        have n3_ : Aside0 (Below w0.heap.size w0 w9) := ⟨by rw [← hW]; exact below_set (below_set (below_set HB.out GL.out) GL.out) GL.out⟩
        have n4_ : Aside0 (Kd.R k89 89 w9 w0.heap.size (fun k => k ≠ g) (.slice Av l.length cv) l) := ⟨by rw [← hW]; exact Kd.R_mono (Kd.R_far (Kd.R_far (Kd.R_far HO.out (fun _ hk => hk.2) _) (fun _ hk => hk.2) _) (fun _ hk => hk.2) _) (fun _ hk => hk.1)⟩
        clear BK BL HP HB HO hW
        revert n0_ n1_ n2_ n3_ n4_
        intro BK BL HP HB HO
        by_cases c4 : pok = true
        · subst c4
          rw [if_pos rfl] at h
          simp only [Option.some.injEq, Prod.mk.injEq] at h
          obtain ⟨rfl, rfl, rfl, rfl, rfl, rfl⟩ := h
          have hg3 : w9.cell? ⟨g, 3, none⟩ = some (.int .i64 s) := bc BK 3
          have hgf3 := blk_frozen BK.out 3
          have hg4 : w9.cell? ⟨g, 4, none⟩ = some (.int .i64 u) := bc BK 4
          have hgf4 := blk_frozen BK.out 4
          have hg5 : w9.cell? ⟨g, 5, none⟩ = some (.slice Av l.length cv) := bc BK 5
          have hgf5 := blk_frozen BK.out 5
          have hl0 : w9.cell? ⟨gbL, 0, none⟩ = some (.int .i64 ps) := bc BL 0
          have hl1 : w9.cell? ⟨gbL, 1, none⟩ = some (.int .i64 pu) := bc BL 1
          have hl2 : w9.cell? ⟨gbL, 2, none⟩ = some (.slice Aw pl.length cw) := bc BL 2
          have hn1 := NL1.out
          have hn2 := NL2.out
          go_wp2_with (fail)
          go_ret
          exact ⟨rfl, ⟨.slice Aw pl.length cw, blk_put (blk_put (blk_put BK.out 3 _ rfl) 4 _ rfl) 5 _ rfl, HG.out, Kd.R_mono (Kd.R_far (Kd.R_far (Kd.R_far HP.out (fun _ hk => hk.1) _) (fun _ hk => hk.1) _) (fun _ hk => hk.1) _) (fun _ hk => hk.1)⟩, below_set (below_set (below_set HB.out HG.out) HG.out) HG.out⟩
        · replace c4 := Bool.eq_false_iff.mpr c4
          subst c4
          rw [if_neg (by simp)] at h
          simp only [Option.some.injEq, Prod.mk.injEq] at h
          obtain ⟨rfl, rfl, rfl, rfl, rfl, rfl⟩ := h
          go_wp2_with (fail)
          go_ret
          exact ⟨rfl, ⟨.slice Av l.length cv, BK.out, HG.out, HO.out⟩, HB.out⟩
      · replace c3 := Bool.eq_false_iff.mpr c3
        subst c3
        rw [if_neg (by simp)] at h
        simp only [Option.some.injEq, Prod.mk.injEq] at h
        obtain ⟨rfl, rfl, rfl, rfl, rfl, rfl⟩ := h
        go_enter Try.func39, Try.ntmps39
        go_wp2_with (first | (go_at_call 37; (with_reducible refine (impl_twoNumbers.calls k text _ a b true _ A1.out).mono ?_); rintro e w1 ⟨rfl, hb⟩; have n0_ := bb BK hb; have n1_ := rb HO hb; have n2_ := Aside0.mk (below_step (bt HB) hb); clear BK HO HB hb; revert n0_ n1_ n2_; intro BK HO HB; have hc1 : w1.cell? ⟨g, 1, none⟩ = some (.int .i64 t) := bc BK 1; have hf1 := blk_frozen BK.out 1; have hc2 : w1.cell? ⟨g, 2, none⟩ = some (.int .i64 v) := bc BK 2; have hf2 := blk_frozen BK.out 2) | (go_at_call 62; (with_reducible refine (impl_hardOk.calls a b _ _ I1.out).mono ?_); rintro e w2 ⟨rfl, ⟨nd1, rfl⟩⟩) | (go_at_call 63; (with_reducible refine (impl_ReadEntry.calls k text ei et ek ed false _ A2.out).mono ?_); rintro e w2 ⟨rfl, hb⟩; have n0_ := bb BK hb; have n1_ := rb HO hb; have n2_ := Aside0.mk (below_step (bt HB) hb); clear BK HO HB hb; revert n0_ n1_ n2_; intro BK HO HB) | ((with_reducible refine gate_dst (N := 9) rfl ?_); refine box_event ?hg (N := 9) ?hd (cs := #[.int .i64 0, .int .i64 0, .string (⟨#[]⟩ : ByteArray)]) (t := 89) ?hr ?_; (case hd => rfl); (case hg => rfl); (case hr => first | (go_simp; done) | (go_simp; rfl)); intro gbE hg w3 hbox hb; have n0_ := bb BK hb; have n1_ := Aside0.mk (Kd.R_below (Kd.R_elderB (rk HO) gbE (Nat.le_of_eq hg.symm)) hb); have n2_ := Aside0.mk (below_step (bt HB) hb); have n3_ := Aside0.mk hbox; have n4_ := Aside0.mk ((by rw [hg]; exact (below_size (bt HB)) : w0.heap.size ≤ gbE)); have n5_ := Aside0.mk ((by rw [hg]; exact Nat.ne_of_lt (blk_lt (bk BK)) : g ≠ gbE)); have n6_ := Aside0.mk ((by rw [hg]; exact Nat.ne_of_gt (blk_lt (bk BK)) : gbE ≠ g)); clear BK HO HB hb hbox hg; revert n0_ n1_ n2_ n3_ n4_ n5_ n6_; intro BK HO HB BE GE NE1 NE2; have hce0 : w3.cell? ⟨gbE, 0, none⟩ = some (.int .i64 0) := bc BE 0; have hce1 : w3.cell? ⟨gbE, 1, none⟩ = some (.int .i64 0) := bc BE 1; have hce2 : w3.cell? ⟨gbE, 2, none⟩ = some (.string (⟨#[]⟩ : ByteArray)) := bc BE 2; have hfe0 := blk_frozen BE.out 0; have hfe1 := blk_frozen BE.out 1; have hfe2 := blk_frozen BE.out 2))
        go_ret
        exact ⟨rfl, ⟨V, blk_other2 (blk_other2 (blk_other2 BK.out NE1.out _) NE1.out _) NE1.out _, HG.out, Kd.R_mono (Kd.R_far (Kd.R_far (Kd.R_far HO.out (fun _ hk => hk.2) _) (fun _ hk => hk.2) _) (fun _ hk => hk.2) _) (fun _ hk => hk.1)⟩, below_set (below_set (below_set HB.out GE.out) GE.out) GE.out⟩
  · replace c0 := Bool.eq_false_iff.mpr c0
    subst c0
    rw [if_neg (by simp)] at h
    clear i1
    obtain ⟨⟨ei, et, ek, ed, eok⟩, A20, h⟩ := Option.bind_eq_some_iff.mp h
    simp only [] at h
    have A2 := Aside0.mk A20
    clear A20
    by_cases c3 : eok = true
    · subst c3
      rw [if_pos rfl] at h
      obtain ⟨⟨ps, pu, pl, pok⟩, A30, h⟩ := Option.bind_eq_some_iff.mp h
      simp only [] at h
      have A3 := Aside0.mk A30
      clear A30
      obtain ⟨Av, cv, ev⟩ := Kd.R_slice HO.out
      subst ev
      go_enter Try.func39, Try.ntmps39
      go_wp2_with (first | (go_at_call 37; (with_reducible refine (impl_twoNumbers.calls k text _ a b false _ A1.out).mono ?_); rintro e w1 ⟨rfl, hb⟩; have n0_ := bb BK hb; have n1_ := rb HO hb; have n2_ := Aside0.mk (below_step (bt HB) hb); clear BK HO HB hb; revert n0_ n1_ n2_; intro BK HO HB; have hc1 : w1.cell? ⟨g, 1, none⟩ = some (.int .i64 t) := bc BK 1; have hf1 := blk_frozen BK.out 1; have hc2 : w1.cell? ⟨g, 2, none⟩ = some (.int .i64 v) := bc BK 2; have hf2 := blk_frozen BK.out 2) | (go_at_call 63; (with_reducible refine (impl_ReadEntry.calls k text ei et ek ed true _ A2.out).mono ?_); rintro e w2 ⟨rfl, hb⟩; have n0_ := bb BK hb; have n1_ := rb HO hb; have n2_ := Aside0.mk (below_step (bt HB) hb); clear BK HO HB hb; revert n0_ n1_ n2_; intro BK HO HB) | ((with_reducible refine gate_dst (N := 9) rfl ?_); refine box_event ?hg (N := 9) ?hd (cs := #[.int .i64 0, .int .i64 0, .string (⟨#[]⟩ : ByteArray)]) (t := 89) ?hr ?_; (case hd => rfl); (case hg => rfl); (case hr => first | (go_simp; done) | (go_simp; rfl)); intro gbE hg w3 hbox hb; have n0_ := bb BK hb; have n1_ := Aside0.mk (Kd.R_below (Kd.R_elderB (rk HO) gbE (Nat.le_of_eq hg.symm)) hb); have n2_ := Aside0.mk (below_step (bt HB) hb); have n3_ := Aside0.mk hbox; have n4_ := Aside0.mk ((by rw [hg]; exact (below_size (bt HB)) : w0.heap.size ≤ gbE)); have n5_ := Aside0.mk ((by rw [hg]; exact Nat.ne_of_lt (blk_lt (bk BK)) : g ≠ gbE)); have n6_ := Aside0.mk ((by rw [hg]; exact Nat.ne_of_gt (blk_lt (bk BK)) : gbE ≠ g)); clear BK HO HB hb hbox hg; revert n0_ n1_ n2_ n3_ n4_ n5_ n6_; intro BK HO HB BE GE NE1 NE2; have hce0 : w3.cell? ⟨gbE, 0, none⟩ = some (.int .i64 0) := bc BE 0; have hce1 : w3.cell? ⟨gbE, 1, none⟩ = some (.int .i64 0) := bc BE 1; have hce2 : w3.cell? ⟨gbE, 2, none⟩ = some (.string (⟨#[]⟩ : ByteArray)) := bc BE 2; have hfe0 := blk_frozen BE.out 0; have hfe1 := blk_frozen BE.out 1; have hfe2 := blk_frozen BE.out 2))
      generalize hW : (((w3.setCell ⟨gbE, 0, none⟩ (.int .i64 et)).setCell ⟨gbE, 1, none⟩ (.int .i64 ek)).setCell ⟨gbE, 2, none⟩ (.string ed)) = w4
      have n0_ : Aside0 (w4.heap[g]? = some (.cells #[.int .i64 n, .int .i64 t, .int .i64 v, .int .i64 s, .int .i64 u, (.slice Av l.length cv)] 42 (0, 0))) := ⟨by rw [← hW]; exact blk_other2 (blk_other2 (blk_other2 BK.out NE1.out _) NE1.out _) NE1.out _⟩
      have n1_ : Aside0 (w4.heap[gbE]? = some (.cells #[.int .i64 et, .int .i64 ek, .string ed] 89 (0, 0))) := ⟨by rw [← hW]; exact blk_put (blk_put (blk_put BE.out 0 _ rfl) 1 _ rfl) 2 _ rfl⟩
      have n2_ : Aside0 (Kd.R k89 89 w4 w0.heap.size (fun k => k ≠ g ∧ k ≠ gbE) (.slice Av l.length cv) l) := ⟨by rw [← hW]; exact Kd.R_far (Kd.R_far (Kd.R_far HO.out (fun _ hk => hk.2) _) (fun _ hk => hk.2) _) (fun _ hk => hk.2) _⟩
      have n3_ : Aside0 (Below w0.heap.size w0 w4) := ⟨by rw [← hW]; exact below_set (below_set (below_set HB.out GE.out) GE.out) GE.out⟩
      (try clear hce0 hce1 hce2 hfe0 hfe1 hfe2)
      clear BK BE HO HB hW
      revert n0_ n1_ n2_ n3_
      intro BK BE HO HB
      refine start_ (n := 13) (S := fun w' => w'.cell? ⟨g, 3, none⟩ = some (.int .i64 s) ∧ w'.cell? ⟨g, 4, none⟩ = some (.int .i64 u) ∧ w'.cell? ⟨g, 5, none⟩ = some (.slice Av l.length cv) ∧ w'.cell? ⟨gbE, 0, none⟩ = some (.int .i64 et) ∧ w'.cell? ⟨gbE, 1, none⟩ = some (.int .i64 ek) ∧ w'.cell? ⟨gbE, 2, none⟩ = some (.string ed)) (ds := []) #[false, false, false, false, false, false, false, false, false, false, false, false, false] (by kernel_rfl) rfl rfl ⟨bc (w := w4) BK 3, bc (w := w4) BK 4, bc (w := w4) BK 5, bc (w := w4) BE 0, bc (w := w4) BE 1, bc (w := w4) BE 2⟩ (fun hHeld => ?_)
      have n0_ := Aside0.mk (blk_drew BK.out)
      have n1_ := Aside0.mk (blk_drew BE.out)
      have n2_ := Aside0.mk (Kd.R_drew HO.out)
      have n3_ := Aside0.mk (below_drew1 HB.out)
      clear BK BE HO HB
      revert n0_ n1_ n2_ n3_
      intro BK BE HO HB
      generalize w4.drew = w5 at BK BE HO HB hHeld ⊢
      refine pure_ (i := 0) (N := some 41) (v := ?_) (a' := ?_) #[true, false, false, false, false, false, false, false, false, false, false, false, false] rfl rfl (by kernel_rfl) (fun _ _ _ h => h) (Or.inl ⟨by rfl, ?_⟩) ?_ ?_
      rotate_left
      · intro w'
        go_simp
        with_reducible rfl
      rotate_left
      · simp only [Act.put, List.setIfInBounds_toArray, List.set_cons_zero, List.set_cons_succ, i64_w, i32_w]
        rfl
      refine pure_ (i := 1) (N := some 42) (v := ?_) (a' := ?_) #[true, true, false, false, false, false, false, false, false, false, false, false, false] rfl rfl (by kernel_rfl) (fun _ _ _ h => h) (Or.inl ⟨by rfl, ?_⟩) ?_ ?_
      rotate_left
      · intro w'
        go_simp
        with_reducible rfl
      rotate_left
      · simp only [Act.put, List.setIfInBounds_toArray, List.set_cons_zero, List.set_cons_succ, i64_w, i32_w]
        rfl
      refine pure_ (i := 2) (N := some 43) (v := ?_) (a' := ?_) #[true, true, true, false, false, false, false, false, false, false, false, false, false] rfl rfl (by kernel_rfl) (fun _ _ _ h => h) (Or.inl ⟨by rfl, ?_⟩) ?_ ?_
      rotate_left
      · intro w'
        go_simp
        with_reducible rfl
      rotate_left
      · simp only [Act.put, List.setIfInBounds_toArray, List.set_cons_zero, List.set_cons_succ, i64_w, i32_w]
        rfl
      refine pure_ (i := 4) (N := some 45) (v := ?_) (a' := ?_) #[true, true, true, false, true, false, false, false, false, false, false, false, false] rfl rfl (by kernel_rfl) (fun _ _ _ h => h) (Or.inl ⟨by rfl, ?_⟩) ?_ ?_
      rotate_left
      · intro w'
        go_simp
        with_reducible rfl
      rotate_left
      · simp only [Act.put, List.setIfInBounds_toArray, List.set_cons_zero, List.set_cons_succ, i64_w, i32_w]
        rfl
      refine take_ (i := 3) (N := some 44) (v := ?_) (a' := ?_) #[true, true, true, true, true, false, false, false, false, false, false, false, false] rfl rfl (by kernel_rfl) (fun _ _ _ h => h) (Or.inl ⟨by rfl, ?_⟩) hHeld ?_ ?_
      rotate_left
      · rintro w' ⟨s0, s1, s2, s3, s4, s5⟩
        go_simp
        with_reducible rfl
      rotate_left
      · simp only [Act.put, List.setIfInBounds_toArray, List.set_cons_zero, List.set_cons_succ, i64_w, i32_w]
        rfl
      refine take_ (i := 5) (N := some 46) (v := ?_) (a' := ?_) #[true, true, true, true, true, true, false, false, false, false, false, false, false] rfl rfl (by kernel_rfl) (fun _ _ _ h => h) (Or.inl ⟨by rfl, ?_⟩) hHeld ?_ ?_
      rotate_left
      · rintro w' ⟨s0, s1, s2, s3, s4, s5⟩
        go_simp
        with_reducible rfl
      rotate_left
      · simp only [Act.put, List.setIfInBounds_toArray, List.set_cons_zero, List.set_cons_succ, i64_w, i32_w]
        rfl
      refine join_ (σ := Value × Nat) 2 #[true, true, true, true, true, true, true, true, true, true, true, false, false] (fun s_ => [(47, (.tuple #[.agg #[.int .i64 ps, .int .i64 pu, s_.1], .bool pok])), (11, .pointer (some ⟨s_.2, 0, none⟩)), (40, (.tuple #[.agg #[.int .i64 ps, .int .i64 pu, s_.1], .bool pok])), (48, .agg #[.int .i64 ps, .int .i64 pu, s_.1]), (49, .bool pok)]) (fun s_ w' => (w'.cell? ⟨g, 3, none⟩ = some (.int .i64 s) ∧ w'.cell? ⟨g, 4, none⟩ = some (.int .i64 u) ∧ w'.cell? ⟨g, 5, none⟩ = some (.slice Av l.length cv) ∧ w'.cell? ⟨gbE, 0, none⟩ = some (.int .i64 et) ∧ w'.cell? ⟨gbE, 1, none⟩ = some (.int .i64 ek) ∧ w'.cell? ⟨gbE, 2, none⟩ = some (.string ed)) ∧ Kd.R k89 89 w' w0.heap.size (fun k => k ≠ g ∧ k ≠ s_.2) s_.1 pl ∧ Kd.R k89 89 w' w0.heap.size (fun k => k ≠ g ∧ k ≠ s_.2) (.slice Av l.length cv) l ∧ w'.heap[g]? = some (.cells #[.int .i64 n, .int .i64 t, .int .i64 v, .int .i64 s, .int .i64 u, (.slice Av l.length cv)] 42 (0, 0)) ∧ w'.heap[s_.2]? = some (.cells #[.int .i64 0, .int .i64 0, .slice none 0 0] 40 (0, 0)) ∧ w0.heap.size ≤ s_.2 ∧ g ≠ s_.2 ∧ s_.2 ≠ g ∧ gbE ≠ s_.2 ∧ s_.2 ≠ gbE ∧ Below w0.heap.size w0 w') ?_ ?_
      rotate_left
      · intro hCont
        refine two_ (i := 6) (j := 10) (Ni := some 47) (Nj := some 11) #[true, true, true, true, true, true, true, false, false, false, false, false, false] #[true, true, true, true, true, true, false, false, false, false, true, false, false] rfl rfl rfl rfl (by kernel_rfl) (by decide) (by decide) (fun K hK => ?_) (fun K hK => ?_)
        · skip
          refine goes_ Try.func64 (by kernel_rfl) rfl #[.agg #[.int .i64 s, .int .i64 u, .slice Av l.length cv], .int .i64 ei, .agg #[.int .i64 et, .int .i64 ek, .string ed]] (by rfl) rfl rfl (by (try simp only [List.map_toArray, List.map_cons, List.map_nil]); first | done | rfl) ?_
          with_reducible refine (impl_LogPut.calls k s u _ _ l ei et ek ed ps pu pl pok _ ?side1 ?side2 A3.out).mono ?_
          (case side1 => exact (Kd.R_reads' HO.out).2.2)
          (case side2 => exact (Kd.R_reads' HO.out).2.1)
          rintro e w6 ⟨v2, rfl, ho, hb⟩
          refine ⟨_, rfl, ?_⟩
          have n0_ := bb BK hb
          have n1_ := bb BE hb
          have n2_ := Aside0.mk (Kd.R_lower (Kd.R_newB ho BK.out) (below_size HB.out))
          have n3_ := Aside0.mk (below_step HB.out hb)
          have n5_ := rb HO hb
          clear BK BE HO HB
          revert n0_ n1_ n2_ n3_ n5_
          intro BK BE HP HB HO
          clear hb ho
          refine hK.out _ _ ⟨bc BK 3, bc BK 4, bc BK 5, bc BE 0, bc BE 1, bc BE 2⟩ (fun hHeld => ?_)
          clear hK K
          refine norm_ (a' := ?_) ?_ ?_
          rotate_left
          · show Act.put _ (some 47) _ = _
            simp only [Act.put, List.setIfInBounds_toArray, List.set_cons_zero, List.set_cons_succ, i64_w, i32_w]
            rfl
          refine pure_ (i := 7) (N := some 40) (v := ?_) (a' := ?_) #[true, true, true, true, true, true, true, true, false, false, false, false, false] rfl rfl (by kernel_rfl) (fun _ _ _ h => h) (Or.inl ⟨by rfl, ?_⟩) ?_ ?_
          rotate_left
          · intro w'
            go_simp
            with_reducible rfl
          rotate_left
          · simp only [Act.put, List.setIfInBounds_toArray, List.set_cons_zero, List.set_cons_succ, i64_w, i32_w]
            rfl
          refine pure_ (i := 8) (N := some 48) (v := ?_) (a' := ?_) #[true, true, true, true, true, true, true, true, true, false, false, false, false] rfl rfl (by kernel_rfl) (fun _ _ _ h => h) (Or.inl ⟨by rfl, ?_⟩) ?_ ?_
          rotate_left
          · intro w'
            go_simp
            with_reducible rfl
          rotate_left
          · simp only [Act.put, List.setIfInBounds_toArray, List.set_cons_zero, List.set_cons_succ, i64_w, i32_w]
            rfl
          refine pure_ (i := 9) (N := some 49) (v := ?_) (a' := ?_) #[true, true, true, true, true, true, true, true, true, true, false, false, false] rfl rfl (by kernel_rfl) (fun _ _ _ h => h) (Or.inl ⟨by rfl, ?_⟩) ?_ ?_
          rotate_left
          · intro w'
            go_simp
            with_reducible rfl
          rotate_left
          · simp only [Act.put, List.setIfInBounds_toArray, List.set_cons_zero, List.set_cons_succ, i64_w, i32_w]
            rfl
          refine one_ (i := 10) (N := some 11) #[true, true, true, true, true, true, true, true, true, true, true, false, false] rfl rfl (by kernel_rfl) (by decide) (fun K hK => ?_)
          refine box_step ?hg (N := 11) ?hd (cs := #[.int .i64 0, .int .i64 0, .slice none 0 0]) (t := 40) ?hr ?_; (case hd => rfl); (case hg => rfl); (case hr => first | (go_simp; done) | (go_simp; rfl))
          intro gbL hg w7 hbox hb
          have n0_ := bb BK hb
          have n1_ := bb BE hb
          have n2_ := Aside0.mk (Kd.R_below (Kd.R_elderB HO.out gbL (Nat.le_of_eq hg.symm)) hb)
          have n10_ := Aside0.mk (Kd.R_below (Kd.R_elderB HP.out gbL (Nat.le_of_eq hg.symm)) hb)
          have n3_ := Aside0.mk (below_step HB.out hb)
          have n4_ := Aside0.mk hbox
          have n5_ := Aside0.mk ((by rw [hg]; exact (below_size HB.out) : w0.heap.size ≤ gbL))
          have n6_ := Aside0.mk ((by rw [hg]; exact Nat.ne_of_lt (blk_lt BK.out) : g ≠ gbL))
          have n7_ := Aside0.mk ((by rw [hg]; exact Nat.ne_of_gt (blk_lt BK.out) : gbL ≠ g))
          have n8_ := Aside0.mk ((by rw [hg]; exact Nat.ne_of_lt (blk_lt BE.out) : gbE ≠ gbL))
          have n9_ := Aside0.mk ((by rw [hg]; exact Nat.ne_of_gt (blk_lt BE.out) : gbL ≠ gbE))
          clear BK BE HO HB HP
          revert n0_ n1_ n2_ n3_ n4_ n5_ n6_ n7_ n8_ n9_ n10_
          intro BK BE HO HP HB BL GL NL1 NL2 NL3 NL4
          clear hb hbox hg
          refine hK.out _ _ ⟨bc BK 3, bc BK 4, bc BK 5, bc BE 0, bc BE 1, bc BE 2⟩ (fun hHeld => ?_)
          clear hK K
          refine norm_ (a' := ?_) ?_ ?_
          rotate_left
          · show Act.put _ (some 11) _ = _
            simp only [Act.put, List.setIfInBounds_toArray, List.set_cons_zero, List.set_cons_succ, i64_w, i32_w]
            rfl
          exact norm_ (by simp only [putAll, Act.put, zA, zB, zC]) (hCont (v2, gbL) _ ⟨hHeld, (Kd.R_mono HP.out (fun _ hk => ⟨hk.1.2, hk.2⟩)), Kd.R_mono HO.out (fun _ hk => ⟨hk.1.1, hk.2⟩), BK.out, BL.out, GL.out, NL1.out, NL2.out, NL3.out, NL4.out, HB.out⟩)
        · skip
          refine box_step ?hg (N := 11) ?hd (cs := #[.int .i64 0, .int .i64 0, .slice none 0 0]) (t := 40) ?hr ?_; (case hd => rfl); (case hg => rfl); (case hr => first | (go_simp; done) | (go_simp; rfl))
          intro gbL hg w7 hbox hb
          have n0_ := bb BK hb
          have n1_ := bb BE hb
          have n2_ := Aside0.mk (Kd.R_below (Kd.R_elderB HO.out gbL (Nat.le_of_eq hg.symm)) hb)
          have n3_ := Aside0.mk (below_step HB.out hb)
          have n4_ := Aside0.mk hbox
          have n5_ := Aside0.mk ((by rw [hg]; exact (below_size HB.out) : w0.heap.size ≤ gbL))
          have n6_ := Aside0.mk ((by rw [hg]; exact Nat.ne_of_lt (blk_lt BK.out) : g ≠ gbL))
          have n7_ := Aside0.mk ((by rw [hg]; exact Nat.ne_of_gt (blk_lt BK.out) : gbL ≠ g))
          have n8_ := Aside0.mk ((by rw [hg]; exact Nat.ne_of_lt (blk_lt BE.out) : gbE ≠ gbL))
          have n9_ := Aside0.mk ((by rw [hg]; exact Nat.ne_of_gt (blk_lt BE.out) : gbL ≠ gbE))
          clear BK BE HO HB
          revert n0_ n1_ n2_ n3_ n4_ n5_ n6_ n7_ n8_ n9_
          intro BK BE HO HB BL GL NL1 NL2 NL3 NL4
          clear hb hbox hg
          refine hK.out _ _ ⟨bc BK 3, bc BK 4, bc BK 5, bc BE 0, bc BE 1, bc BE 2⟩ (fun hHeld => ?_)
          clear hK K
          refine norm_ (a' := ?_) ?_ ?_
          rotate_left
          · show Act.put _ (some 11) _ = _
            simp only [Act.put, List.setIfInBounds_toArray, List.set_cons_zero, List.set_cons_succ, i64_w, i32_w]
            rfl
          refine one_ (i := 6) (N := some 47) #[true, true, true, true, true, true, true, false, false, false, true, false, false] rfl rfl (by kernel_rfl) (by decide) (fun K hK => ?_)
          refine goes_ Try.func64 (by kernel_rfl) rfl #[.agg #[.int .i64 s, .int .i64 u, .slice Av l.length cv], .int .i64 ei, .agg #[.int .i64 et, .int .i64 ek, .string ed]] (by rfl) rfl rfl (by (try simp only [List.map_toArray, List.map_cons, List.map_nil]); first | done | rfl) ?_
          with_reducible refine (impl_LogPut.calls k s u _ _ l ei et ek ed ps pu pl pok _ ?side1 ?side2 A3.out).mono ?_
          (case side1 => exact (Kd.R_reads' HO.out).2.2)
          (case side2 => exact (Kd.R_reads' HO.out).2.1)
          rintro e w6 ⟨v2, rfl, ho, hb⟩
          refine ⟨_, rfl, ?_⟩
          have n0_ := bb BK hb
          have n1_ := bb BE hb
          have n2_ := Aside0.mk (Kd.R_lower (Kd.R_newB (Kd.R_newB ho BK.out) BL.out) (below_size HB.out))
          have n3_ := Aside0.mk (below_step HB.out hb)
          have n5_ := rb HO hb
          have n4_ := bb BL hb
          clear BK BE HO HB BL
          revert n0_ n1_ n2_ n3_ n5_ n4_
          intro BK BE HP HB HO BL
          clear hb ho
          refine hK.out _ _ ⟨bc BK 3, bc BK 4, bc BK 5, bc BE 0, bc BE 1, bc BE 2⟩ (fun hHeld => ?_)
          clear hK K
          refine norm_ (a' := ?_) ?_ ?_
          rotate_left
          · show Act.put _ (some 47) _ = _
            simp only [Act.put, List.setIfInBounds_toArray, List.set_cons_zero, List.set_cons_succ, i64_w, i32_w]
            rfl
          refine pure_ (i := 7) (N := some 40) (v := ?_) (a' := ?_) #[true, true, true, true, true, true, true, true, false, false, true, false, false] rfl rfl (by kernel_rfl) (fun _ _ _ h => h) (Or.inl ⟨by rfl, ?_⟩) ?_ ?_
          rotate_left
          · intro w'
            go_simp
            with_reducible rfl
          rotate_left
          · simp only [Act.put, List.setIfInBounds_toArray, List.set_cons_zero, List.set_cons_succ, i64_w, i32_w]
            rfl
          refine pure_ (i := 8) (N := some 48) (v := ?_) (a' := ?_) #[true, true, true, true, true, true, true, true, true, false, true, false, false] rfl rfl (by kernel_rfl) (fun _ _ _ h => h) (Or.inl ⟨by rfl, ?_⟩) ?_ ?_
          rotate_left
          · intro w'
            go_simp
            with_reducible rfl
          rotate_left
          · simp only [Act.put, List.setIfInBounds_toArray, List.set_cons_zero, List.set_cons_succ, i64_w, i32_w]
            rfl
          refine pure_ (i := 9) (N := some 49) (v := ?_) (a' := ?_) #[true, true, true, true, true, true, true, true, true, true, true, false, false] rfl rfl (by kernel_rfl) (fun _ _ _ h => h) (Or.inl ⟨by rfl, ?_⟩) ?_ ?_
          rotate_left
          · intro w'
            go_simp
            with_reducible rfl
          rotate_left
          · simp only [Act.put, List.setIfInBounds_toArray, List.set_cons_zero, List.set_cons_succ, i64_w, i32_w]
            rfl
          exact norm_ (by simp only [putAll, Act.put, zA, zB, zC]) (hCont (v2, gbL) _ ⟨hHeld, (Kd.R_mono HP.out (fun _ hk => ⟨hk.1.2, hk.2⟩)), Kd.R_mono HO.out (fun _ hk => ⟨hk.1.1, hk.2⟩), BK.out, BL.out, GL.out, NL1.out, NL2.out, NL3.out, NL4.out, HB.out⟩)
      rintro ⟨v2, gbL⟩ w8 ⟨hS_, h0_, h9_, h1_, h2_, h3_, h4_, h5_, h6_, h7_, h8_⟩
      clear BK BE HO HB hHeld
      have HP : Aside0 (Kd.R k89 89 w8 w0.heap.size (fun k => k ≠ g ∧ k ≠ gbL) v2 pl) := ⟨h0_⟩
      have HO : Aside0 (Kd.R k89 89 w8 w0.heap.size (fun k => k ≠ g ∧ k ≠ gbL) (.slice Av l.length cv) l) := ⟨h9_⟩
      have BK : Aside0 (w8.heap[g]? = some (.cells #[.int .i64 n, .int .i64 t, .int .i64 v, .int .i64 s, .int .i64 u, (.slice Av l.length cv)] 42 (0, 0))) := ⟨h1_⟩
      have BL : Aside0 (w8.heap[gbL]? = some (.cells #[.int .i64 0, .int .i64 0, .slice none 0 0] 40 (0, 0))) := ⟨h2_⟩
      have GL : Aside0 (w0.heap.size ≤ gbL) := ⟨h3_⟩
      have NL1 : Aside0 (g ≠ gbL) := ⟨h4_⟩
      have NL2 : Aside0 (gbL ≠ g) := ⟨h5_⟩
      have NL3 : Aside0 (gbE ≠ gbL) := ⟨h6_⟩
      have NL4 : Aside0 (gbL ≠ gbE) := ⟨h7_⟩
      have HB : Aside0 (Below w0.heap.size w0 w8) := ⟨h8_⟩
      clear h0_ h1_ h2_ h3_ h4_ h5_ h6_ h7_ h8_ h9_
      have hHeld : w8.cell? ⟨g, 3, none⟩ = some (.int .i64 s) ∧ w8.cell? ⟨g, 4, none⟩ = some (.int .i64 u) ∧ w8.cell? ⟨g, 5, none⟩ = some (.slice Av l.length cv) ∧ w8.cell? ⟨gbE, 0, none⟩ = some (.int .i64 et) ∧ w8.cell? ⟨gbE, 1, none⟩ = some (.int .i64 ek) ∧ w8.cell? ⟨gbE, 2, none⟩ = some (.string ed) := hS_
      clear hS_
      obtain ⟨Aw, cw, ew⟩ := Kd.R_slice HP.out
      subst ew
      refine norm_ (a' := ?_) ?_ ?_
      rotate_left
      · simp only [putAll, Act.put, zA, zB, zC]
        rfl
      refine one_ (i := 11) (N := none) #[true, true, true, true, true, true, true, true, true, true, true, true, false] rfl rfl (by kernel_rfl) (by decide) (fun K hK => ?_)
      have hs0 : w8.cell? ⟨gbL, 0, none⟩ = some (.int .i64 0) := bc BL 0
      have hfs0 := blk_frozen BL.out 0
      have hs1 : w8.cell? ⟨gbL, 1, none⟩ = some (.int .i64 0) := bc BL 1
      have hfs1 := blk_frozen BL.out 1
      have hs2 : w8.cell? ⟨gbL, 2, none⟩ = some (.slice none 0 0) := bc BL 2
      have hfs2 := blk_frozen BL.out 2
      refine skip_ (w1 := ?_) (by rfl) rfl ?_ ?_
      rotate_left
      · go_simp
        rfl
      refine hK.out _ _ ⟨((cell_far (p := ⟨gbL, _, none⟩) NL1.out _).trans ((cell_far (p := ⟨gbL, _, none⟩) NL1.out _).trans ((cell_far (p := ⟨gbL, _, none⟩) NL1.out _).trans (hHeld.1)))), ((cell_far (p := ⟨gbL, _, none⟩) NL1.out _).trans ((cell_far (p := ⟨gbL, _, none⟩) NL1.out _).trans ((cell_far (p := ⟨gbL, _, none⟩) NL1.out _).trans (hHeld.2.1)))), ((cell_far (p := ⟨gbL, _, none⟩) NL1.out _).trans ((cell_far (p := ⟨gbL, _, none⟩) NL1.out _).trans ((cell_far (p := ⟨gbL, _, none⟩) NL1.out _).trans (hHeld.2.2.1)))), ((cell_far (p := ⟨gbL, _, none⟩) NL3.out _).trans ((cell_far (p := ⟨gbL, _, none⟩) NL3.out _).trans ((cell_far (p := ⟨gbL, _, none⟩) NL3.out _).trans (hHeld.2.2.2.1)))), ((cell_far (p := ⟨gbL, _, none⟩) NL3.out _).trans ((cell_far (p := ⟨gbL, _, none⟩) NL3.out _).trans ((cell_far (p := ⟨gbL, _, none⟩) NL3.out _).trans (hHeld.2.2.2.2.1)))), ((cell_far (p := ⟨gbL, _, none⟩) NL3.out _).trans ((cell_far (p := ⟨gbL, _, none⟩) NL3.out _).trans ((cell_far (p := ⟨gbL, _, none⟩) NL3.out _).trans (hHeld.2.2.2.2.2))))⟩ (fun hHeld2 => ?_)
      clear hK K hHeld hHeld2 hs0 hs1 hs2 hfs0 hfs1 hfs2
      refine pure_ (i := 12) (N := some 10) (v := ?_) (a' := ?_) #[true, true, true, true, true, true, true, true, true, true, true, true, true] rfl rfl (by kernel_rfl) (fun _ _ _ h => h) (Or.inl ⟨by rfl, ?_⟩) ?_ ?_
      rotate_left
      · intro w'
        go_simp
        with_reducible rfl
      rotate_left
      · simp only [Act.put, List.setIfInBounds_toArray, List.set_cons_zero, List.set_cons_succ, i64_w, i32_w]
        rfl
      refine done_ (by kernel_rfl) ?_
      generalize hW : (((w8.setCell ⟨gbL, 0, none⟩ (.int .i64 ps)).setCell ⟨gbL, 1, none⟩ (.int .i64 pu)).setCell ⟨gbL, 2, none⟩ (.slice Aw pl.length cw)) = w9
      have n0_ : Aside0 (w9.heap[g]? = some (.cells #[.int .i64 n, .int .i64 t, .int .i64 v, .int .i64 s, .int .i64 u, (.slice Av l.length cv)] 42 (0, 0))) := ⟨by rw [← hW]; exact blk_other2 (blk_other2 (blk_other2 BK.out NL1.out _) NL1.out _) NL1.out _⟩
      have n1_ : Aside0 (w9.heap[gbL]? = some (.cells #[.int .i64 ps, .int .i64 pu, .slice Aw pl.length cw] 40 (0, 0))) := ⟨by rw [← hW]; exact blk_put (blk_put (blk_put BL.out 0 _ rfl) 1 _ rfl) 2 _ rfl⟩
      have n2_ : Aside0 (Kd.R k89 89 w9 w0.heap.size (fun k => k ≠ g ∧ k ≠ gbL) (.slice Aw pl.length cw) pl) := ⟨by rw [← hW]; exact Kd.R_far (Kd.R_far (Kd.R_far HP.out (fun _ hk => hk.2) _) (fun _ hk => hk.2) _) (fun _ hk => hk.2) _⟩
      have n3_ : Aside0 (Below w0.heap.size w0 w9) := ⟨by rw [← hW]; exact below_set (below_set (below_set HB.out GL.out) GL.out) GL.out⟩
      have n4_ : Aside0 (Kd.R k89 89 w9 w0.heap.size (fun k => k ≠ g) (.slice Av l.length cv) l) := ⟨by rw [← hW]; exact Kd.R_mono (Kd.R_far (Kd.R_far (Kd.R_far HO.out (fun _ hk => hk.2) _) (fun _ hk => hk.2) _) (fun _ hk => hk.2) _) (fun _ hk => hk.1)⟩
      clear BK BL HP HB HO hW
      revert n0_ n1_ n2_ n3_ n4_
      intro BK BL HP HB HO
      by_cases c4 : pok = true
      · subst c4
        rw [if_pos rfl] at h
        simp only [Option.some.injEq, Prod.mk.injEq] at h
        obtain ⟨rfl, rfl, rfl, rfl, rfl, rfl⟩ := h
        have hg3 : w9.cell? ⟨g, 3, none⟩ = some (.int .i64 s) := bc BK 3
        have hgf3 := blk_frozen BK.out 3
        have hg4 : w9.cell? ⟨g, 4, none⟩ = some (.int .i64 u) := bc BK 4
        have hgf4 := blk_frozen BK.out 4
        have hg5 : w9.cell? ⟨g, 5, none⟩ = some (.slice Av l.length cv) := bc BK 5
        have hgf5 := blk_frozen BK.out 5
        have hl0 : w9.cell? ⟨gbL, 0, none⟩ = some (.int .i64 ps) := bc BL 0
        have hl1 : w9.cell? ⟨gbL, 1, none⟩ = some (.int .i64 pu) := bc BL 1
        have hl2 : w9.cell? ⟨gbL, 2, none⟩ = some (.slice Aw pl.length cw) := bc BL 2
        have hn1 := NL1.out
        have hn2 := NL2.out
        go_wp2_with (fail)
        go_ret
        exact ⟨rfl, ⟨.slice Aw pl.length cw, blk_put (blk_put (blk_put BK.out 3 _ rfl) 4 _ rfl) 5 _ rfl, HG.out, Kd.R_mono (Kd.R_far (Kd.R_far (Kd.R_far HP.out (fun _ hk => hk.1) _) (fun _ hk => hk.1) _) (fun _ hk => hk.1) _) (fun _ hk => hk.1)⟩, below_set (below_set (below_set HB.out HG.out) HG.out) HG.out⟩
      · replace c4 := Bool.eq_false_iff.mpr c4
        subst c4
        rw [if_neg (by simp)] at h
        simp only [Option.some.injEq, Prod.mk.injEq] at h
        obtain ⟨rfl, rfl, rfl, rfl, rfl, rfl⟩ := h
        go_wp2_with (fail)
        go_ret
        exact ⟨rfl, ⟨.slice Av l.length cv, BK.out, HG.out, HO.out⟩, HB.out⟩
    · replace c3 := Bool.eq_false_iff.mpr c3
      subst c3
      rw [if_neg (by simp)] at h
      simp only [Option.some.injEq, Prod.mk.injEq] at h
      obtain ⟨rfl, rfl, rfl, rfl, rfl, rfl⟩ := h
      go_enter Try.func39, Try.ntmps39
      go_wp2_with (first | (go_at_call 37; (with_reducible refine (impl_twoNumbers.calls k text _ a b false _ A1.out).mono ?_); rintro e w1 ⟨rfl, hb⟩; have n0_ := bb BK hb; have n1_ := rb HO hb; have n2_ := Aside0.mk (below_step (bt HB) hb); clear BK HO HB hb; revert n0_ n1_ n2_; intro BK HO HB; have hc1 : w1.cell? ⟨g, 1, none⟩ = some (.int .i64 t) := bc BK 1; have hf1 := blk_frozen BK.out 1; have hc2 : w1.cell? ⟨g, 2, none⟩ = some (.int .i64 v) := bc BK 2; have hf2 := blk_frozen BK.out 2) | (go_at_call 63; (with_reducible refine (impl_ReadEntry.calls k text ei et ek ed false _ A2.out).mono ?_); rintro e w2 ⟨rfl, hb⟩; have n0_ := bb BK hb; have n1_ := rb HO hb; have n2_ := Aside0.mk (below_step (bt HB) hb); clear BK HO HB hb; revert n0_ n1_ n2_; intro BK HO HB) | ((with_reducible refine gate_dst (N := 9) rfl ?_); refine box_event ?hg (N := 9) ?hd (cs := #[.int .i64 0, .int .i64 0, .string (⟨#[]⟩ : ByteArray)]) (t := 89) ?hr ?_; (case hd => rfl); (case hg => rfl); (case hr => first | (go_simp; done) | (go_simp; rfl)); intro gbE hg w3 hbox hb; have n0_ := bb BK hb; have n1_ := Aside0.mk (Kd.R_below (Kd.R_elderB (rk HO) gbE (Nat.le_of_eq hg.symm)) hb); have n2_ := Aside0.mk (below_step (bt HB) hb); have n3_ := Aside0.mk hbox; have n4_ := Aside0.mk ((by rw [hg]; exact (below_size (bt HB)) : w0.heap.size ≤ gbE)); have n5_ := Aside0.mk ((by rw [hg]; exact Nat.ne_of_lt (blk_lt (bk BK)) : g ≠ gbE)); have n6_ := Aside0.mk ((by rw [hg]; exact Nat.ne_of_gt (blk_lt (bk BK)) : gbE ≠ g)); clear BK HO HB hb hbox hg; revert n0_ n1_ n2_ n3_ n4_ n5_ n6_; intro BK HO HB BE GE NE1 NE2; have hce0 : w3.cell? ⟨gbE, 0, none⟩ = some (.int .i64 0) := bc BE 0; have hce1 : w3.cell? ⟨gbE, 1, none⟩ = some (.int .i64 0) := bc BE 1; have hce2 : w3.cell? ⟨gbE, 2, none⟩ = some (.string (⟨#[]⟩ : ByteArray)) := bc BE 2; have hfe0 := blk_frozen BE.out 0; have hfe1 := blk_frozen BE.out 1; have hfe2 := blk_frozen BE.out 2))
      go_ret
      exact ⟨rfl, ⟨V, blk_other2 (blk_other2 (blk_other2 BK.out NE1.out _) NE1.out _) NE1.out _, HG.out, Kd.R_mono (Kd.R_far (Kd.R_far (Kd.R_far HO.out (fun _ hk => hk.2) _) (fun _ hk => hk.2) _) (fun _ hk => hk.2) _) (fun _ hk => hk.1)⟩, below_set (below_set (below_set HB.out GE.out) GE.out) GE.out⟩
end Go.Proofs.Ytghhepailkkneaa.PFnExactReadJournal
