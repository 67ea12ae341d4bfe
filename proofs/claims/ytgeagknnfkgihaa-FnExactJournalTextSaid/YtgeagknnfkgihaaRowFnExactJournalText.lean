/- The row of FnExactJournalText: the statement FnExactJournalTextSaid, out of the pure theorem and the printed walk: for every input the call returns true and its arguments read as before. No condition. -/
import Derived.Test.YtgeagknnfkgihaaRows
import Derived.Test.YtgeagknnfkgihaaQFnExactJournalTextx12
import Derived.Test.YtgeagknnfkgihaaPureFnExactJournalText
import Derived.Test.YtgeagknnfkgihaaOpen
import Derived.WalkKit
import Derived.ProofKit
import Derived.OpenShut
import Derived.ShutString
import Derived.ChangeOld
import Derived.Below
import Derived.SizedLaws
import Derived.Lib.SmallJoins
import Derived.Deep.Strs
namespace Go.Proofs.Ytgeagknnfkgihaa.fnExactJournalText
open Go.ChangeShapes Go.WideShapes Go.ChangeAt Go.RowKit Go.Proofs.Ytgeagknnfkgihaa.PFnExactJournalText Go.Proofs.YtgeagknnfkgihaaW.PrintWords Go.Proofs.Ytgeagknnfkgihaa.Opens
open Go.ChangeMaps (open_string shut_string)
set_option linter.unusedVariables false
set_option linter.unusedSimpArgs false
theorem own : ownKnob Try.prog.godebug = none := by kernel_rfl
theorem laidOut : laidOutB Try.prog = true := by kernel_rfl
set_option maxRecDepth 100000 in
theorem opn62 {H : Type} {enc : TypeId × Value → H} {w : World} {base : Nat} {spare : Nat → Bool} {held : Bool} {fuel : Nat} {cs : List Value} {x : DataW H × List MemPlace} (h : DataW.trod enc Try.prog w base spare held fuel 62 cs = some x) :
    ∃ (z0 : Int) (z1 : Int) (z2 : ByteArray), cs = [.int .i64 z0, .int .i64 z1, .string z2] ∧ (Lit.int .i64 z0).wf = true ∧ (Lit.int .i64 z1).wf = true ∧ z2.size ≤ maxLen := by
  obtain ⟨y0, y1, y2, n, _, hl, g0, g1, g2⟩ := Deep.trod_struct3 Try.underlying62 h
  have hc : Try.prog.cellsOf 62 = 3 := by kernel_rfl
  rw [hc] at hl
  have hc3 : Try.prog.cellsOf 3 = 1 := by kernel_rfl
  have hc9 : Try.prog.cellsOf 9 = 1 := by kernel_rfl
  match cs, hl with
  | [b0, b1, b2], _ =>
  simp only [hc3, List.drop_zero, List.drop_succ_cons, List.take_succ_cons, List.take_zero] at g0
  simp only [hc3, List.drop_zero, List.drop_succ_cons, List.take_succ_cons, List.take_zero] at g1
  simp only [hc9, List.drop_zero, List.drop_succ_cons, List.take_succ_cons, List.take_zero] at g2
  obtain ⟨z0, e0, _, w0⟩ := DataW.trod_int Try.underlying3 g0
  obtain ⟨z1, e1, _, w1⟩ := DataW.trod_int Try.underlying3 g1
  obtain ⟨z2, e2, _, w2⟩ := DataW.trod_string Try.underlying9 g2
  simp only [List.cons.injEq, and_true] at e0 e1 e2
  subst e0
  subst e1
  subst e2
  exact ⟨_, _, _, rfl, w0, w1, w2⟩

set_option maxRecDepth 100000 in
theorem el62 {H : Type} {enc : TypeId × Value → H} {w : World} {base : Nat} {spare : Nat → Bool} {held : Bool} {fuel : Nat} {cs : List Value} {x : DataW H × List MemPlace} (h : DataW.trod enc Try.prog w base spare held fuel 62 cs = some x) : ∃ y : S62, Kd.K k62 w y cs ∧ ((Lit.int .i64 y.f0).wf = true ∧ (Lit.int .i64 y.f1).wf = true ∧ y.f2.size ≤ maxLen) := by
  obtain ⟨z0, z1, z2, rfl, hg⟩ := opn62 h
  exact ⟨⟨z0, z1, z2⟩, k62_mk w ⟨z0, z1, z2⟩, hg⟩

set_option maxRecDepth 100000 in
theorem opn22 {H : Type} {enc : TypeId × Value → H} {w : World} {base : Nat} {spare : Nat → Bool} {held : Bool} {fuel : Nat} {cs : List Value} {x : DataW H × List MemPlace} (h : DataW.trod enc Try.prog w base spare held fuel 22 cs = some x) :
    ∃ (A : Option Addr) (c : Nat) (l : List S62), cs = [.slice A l.length c] ∧ l.length ≤ c ∧ Kd.C k62 w A l.length l ∧ l.length ≤ 9223372036854775807 ∧ ∀ y ∈ l, (Lit.int .i64 y.f0).wf = true ∧ (Lit.int .i64 y.f1).wf = true ∧ y.f2.size ≤ maxLen := by
  letI : Inhabited S62 := ⟨z62⟩
  obtain ⟨A, c, l, h1, h2, h3, h4, h5⟩ := open_row k62 (fun y => (Lit.int .i64 y.f0).wf = true ∧ (Lit.int .i64 y.f1).wf = true ∧ y.f2.size ≤ maxLen) Try.underlying22 (by kernel_rfl) (fun n cs x h => el62 h) h
  exact ⟨A, c, l, h1, h2, h3, h4, h5⟩

set_option maxRecDepth 100000 in
theorem opn24 {H : Type} {enc : TypeId × Value → H} {w : World} {base : Nat} {spare : Nat → Bool} {held : Bool} {fuel : Nat} {cs : List Value} {x : DataW H × List MemPlace} (h : DataW.trod enc Try.prog w base spare held fuel 24 cs = some x) :
    ∃ (z0 : Int) (z1 : Int) (A2 : Option Addr) (c2 : Nat) (l2 : List S62), cs = [.int .i64 z0, .int .i64 z1, .slice A2 l2.length c2] ∧ (Lit.int .i64 z0).wf = true ∧ (Lit.int .i64 z1).wf = true ∧ (l2.length ≤ c2 ∧ Kd.C k62 w A2 l2.length l2 ∧ l2.length ≤ 9223372036854775807 ∧ ∀ y ∈ l2, (Lit.int .i64 y.f0).wf = true ∧ (Lit.int .i64 y.f1).wf = true ∧ y.f2.size ≤ maxLen) := by
  obtain ⟨y0, y1, y2, n, _, hl, g0, g1, g2⟩ := Deep.trod_struct3 Try.underlying24 h
  have hc : Try.prog.cellsOf 24 = 3 := by kernel_rfl
  rw [hc] at hl
  have hc3 : Try.prog.cellsOf 3 = 1 := by kernel_rfl
  have hc22 : Try.prog.cellsOf 22 = 1 := by kernel_rfl
  match cs, hl with
  | [b0, b1, b2], _ =>
  simp only [hc3, List.drop_zero, List.drop_succ_cons, List.take_succ_cons, List.take_zero] at g0
  simp only [hc3, List.drop_zero, List.drop_succ_cons, List.take_succ_cons, List.take_zero] at g1
  simp only [hc22, List.drop_zero, List.drop_succ_cons, List.take_succ_cons, List.take_zero] at g2
  obtain ⟨z0, e0, _, w0⟩ := DataW.trod_int Try.underlying3 g0
  obtain ⟨z1, e1, _, w1⟩ := DataW.trod_int Try.underlying3 g1
  obtain ⟨A2, c2, l2, e2, q2⟩ := opn22 g2
  simp only [List.cons.injEq, and_true] at e0 e1 e2
  subst e0
  subst e1
  subst e2
  exact ⟨_, _, _, _, _, rfl, w0, w1, q2⟩

set_option maxRecDepth 100000 in
theorem opn26 {H : Type} {enc : TypeId × Value → H} {w : World} {base : Nat} {spare : Nat → Bool} {held : Bool} {fuel : Nat} {cs : List Value} {x : DataW H × List MemPlace} (h : DataW.trod enc Try.prog w base spare held fuel 26 cs = some x) :
    ∃ (z0 : Int) (z1 : Int) (z2 : Int) (z3 : Int) (z4 : Int) (A5 : Option Addr) (c5 : Nat) (l5 : List S62), cs = [.int .i64 z0, .int .i64 z1, .int .i64 z2, .int .i64 z3, .int .i64 z4, .slice A5 l5.length c5] ∧ (Lit.int .i64 z0).wf = true ∧ (Lit.int .i64 z1).wf = true ∧ (Lit.int .i64 z2).wf = true ∧ ((Lit.int .i64 z3).wf = true ∧ (Lit.int .i64 z4).wf = true ∧ (l5.length ≤ c5 ∧ Kd.C k62 w A5 l5.length l5 ∧ l5.length ≤ 9223372036854775807 ∧ ∀ y ∈ l5, (Lit.int .i64 y.f0).wf = true ∧ (Lit.int .i64 y.f1).wf = true ∧ y.f2.size ≤ maxLen)) := by
  obtain ⟨y0, y1, y2, y3, n, _, hl, g0, g1, g2, g3⟩ := Joins.trod_struct4 Try.underlying26 h
  have hc : Try.prog.cellsOf 26 = 6 := by kernel_rfl
  rw [hc] at hl
  have hc3 : Try.prog.cellsOf 3 = 1 := by kernel_rfl
  have hc24 : Try.prog.cellsOf 24 = 3 := by kernel_rfl
  match cs, hl with
  | [b0, b1, b2, b3, b4, b5], _ =>
  simp only [hc3, List.drop_zero, List.drop_succ_cons, List.take_succ_cons, List.take_zero] at g0
  simp only [hc3, List.drop_zero, List.drop_succ_cons, List.take_succ_cons, List.take_zero] at g1
  simp only [hc3, List.drop_zero, List.drop_succ_cons, List.take_succ_cons, List.take_zero] at g2
  simp only [hc24, List.drop_zero, List.drop_succ_cons, List.take_succ_cons, List.take_zero] at g3
  obtain ⟨z0, e0, _, w0⟩ := DataW.trod_int Try.underlying3 g0
  obtain ⟨z1, e1, _, w1⟩ := DataW.trod_int Try.underlying3 g1
  obtain ⟨z2, e2, _, w2⟩ := DataW.trod_int Try.underlying3 g2
  obtain ⟨z3, z4, A5, c5, l5, e3, q3⟩ := opn24 g3
  simp only [List.cons.injEq, and_true] at e0 e1 e2 e3
  subst e0
  subst e1
  subst e2
  obtain ⟨rfl, rfl, rfl⟩ := e3
  exact ⟨_, _, _, _, _, _, _, _, rfl, w0, w1, w2, q3⟩

set_option maxRecDepth 100000 in
theorem lifted (os : Os) (started : os.Started) (H : Type) (enc : TypeId × Value → H) :
    ReturnsInHanded {} Try.checked os 3 .any (Rows.fnExactJournalTextSpec.pre6 enc Try.prog Try.f3 Rows.fnExactJournalTextRow.domain false) (Rows.fnExactJournalTextSpec.post enc Try.prog Try.f3 false true false false) := by
  refine returnsInHanded_of_change_sized (C := Try.checked) own started (by kernel_rfl) Try.func3
    (ChangeSpec.witness6 (enc := enc) (C := Try.checked) false ⟨#[], #[.agg #[.int .i64 0, .int .i64 0, .int .i64 0, .int .i64 0, .int .i64 0, .slice none 0 0]], []⟩ 8 (by kernel_rfl) (by kernel_rfl) (by kernel_rfl) (by kernel_rfl)) ?_
  intro W base args ds gs before hval0 hW hcnd hsz0 _
  have hval : ∀ (j : Nat) t v, Try.f3.params[j]? = some t → args[j]? = some v → Value.okWide Try.prog W .any base t v := hval0
  have hW' := hW
  obtain ⟨p, q, hA0, hV, rfl, hfz, hnd⟩ := hW
  have hA : DataW.TrodAll enc Try.prog W 0 (fun _ => true) true Try.f3.params.toList args.toList ds p := hA0
  rw [Try.params3] at hA hval
  obtain ⟨v0, vs0, d0, ds0, p0, q0, hargs, rfl, rfl, h0, r0⟩ := trodAll_cons hA
  obtain ⟨rfl, rfl, rfl⟩ := trodAll_nil r0
  obtain rfl : args = #[v0] := by cases args; simp_all
  obtain ⟨rfl, rfl⟩ := trodVars_none hV
  have k0 := h0
  have lt0 : ∀ x ∈ p0, x.block < W.heap.size := by obtain ⟨m, hm⟩ := k0; exact DataW.trod_lt m _ _ _ hm
  obtain ⟨s0, rfl, hz0⟩ := okWide_struct Try.underlying26 (hval 0 26 v0 rfl rfl)
  obtain ⟨a0_0, a0_1, a0_2, a0_3, a0_4, A0_5, c0_5, l0_5, he0, hg0⟩ : ∃ (a0_0 : Int) (a0_1 : Int) (a0_2 : Int) (a0_3 : Int) (a0_4 : Int) (A0_5 : Option Addr) (c0_5 : Nat) (l0_5 : List S62), s0 = #[.int .i64 a0_0, .int .i64 a0_1, .int .i64 a0_2, .int .i64 a0_3, .int .i64 a0_4, .slice A0_5 l0_5.length c0_5] ∧ (Lit.int .i64 a0_0).wf = true ∧ (Lit.int .i64 a0_1).wf = true ∧ (Lit.int .i64 a0_2).wf = true ∧ ((Lit.int .i64 a0_3).wf = true ∧ (Lit.int .i64 a0_4).wf = true ∧ (l0_5.length ≤ c0_5 ∧ Kd.C k62 W A0_5 l0_5.length l0_5 ∧ l0_5.length ≤ 9223372036854775807 ∧ ∀ y ∈ l0_5, (Lit.int .i64 y.f0).wf = true ∧ (Lit.int .i64 y.f1).wf = true ∧ y.f2.size ≤ maxLen)) := by
    obtain ⟨fuel, hf⟩ := h0
    obtain ⟨a0_0, a0_1, a0_2, a0_3, a0_4, A0_5, c0_5, l0_5, h1, h2⟩ := opn26 hf
    refine ⟨a0_0, a0_1, a0_2, a0_3, a0_4, A0_5, c0_5, l0_5, ?_, h2⟩
    simp only [Value.cells] at h1
    exact Array.toList_inj.1 h1
  subst he0
  clear hA0 hval0 hsz0
  obtain ⟨K, hp⟩ := Pure.FnExactJournalText a0_0 a0_1 a0_2 a0_3 a0_4 l0_5 hg0.1 hg0.2.1 hg0.2.2.1 hg0.2.2.2.1 hg0.2.2.2.2.1 hg0.2.2.2.2.2.2.2
  refine (PFnExactJournalText.laws_FnExactJournalText.calls (k := K) (r := true) (w := W) (a0_0 := a0_0) (a0_1 := a0_1) (a0_2 := a0_2) (a0_3 := a0_3) (a0_4 := a0_4) (A0_5 := A0_5) (c0_5 := c0_5) (l0_5 := l0_5) (hc0_5 := hg0.2.2.2.2.2.1) (hr0_5 := hg0.2.2.2.2.2.2.1) (h := hp)).mono fun e W' ⟨he, bel⟩ => ?_
  subst he
  exact ⟨_, rfl, _, _, _, [], _, [], hW', trodAll_mk1 (shut_bool Try.underlying4 _), (trodAll_cons_mk (Below.trod laidOut (by kernel_rfl) (of_decide_eq_true (by kernel_rfl)) k0 bel lt0) trodAll_mk0), rfl, bel.frame _, fun h => by cases h⟩
theorem over : Rows.fnExactJournalTextRow.holds Try.pinned (OpenSpec.ofChange Rows.fnExactJournalTextSpec) :=
  OpenClaim.holds_of_wide 3 Try.f3 rfl rfl rfl rfl rfl rfl rfl ⟨rfl, rfl, rfl, rfl, rfl⟩ rfl rfl rfl rfl rfl (by kernel_rfl) Try.func3 (by kernel_rfl)
    (of_decide_eq_true (by kernel_rfl)) (by unfold Func.isWrapper; first | (rw [if_pos (by decide +kernel)]; kernel_rfl) | (rw [if_neg (by decide +kernel)]; exact ⟨rfl, rfl⟩))
    (fun os started H enc _ => lifted os started H enc)
theorem proved : Rows.FnExactJournalTextSaid := over
end Go.Proofs.Ytgeagknnfkgihaa.fnExactJournalText
namespace Go.Proofs.Ytgeagknnfkgihaa
theorem fnExactJournalText_holds : Rows.FnExactJournalTextSaid := fnExactJournalText.proved
end Go.Proofs.Ytgeagknnfkgihaa
