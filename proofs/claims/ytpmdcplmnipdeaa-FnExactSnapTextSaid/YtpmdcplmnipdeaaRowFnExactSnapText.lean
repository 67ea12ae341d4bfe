/- The row of FnExactSnapText: the statement FnExactSnapTextSaid, out of the pure theorem and the printed walk: for every input the call returns true and its arguments read as before. No condition. -/
import Derived.Test.YtpmdcplmnipdeaaRows
import Derived.Test.YtpmdcplmnipdeaaQFnExactSnapTextx5
import Derived.Test.YtpmdcplmnipdeaaPureFnExactSnapText
import Derived.Test.YtpmdcplmnipdeaaOpen
import Derived.WalkKit
import Derived.ProofKit
import Derived.OpenShut
import Derived.ShutString
import Derived.ChangeOld
import Derived.Below
import Derived.SizedLaws
import Derived.Lib.SmallJoins
import Derived.Deep.Strs
namespace Go.Proofs.Ytpmdcplmnipdeaa.fnExactSnapText
open Go.ChangeShapes Go.WideShapes Go.ChangeAt Go.RowKit Go.Proofs.Ytpmdcplmnipdeaa.PFnExactSnapText Go.Proofs.YtpmdcplmnipdeaaW.PrintWords Go.Proofs.Ytpmdcplmnipdeaa.Opens
open Go.ChangeMaps (open_string shut_string)
set_option linter.unusedVariables false
set_option linter.unusedSimpArgs false
theorem own : ownKnob Try.prog.godebug = none := by kernel_rfl
theorem laidOut : laidOutB Try.prog = true := by kernel_rfl
set_option maxRecDepth 100000 in
theorem el3 {H : Type} {enc : TypeId × Value → H} {w : World} {base : Nat} {spare : Nat → Bool} {held : Bool} {fuel : Nat} {cs : List Value} {x : DataW H × List MemPlace} (h : DataW.trod enc Try.prog w base spare held fuel 3 cs = some x) : ∃ y : Int, Kd.K (Kd.int .i64) w y cs ∧ ((Lit.int .i64 y).wf = true) := by
  obtain ⟨n, rfl, _, hw⟩ := DataW.trod_int Try.underlying3 h
  exact ⟨n, rfl, hw⟩

set_option maxRecDepth 100000 in
theorem opn24 {H : Type} {enc : TypeId × Value → H} {w : World} {base : Nat} {spare : Nat → Bool} {held : Bool} {fuel : Nat} {cs : List Value} {x : DataW H × List MemPlace} (h : DataW.trod enc Try.prog w base spare held fuel 24 cs = some x) :
    ∃ (A : Option Addr) (c : Nat) (l : List Int), cs = [.slice A l.length c] ∧ l.length ≤ c ∧ Kd.C (Kd.int .i64) w A l.length l ∧ l.length ≤ 9223372036854775807 ∧ ∀ y ∈ l, (Lit.int .i64 y).wf = true := by
  obtain ⟨A, c, l, h1, h2, h3, h4, h5⟩ := open_row (Kd.int .i64) (fun y => (Lit.int .i64 y).wf = true) Try.underlying24 (by kernel_rfl) (fun n cs x h => el3 h) h
  exact ⟨A, c, l, h1, h2, h3, h4, h5⟩

set_option maxRecDepth 100000 in
theorem opn45 {H : Type} {enc : TypeId × Value → H} {w : World} {base : Nat} {spare : Nat → Bool} {held : Bool} {fuel : Nat} {cs : List Value} {x : DataW H × List MemPlace} (h : DataW.trod enc Try.prog w base spare held fuel 45 cs = some x) :
    ∃ (z0 : Int) (z1 : Int) (A2 : Option Addr) (c2 : Nat) (l2 : List Int) (z3 : ByteArray), cs = [.int .i64 z0, .int .i64 z1, .slice A2 l2.length c2, .string z3] ∧ (Lit.int .i64 z0).wf = true ∧ (Lit.int .i64 z1).wf = true ∧ (l2.length ≤ c2 ∧ Kd.C (Kd.int .i64) w A2 l2.length l2 ∧ l2.length ≤ 9223372036854775807 ∧ ∀ y ∈ l2, (Lit.int .i64 y).wf = true) ∧ z3.size ≤ maxLen := by
  obtain ⟨y0, y1, y2, y3, n, _, hl, g0, g1, g2, g3⟩ := Joins.trod_struct4 Try.underlying45 h
  have hc : Try.prog.cellsOf 45 = 4 := by kernel_rfl
  rw [hc] at hl
  have hc3 : Try.prog.cellsOf 3 = 1 := by kernel_rfl
  have hc9 : Try.prog.cellsOf 9 = 1 := by kernel_rfl
  have hc24 : Try.prog.cellsOf 24 = 1 := by kernel_rfl
  match cs, hl with
  | [b0, b1, b2, b3], _ =>
  simp only [hc3, List.drop_zero, List.drop_succ_cons, List.take_succ_cons, List.take_zero] at g0
  simp only [hc3, List.drop_zero, List.drop_succ_cons, List.take_succ_cons, List.take_zero] at g1
  simp only [hc24, List.drop_zero, List.drop_succ_cons, List.take_succ_cons, List.take_zero] at g2
  simp only [hc9, List.drop_zero, List.drop_succ_cons, List.take_succ_cons, List.take_zero] at g3
  obtain ⟨z0, e0, _, w0⟩ := DataW.trod_int Try.underlying3 g0
  obtain ⟨z1, e1, _, w1⟩ := DataW.trod_int Try.underlying3 g1
  obtain ⟨A2, c2, l2, e2, q2⟩ := opn24 g2
  obtain ⟨z3, e3, _, w3⟩ := DataW.trod_string Try.underlying9 g3
  simp only [List.cons.injEq, and_true] at e0 e1 e2 e3
  subst e0
  subst e1
  subst e2
  subst e3
  exact ⟨_, _, _, _, _, _, rfl, w0, w1, q2, w3⟩

set_option maxRecDepth 100000 in
theorem lifted (os : Os) (started : os.Started) (H : Type) (enc : TypeId × Value → H) :
    ReturnsInHanded {} Try.checked os 5 .any (Rows.fnExactSnapTextSpec.pre6 enc Try.prog Try.f5 Rows.fnExactSnapTextRow.domain false) (Rows.fnExactSnapTextSpec.post enc Try.prog Try.f5 false true false false) := by
  refine returnsInHanded_of_change_sized (C := Try.checked) own started (by kernel_rfl) Try.func5
    (ChangeSpec.witness6 (enc := enc) (C := Try.checked) false ⟨#[], #[.agg #[.int .i64 0, .int .i64 0, .slice none 0 0, .string ⟨#[]⟩]], []⟩ 8 (by kernel_rfl) (by kernel_rfl) (by kernel_rfl) (by kernel_rfl)) ?_
  intro W base args ds gs before hval0 hW hcnd hsz0 _
  have hval : ∀ (j : Nat) t v, Try.f5.params[j]? = some t → args[j]? = some v → Value.okWide Try.prog W .any base t v := hval0
  have hW' := hW
  obtain ⟨p, q, hA0, hV, rfl, hfz, hnd⟩ := hW
  have hA : DataW.TrodAll enc Try.prog W 0 (fun _ => true) true Try.f5.params.toList args.toList ds p := hA0
  rw [Try.params5] at hA hval
  obtain ⟨v0, vs0, d0, ds0, p0, q0, hargs, rfl, rfl, h0, r0⟩ := trodAll_cons hA
  obtain ⟨rfl, rfl, rfl⟩ := trodAll_nil r0
  obtain rfl : args = #[v0] := by cases args; simp_all
  obtain ⟨rfl, rfl⟩ := trodVars_none hV
  have k0 := h0
  have lt0 : ∀ x ∈ p0, x.block < W.heap.size := by obtain ⟨m, hm⟩ := k0; exact DataW.trod_lt m _ _ _ hm
  obtain ⟨s0, rfl, hz0⟩ := okWide_struct Try.underlying45 (hval 0 45 v0 rfl rfl)
  obtain ⟨a0_0, a0_1, A0_2, c0_2, l0_2, a0_3, he0, hg0⟩ : ∃ (a0_0 : Int) (a0_1 : Int) (A0_2 : Option Addr) (c0_2 : Nat) (l0_2 : List Int) (a0_3 : ByteArray), s0 = #[.int .i64 a0_0, .int .i64 a0_1, .slice A0_2 l0_2.length c0_2, .string a0_3] ∧ (Lit.int .i64 a0_0).wf = true ∧ (Lit.int .i64 a0_1).wf = true ∧ (l0_2.length ≤ c0_2 ∧ Kd.C (Kd.int .i64) W A0_2 l0_2.length l0_2 ∧ l0_2.length ≤ 9223372036854775807 ∧ ∀ y ∈ l0_2, (Lit.int .i64 y).wf = true) ∧ a0_3.size ≤ maxLen := by
    obtain ⟨fuel, hf⟩ := h0
    obtain ⟨a0_0, a0_1, A0_2, c0_2, l0_2, a0_3, h1, h2⟩ := opn45 hf
    refine ⟨a0_0, a0_1, A0_2, c0_2, l0_2, a0_3, ?_, h2⟩
    simp only [Value.cells] at h1
    exact Array.toList_inj.1 h1
  subst he0
  clear hA0 hval0 hsz0
  obtain ⟨K, hp⟩ := Pure.FnExactSnapText a0_0 a0_1 l0_2 a0_3 hg0.1 hg0.2.1 hg0.2.2.1.2.2 hg0.2.2.2
  refine (PFnExactSnapText.laws_FnExactSnapText.calls (k := K) (r := true) (w := W) (a0_0 := a0_0) (a0_1 := a0_1) (A0_2 := A0_2) (c0_2 := c0_2) (l0_2 := l0_2) (a0_3 := a0_3) (hc0_2 := hg0.2.2.1.1) (hr0_2 := hg0.2.2.1.2.1) (h := hp)).mono fun e W' ⟨he, bel⟩ => ?_
  subst he
  exact ⟨_, rfl, _, _, _, [], _, [], hW', trodAll_mk1 (shut_bool Try.underlying4 _), (trodAll_cons_mk (Below.trod laidOut (by kernel_rfl) (of_decide_eq_true (by kernel_rfl)) k0 bel lt0) trodAll_mk0), rfl, bel.frame _, fun h => by cases h⟩
theorem over : Rows.fnExactSnapTextRow.holds Try.pinned (OpenSpec.ofChange Rows.fnExactSnapTextSpec) :=
  OpenClaim.holds_of_wide 5 Try.f5 rfl rfl rfl rfl rfl rfl rfl ⟨rfl, rfl, rfl, rfl, rfl⟩ rfl rfl rfl rfl rfl (by kernel_rfl) Try.func5 (by kernel_rfl)
    (of_decide_eq_true (by kernel_rfl)) (by unfold Func.isWrapper; first | (rw [if_pos (by decide +kernel)]; kernel_rfl) | (rw [if_neg (by decide +kernel)]; exact ⟨rfl, rfl⟩))
    (fun os started H enc _ => lifted os started H enc)
theorem proved : Rows.FnExactSnapTextSaid := over
end Go.Proofs.Ytpmdcplmnipdeaa.fnExactSnapText
namespace Go.Proofs.Ytpmdcplmnipdeaa
theorem fnExactSnapText_holds : Rows.FnExactSnapTextSaid := fnExactSnapText.proved
end Go.Proofs.Ytpmdcplmnipdeaa
