/- The row of FnExactLogPut: the statement FnExactLogPutSaid, out of the pure theorem and the printed walk: for every input the call returns true and its arguments read as before. No condition. -/
import Derived.Test.YtpmdcplmnipdeaaRows
import Derived.Test.YtpmdcplmnipdeaaQFnExactLogPutx8
import Derived.Test.YtpmdcplmnipdeaaPureFnExactLogPut
import Derived.Test.YtpmdcplmnipdeaaOpen
import Derived.WalkKit
import Derived.ProofKit
import Derived.OpenShut
import Derived.ShutString
import Derived.ChangeOld
import Derived.Below
import Derived.SizedLaws
import Derived.Lib.SmallJoins
import Derived.Deep.Strs
namespace Go.Proofs.Ytpmdcplmnipdeaa.fnExactLogPut
open Go.ChangeShapes Go.WideShapes Go.ChangeAt Go.RowKit Go.Proofs.Ytpmdcplmnipdeaa.PFnExactLogPut Go.Proofs.YtpmdcplmnipdeaaW.PrintWords Go.Proofs.Ytpmdcplmnipdeaa.Opens
open Go.ChangeMaps (open_string shut_string)
set_option linter.unusedVariables false
set_option linter.unusedSimpArgs false
theorem own : ownKnob Try.prog.godebug = none := by kernel_rfl
theorem laidOut : laidOutB Try.prog = true := by kernel_rfl
set_option maxRecDepth 100000 in
theorem opn83 {H : Type} {enc : TypeId × Value → H} {w : World} {base : Nat} {spare : Nat → Bool} {held : Bool} {fuel : Nat} {cs : List Value} {x : DataW H × List MemPlace} (h : DataW.trod enc Try.prog w base spare held fuel 83 cs = some x) :
    ∃ (z0 : Int) (z1 : Int) (z2 : ByteArray), cs = [.int .i64 z0, .int .i64 z1, .string z2] ∧ (Lit.int .i64 z0).wf = true ∧ (Lit.int .i64 z1).wf = true ∧ z2.size ≤ maxLen := by
  obtain ⟨y0, y1, y2, n, _, hl, g0, g1, g2⟩ := Deep.trod_struct3 Try.underlying83 h
  have hc : Try.prog.cellsOf 83 = 3 := by kernel_rfl
  rw [hc] at hl
  have hc3 : Try.prog.cellsOf 3 = 1 := by kernel_rfl
  have hc9 : Try.prog.cellsOf 9 = 1 := by kernel_rfl
  match cs, hl with
  | [b0, b1, b2], _ =>
  simp only [hc3, List.drop_zero, List.drop_succ_cons, List.take_succ_cons, List.take_zero] at g0
  simp only [hc3, List.drop_zero, List.drop_succ_cons, List.take_succ_cons, List.take_zero] at g1
  simp only [hc9, List.drop_zero, List.drop_succ_cons, List.take_succ_cons, List.take_zero] at g2
  obtain ⟨z0, e0, _, w0⟩ := DataW.trod_int Try.underlying3 g0
  obtain ⟨z1, e1, _, w1⟩ := DataW.trod_int Try.underlying3 g1
  obtain ⟨z2, e2, _, w2⟩ := DataW.trod_string Try.underlying9 g2
  simp only [List.cons.injEq, and_true] at e0 e1 e2
  subst e0
  subst e1
  subst e2
  exact ⟨_, _, _, rfl, w0, w1, w2⟩

set_option maxRecDepth 100000 in
theorem el83 {H : Type} {enc : TypeId × Value → H} {w : World} {base : Nat} {spare : Nat → Bool} {held : Bool} {fuel : Nat} {cs : List Value} {x : DataW H × List MemPlace} (h : DataW.trod enc Try.prog w base spare held fuel 83 cs = some x) : ∃ y : S83, Kd.K k83 w y cs ∧ ((Lit.int .i64 y.f0).wf = true ∧ (Lit.int .i64 y.f1).wf = true ∧ y.f2.size ≤ maxLen) := by
  obtain ⟨z0, z1, z2, rfl, hg⟩ := opn83 h
  exact ⟨⟨z0, z1, z2⟩, k83_mk w ⟨z0, z1, z2⟩, hg⟩

set_option maxRecDepth 100000 in
theorem opn33 {H : Type} {enc : TypeId × Value → H} {w : World} {base : Nat} {spare : Nat → Bool} {held : Bool} {fuel : Nat} {cs : List Value} {x : DataW H × List MemPlace} (h : DataW.trod enc Try.prog w base spare held fuel 33 cs = some x) :
    ∃ (A : Option Addr) (c : Nat) (l : List S83), cs = [.slice A l.length c] ∧ l.length ≤ c ∧ Kd.C k83 w A l.length l ∧ l.length ≤ 9223372036854775807 ∧ ∀ y ∈ l, (Lit.int .i64 y.f0).wf = true ∧ (Lit.int .i64 y.f1).wf = true ∧ y.f2.size ≤ maxLen := by
  letI : Inhabited S83 := ⟨z83⟩
  obtain ⟨A, c, l, h1, h2, h3, h4, h5⟩ := open_row k83 (fun y => (Lit.int .i64 y.f0).wf = true ∧ (Lit.int .i64 y.f1).wf = true ∧ y.f2.size ≤ maxLen) Try.underlying33 (by kernel_rfl) (fun n cs x h => el83 h) h
  exact ⟨A, c, l, h1, h2, h3, h4, h5⟩

set_option maxRecDepth 100000 in
theorem opn35 {H : Type} {enc : TypeId × Value → H} {w : World} {base : Nat} {spare : Nat → Bool} {held : Bool} {fuel : Nat} {cs : List Value} {x : DataW H × List MemPlace} (h : DataW.trod enc Try.prog w base spare held fuel 35 cs = some x) :
    ∃ (z0 : Int) (z1 : Int) (A2 : Option Addr) (c2 : Nat) (l2 : List S83), cs = [.int .i64 z0, .int .i64 z1, .slice A2 l2.length c2] ∧ (Lit.int .i64 z0).wf = true ∧ (Lit.int .i64 z1).wf = true ∧ (l2.length ≤ c2 ∧ Kd.C k83 w A2 l2.length l2 ∧ l2.length ≤ 9223372036854775807 ∧ ∀ y ∈ l2, (Lit.int .i64 y.f0).wf = true ∧ (Lit.int .i64 y.f1).wf = true ∧ y.f2.size ≤ maxLen) := by
  obtain ⟨y0, y1, y2, n, _, hl, g0, g1, g2⟩ := Deep.trod_struct3 Try.underlying35 h
  have hc : Try.prog.cellsOf 35 = 3 := by kernel_rfl
  rw [hc] at hl
  have hc3 : Try.prog.cellsOf 3 = 1 := by kernel_rfl
  have hc33 : Try.prog.cellsOf 33 = 1 := by kernel_rfl
  match cs, hl with
  | [b0, b1, b2], _ =>
  simp only [hc3, List.drop_zero, List.drop_succ_cons, List.take_succ_cons, List.take_zero] at g0
  simp only [hc3, List.drop_zero, List.drop_succ_cons, List.take_succ_cons, List.take_zero] at g1
  simp only [hc33, List.drop_zero, List.drop_succ_cons, List.take_succ_cons, List.take_zero] at g2
  obtain ⟨z0, e0, _, w0⟩ := DataW.trod_int Try.underlying3 g0
  obtain ⟨z1, e1, _, w1⟩ := DataW.trod_int Try.underlying3 g1
  obtain ⟨A2, c2, l2, e2, q2⟩ := opn33 g2
  simp only [List.cons.injEq, and_true] at e0 e1 e2
  subst e0
  subst e1
  subst e2
  exact ⟨_, _, _, _, _, rfl, w0, w1, q2⟩

set_option maxRecDepth 100000 in
theorem lifted (os : Os) (started : os.Started) (H : Type) (enc : TypeId × Value → H) :
    ReturnsInHanded {} Try.checked os 9 .any (Rows.fnExactLogPutSpec.pre6 enc Try.prog Try.f9 Rows.fnExactLogPutRow.domain false) (Rows.fnExactLogPutSpec.post enc Try.prog Try.f9 false true false false) := by
  refine returnsInHanded_of_change_sized (C := Try.checked) own started (by kernel_rfl) Try.func9
    (ChangeSpec.witness6 (enc := enc) (C := Try.checked) false ⟨#[], #[.agg #[.int .i64 0, .int .i64 0, .slice none 0 0], .int .i64 0, .agg #[.int .i64 0, .int .i64 0, .string ⟨#[]⟩]], []⟩ 8 (by kernel_rfl) (by kernel_rfl) (by kernel_rfl) (by kernel_rfl)) ?_
  intro W base args ds gs before hval0 hW hcnd hsz0 _
  have hval : ∀ (j : Nat) t v, Try.f9.params[j]? = some t → args[j]? = some v → Value.okWide Try.prog W .any base t v := hval0
  have hW' := hW
  obtain ⟨p, q, hA0, hV, rfl, hfz, hnd⟩ := hW
  have hA : DataW.TrodAll enc Try.prog W 0 (fun _ => true) true Try.f9.params.toList args.toList ds p := hA0
  rw [Try.params9] at hA hval
  obtain ⟨v0, vs0, d0, ds0, p0, q0, hargs, rfl, rfl, h0, r0⟩ := trodAll_cons hA
  obtain ⟨v1, vs1, d1, ds1, p1, q1, rfl, rfl, rfl, h1, r1⟩ := trodAll_cons r0
  obtain ⟨v2, vs2, d2, ds2, p2, q2, rfl, rfl, rfl, h2, r2⟩ := trodAll_cons r1
  obtain ⟨rfl, rfl, rfl⟩ := trodAll_nil r2
  obtain rfl : args = #[v0, v1, v2] := by cases args; simp_all
  obtain ⟨rfl, rfl⟩ := trodVars_none hV
  have k0 := h0
  have lt0 : ∀ x ∈ p0, x.block < W.heap.size := by obtain ⟨m, hm⟩ := k0; exact DataW.trod_lt m _ _ _ hm
  obtain ⟨s0, rfl, hz0⟩ := okWide_struct Try.underlying35 (hval 0 35 v0 rfl rfl)
  obtain ⟨a0_0, a0_1, A0_2, c0_2, l0_2, he0, hg0⟩ : ∃ (a0_0 : Int) (a0_1 : Int) (A0_2 : Option Addr) (c0_2 : Nat) (l0_2 : List S83), s0 = #[.int .i64 a0_0, .int .i64 a0_1, .slice A0_2 l0_2.length c0_2] ∧ (Lit.int .i64 a0_0).wf = true ∧ (Lit.int .i64 a0_1).wf = true ∧ (l0_2.length ≤ c0_2 ∧ Kd.C k83 W A0_2 l0_2.length l0_2 ∧ l0_2.length ≤ 9223372036854775807 ∧ ∀ y ∈ l0_2, (Lit.int .i64 y.f0).wf = true ∧ (Lit.int .i64 y.f1).wf = true ∧ y.f2.size ≤ maxLen) := by
    obtain ⟨fuel, hf⟩ := h0
    obtain ⟨a0_0, a0_1, A0_2, c0_2, l0_2, h1, h2⟩ := opn35 hf
    refine ⟨a0_0, a0_1, A0_2, c0_2, l0_2, ?_, h2⟩
    simp only [Value.cells] at h1
    exact Array.toList_inj.1 h1
  subst he0
  have k1 := h1
  have lt1 : ∀ x ∈ p1, x.block < W.heap.size := by obtain ⟨m, hm⟩ := k1; exact DataW.trod_lt m _ _ _ hm
  obtain ⟨a1, rfl, rfl, rfl, wa1⟩ := open_int Try.underlying3 (hval 1 3 v1 rfl rfl) h1
  have k2 := h2
  have lt2 : ∀ x ∈ p2, x.block < W.heap.size := by obtain ⟨m, hm⟩ := k2; exact DataW.trod_lt m _ _ _ hm
  obtain ⟨s2, rfl, hz2⟩ := okWide_struct Try.underlying83 (hval 2 83 v2 rfl rfl)
  obtain ⟨a2_0, a2_1, a2_2, he2, hg2⟩ : ∃ (a2_0 : Int) (a2_1 : Int) (a2_2 : ByteArray), s2 = #[.int .i64 a2_0, .int .i64 a2_1, .string a2_2] ∧ (Lit.int .i64 a2_0).wf = true ∧ (Lit.int .i64 a2_1).wf = true ∧ a2_2.size ≤ maxLen := by
    obtain ⟨fuel, hf⟩ := h2
    obtain ⟨a2_0, a2_1, a2_2, h1, h2⟩ := opn83 hf
    refine ⟨a2_0, a2_1, a2_2, ?_, h2⟩
    simp only [Value.cells] at h1
    exact Array.toList_inj.1 h1
  subst he2
  clear hA0 hval0 hsz0
  obtain ⟨K, hp⟩ := Pure.FnExactLogPut a0_0 a0_1 l0_2 a1 a2_0 a2_1 a2_2 hg0.1 hg0.2.1 hg0.2.2.2.2 wa1 hg2.1 hg2.2.1 hg2.2.2
  refine (PFnExactLogPut.laws_FnExactLogPut.calls (k := K) (r := true) (w := W) (a0_0 := a0_0) (a0_1 := a0_1) (A0_2 := A0_2) (c0_2 := c0_2) (l0_2 := l0_2) (hc0_2 := hg0.2.2.1) (hr0_2 := hg0.2.2.2.1) (a1 := a1) (a2_0 := a2_0) (a2_1 := a2_1) (a2_2 := a2_2) (h := hp)).mono fun e W' ⟨he, bel⟩ => ?_
  subst he
  exact ⟨_, rfl, _, _, _, [], _, [], hW', trodAll_mk1 (shut_bool Try.underlying4 _), (trodAll_cons_mk (Below.trod laidOut (by kernel_rfl) (of_decide_eq_true (by kernel_rfl)) k0 bel lt0) (trodAll_cons_mk (Below.trod laidOut (by kernel_rfl) (of_decide_eq_true (by kernel_rfl)) k1 bel lt1) (trodAll_cons_mk (Below.trod laidOut (by kernel_rfl) (of_decide_eq_true (by kernel_rfl)) k2 bel lt2) trodAll_mk0))), rfl, bel.frame _, fun h => by cases h⟩
theorem over : Rows.fnExactLogPutRow.holds Try.pinned (OpenSpec.ofChange Rows.fnExactLogPutSpec) :=
  OpenClaim.holds_of_wide 9 Try.f9 rfl rfl rfl rfl rfl rfl rfl ⟨rfl, rfl, rfl, rfl, rfl⟩ rfl rfl rfl rfl rfl (by kernel_rfl) Try.func9 (by kernel_rfl)
    (of_decide_eq_true (by kernel_rfl)) (by unfold Func.isWrapper; first | (rw [if_pos (by decide +kernel)]; kernel_rfl) | (rw [if_neg (by decide +kernel)]; exact ⟨rfl, rfl⟩))
    (fun os started H enc _ => lifted os started H enc)
theorem proved : Rows.FnExactLogPutSaid := over
end Go.Proofs.Ytpmdcplmnipdeaa.fnExactLogPut
namespace Go.Proofs.Ytpmdcplmnipdeaa
theorem fnExactLogPut_holds : Rows.FnExactLogPutSaid := fnExactLogPut.proved
end Go.Proofs.Ytpmdcplmnipdeaa
