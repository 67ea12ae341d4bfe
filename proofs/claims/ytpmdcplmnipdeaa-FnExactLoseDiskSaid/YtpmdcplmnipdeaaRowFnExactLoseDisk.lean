/- The row of FnExactLoseDisk: the statement FnExactLoseDiskSaid, out of the pure theorem and the printed walk: for every input the call returns true and its arguments read as before. No condition. -/
import Derived.Test.YtpmdcplmnipdeaaRows
import Derived.Test.YtpmdcplmnipdeaaQFnExactLoseDiskx10
import Derived.Test.YtpmdcplmnipdeaaPureFnExactLoseDisk
import Derived.Test.YtpmdcplmnipdeaaOpen
import Derived.WalkKit
import Derived.ProofKit
import Derived.OpenShut
import Derived.ShutString
import Derived.ChangeOld
import Derived.Below
import Derived.SizedLaws
import Derived.Lib.SmallJoins
import Derived.Deep.Strs
namespace Go.Proofs.Ytpmdcplmnipdeaa.fnExactLoseDisk
open Go.ChangeShapes Go.WideShapes Go.ChangeAt Go.RowKit Go.Proofs.Ytpmdcplmnipdeaa.PFnExactLoseDisk Go.Proofs.YtpmdcplmnipdeaaW.PrintWords Go.Proofs.Ytpmdcplmnipdeaa.Opens
open Go.ChangeMaps (open_string shut_string)
set_option linter.unusedVariables false
set_option linter.unusedSimpArgs false
theorem own : ownKnob Try.prog.godebug = none := by kernel_rfl
theorem laidOut : laidOutB Try.prog = true := by kernel_rfl
set_option maxRecDepth 100000 in
theorem opn147 {H : Type} {enc : TypeId × Value → H} {w : World} {base : Nat} {spare : Nat → Bool} {held : Bool} {fuel : Nat} {cs : List Value} {x : DataW H × List MemPlace} (h : DataW.trod enc Try.prog w base spare held fuel 147 cs = some x) :
    ∃ (z0 : ByteArray) (z1 : ByteArray) (z2 : Int), cs = [.string z0, .string z1, .int .i64 z2] ∧ z0.size ≤ maxLen ∧ z1.size ≤ maxLen ∧ (Lit.int .i64 z2).wf = true := by
  obtain ⟨y0, y1, y2, n, _, hl, g0, g1, g2⟩ := Deep.trod_struct3 Try.underlying147 h
  have hc : Try.prog.cellsOf 147 = 3 := by kernel_rfl
  rw [hc] at hl
  have hc3 : Try.prog.cellsOf 3 = 1 := by kernel_rfl
  have hc9 : Try.prog.cellsOf 9 = 1 := by kernel_rfl
  match cs, hl with
  | [b0, b1, b2], _ =>
  simp only [hc9, List.drop_zero, List.drop_succ_cons, List.take_succ_cons, List.take_zero] at g0
  simp only [hc9, List.drop_zero, List.drop_succ_cons, List.take_succ_cons, List.take_zero] at g1
  simp only [hc3, List.drop_zero, List.drop_succ_cons, List.take_succ_cons, List.take_zero] at g2
  obtain ⟨z0, e0, _, w0⟩ := DataW.trod_string Try.underlying9 g0
  obtain ⟨z1, e1, _, w1⟩ := DataW.trod_string Try.underlying9 g1
  obtain ⟨z2, e2, _, w2⟩ := DataW.trod_int Try.underlying3 g2
  simp only [List.cons.injEq, and_true] at e0 e1 e2
  subst e0
  subst e1
  subst e2
  exact ⟨_, _, _, rfl, w0, w1, w2⟩

set_option maxRecDepth 100000 in
theorem el147 {H : Type} {enc : TypeId × Value → H} {w : World} {base : Nat} {spare : Nat → Bool} {held : Bool} {fuel : Nat} {cs : List Value} {x : DataW H × List MemPlace} (h : DataW.trod enc Try.prog w base spare held fuel 147 cs = some x) : ∃ y : S147, Kd.K k147 w y cs ∧ (y.f0.size ≤ maxLen ∧ y.f1.size ≤ maxLen ∧ (Lit.int .i64 y.f2).wf = true) := by
  obtain ⟨z0, z1, z2, rfl, hg⟩ := opn147 h
  exact ⟨⟨z0, z1, z2⟩, k147_mk w ⟨z0, z1, z2⟩, hg⟩

set_option maxRecDepth 100000 in
theorem opn67 {H : Type} {enc : TypeId × Value → H} {w : World} {base : Nat} {spare : Nat → Bool} {held : Bool} {fuel : Nat} {cs : List Value} {x : DataW H × List MemPlace} (h : DataW.trod enc Try.prog w base spare held fuel 67 cs = some x) :
    ∃ (A : Option Addr) (c : Nat) (l : List S147), cs = [.slice A l.length c] ∧ l.length ≤ c ∧ Kd.C k147 w A l.length l ∧ l.length ≤ 9223372036854775807 ∧ ∀ y ∈ l, y.f0.size ≤ maxLen ∧ y.f1.size ≤ maxLen ∧ (Lit.int .i64 y.f2).wf = true := by
  letI : Inhabited S147 := ⟨z147⟩
  obtain ⟨A, c, l, h1, h2, h3, h4, h5⟩ := open_row k147 (fun y => y.f0.size ≤ maxLen ∧ y.f1.size ≤ maxLen ∧ (Lit.int .i64 y.f2).wf = true) Try.underlying67 (by kernel_rfl) (fun n cs x h => el147 h) h
  exact ⟨A, c, l, h1, h2, h3, h4, h5⟩

set_option maxRecDepth 100000 in
theorem opn69 {H : Type} {enc : TypeId × Value → H} {w : World} {base : Nat} {spare : Nat → Bool} {held : Bool} {fuel : Nat} {cs : List Value} {x : DataW H × List MemPlace} (h : DataW.trod enc Try.prog w base spare held fuel 69 cs = some x) :
    ∃ (A0 : Option Addr) (c0 : Nat) (l0 : List S147), cs = [.slice A0 l0.length c0] ∧ (l0.length ≤ c0 ∧ Kd.C k147 w A0 l0.length l0 ∧ l0.length ≤ 9223372036854775807 ∧ ∀ y ∈ l0, y.f0.size ≤ maxLen ∧ y.f1.size ≤ maxLen ∧ (Lit.int .i64 y.f2).wf = true) := by
  obtain ⟨y0, n, _, hl, g0⟩ := trod_struct1 Try.underlying69 h
  have hc : Try.prog.cellsOf 69 = 1 := by kernel_rfl
  rw [hc] at hl
  have hc67 : Try.prog.cellsOf 67 = 1 := by kernel_rfl
  match cs, hl with
  | [b0], _ =>
  simp only [hc67, List.drop_zero, List.drop_succ_cons, List.take_succ_cons, List.take_zero] at g0
  obtain ⟨A0, c0, l0, e0, q0⟩ := opn67 g0
  simp only [List.cons.injEq, and_true] at e0
  subst e0
  exact ⟨_, _, _, rfl, q0⟩

set_option maxRecDepth 100000 in
theorem el3 {H : Type} {enc : TypeId × Value → H} {w : World} {base : Nat} {spare : Nat → Bool} {held : Bool} {fuel : Nat} {cs : List Value} {x : DataW H × List MemPlace} (h : DataW.trod enc Try.prog w base spare held fuel 3 cs = some x) : ∃ y : Int, Kd.K (Kd.int .i64) w y cs ∧ ((Lit.int .i64 y).wf = true) := by
  obtain ⟨n, rfl, _, hw⟩ := DataW.trod_int Try.underlying3 h
  exact ⟨n, rfl, hw⟩

set_option maxRecDepth 100000 in
theorem opn24 {H : Type} {enc : TypeId × Value → H} {w : World} {base : Nat} {spare : Nat → Bool} {held : Bool} {fuel : Nat} {cs : List Value} {x : DataW H × List MemPlace} (h : DataW.trod enc Try.prog w base spare held fuel 24 cs = some x) :
    ∃ (A : Option Addr) (c : Nat) (l : List Int), cs = [.slice A l.length c] ∧ l.length ≤ c ∧ Kd.C (Kd.int .i64) w A l.length l ∧ l.length ≤ 9223372036854775807 ∧ ∀ y ∈ l, (Lit.int .i64 y).wf = true := by
  obtain ⟨A, c, l, h1, h2, h3, h4, h5⟩ := open_row (Kd.int .i64) (fun y => (Lit.int .i64 y).wf = true) Try.underlying24 (by kernel_rfl) (fun n cs x h => el3 h) h
  exact ⟨A, c, l, h1, h2, h3, h4, h5⟩

set_option maxRecDepth 100000 in
theorem lifted (os : Os) (started : os.Started) (H : Type) (enc : TypeId × Value → H) :
    ReturnsInHanded {} Try.checked os 8 .any (Rows.fnExactLoseDiskSpec.pre6 enc Try.prog Try.f8 Rows.fnExactLoseDiskRow.domain false) (Rows.fnExactLoseDiskSpec.post enc Try.prog Try.f8 false true false false) := by
  refine returnsInHanded_of_change_sized (C := Try.checked) own started (by kernel_rfl) Try.func8
    (ChangeSpec.witness6 (enc := enc) (C := Try.checked) false ⟨#[], #[.agg #[.slice none 0 0], .slice none 0 0], []⟩ 8 (by kernel_rfl) (by kernel_rfl) (by kernel_rfl) (by kernel_rfl)) ?_
  intro W base args ds gs before hval0 hW hcnd hsz0 _
  have hval : ∀ (j : Nat) t v, Try.f8.params[j]? = some t → args[j]? = some v → Value.okWide Try.prog W .any base t v := hval0
  have hW' := hW
  obtain ⟨p, q, hA0, hV, rfl, hfz, hnd⟩ := hW
  have hA : DataW.TrodAll enc Try.prog W 0 (fun _ => true) true Try.f8.params.toList args.toList ds p := hA0
  rw [Try.params8] at hA hval
  obtain ⟨v0, vs0, d0, ds0, p0, q0, hargs, rfl, rfl, h0, r0⟩ := trodAll_cons hA
  obtain ⟨v1, vs1, d1, ds1, p1, q1, rfl, rfl, rfl, h1, r1⟩ := trodAll_cons r0
  obtain ⟨rfl, rfl, rfl⟩ := trodAll_nil r1
  obtain rfl : args = #[v0, v1] := by cases args; simp_all
  obtain ⟨rfl, rfl⟩ := trodVars_none hV
  have k0 := h0
  have lt0 : ∀ x ∈ p0, x.block < W.heap.size := by obtain ⟨m, hm⟩ := k0; exact DataW.trod_lt m _ _ _ hm
  obtain ⟨s0, rfl, hz0⟩ := okWide_struct Try.underlying69 (hval 0 69 v0 rfl rfl)
  obtain ⟨A0_0, c0_0, l0_0, he0, hg0⟩ : ∃ (A0_0 : Option Addr) (c0_0 : Nat) (l0_0 : List S147), s0 = #[.slice A0_0 l0_0.length c0_0] ∧ (l0_0.length ≤ c0_0 ∧ Kd.C k147 W A0_0 l0_0.length l0_0 ∧ l0_0.length ≤ 9223372036854775807 ∧ ∀ y ∈ l0_0, y.f0.size ≤ maxLen ∧ y.f1.size ≤ maxLen ∧ (Lit.int .i64 y.f2).wf = true) := by
    obtain ⟨fuel, hf⟩ := h0
    obtain ⟨A0_0, c0_0, l0_0, h1, h2⟩ := opn69 hf
    refine ⟨A0_0, c0_0, l0_0, ?_, h2⟩
    simp only [Value.cells] at h1
    exact Array.toList_inj.1 h1
  subst he0
  have k1 := h1
  have lt1 : ∀ x ∈ p1, x.block < W.heap.size := by obtain ⟨m, hm⟩ := k1; exact DataW.trod_lt m _ _ _ hm
  obtain ⟨b1, len1, cap1, rfl⟩ := okWide_slice Try.underlying24 (hval 1 24 v1 rfl rfl)
  obtain ⟨A1, c1, l1, he1, hc1, hr1, hg1⟩ : ∃ (A : Option Addr) (c : Nat) (l : List Int), Value.slice b1 len1 cap1 = .slice A l.length c ∧ l.length ≤ c ∧ Kd.C (Kd.int .i64) W A l.length l ∧ l.length ≤ 9223372036854775807 ∧ ∀ y ∈ l, (Lit.int .i64 y).wf = true := by
    obtain ⟨fuel, hf⟩ := h1
    obtain ⟨A, c, l, h1, h2, h3, h4⟩ := opn24 hf
    simp only [Value.cells] at h1
    exact ⟨A, c, l, List.head_eq_of_cons_eq h1, h2, h3, h4⟩
  rw [he1] at k1
  clear hA0 hval0 hsz0
  obtain ⟨K, hp⟩ := Pure.FnExactLoseDisk l0_0 l1 hg0.2.2 hg1
  injection he1 with hA_1 hL_1 hC_1
  subst hA_1 hL_1 hC_1
  refine (PFnExactLoseDisk.laws_FnExactLoseDisk.calls (k := K) (r := true) (w := W) (A0_0 := A0_0) (c0_0 := c0_0) (l0_0 := l0_0) (hc0_0 := hg0.1) (hr0_0 := hg0.2.1) (A1 := _) (c1 := _) (l1 := l1) (hc1 := hc1) (hr1 := hr1) (h := hp)).mono fun e W' ⟨he, bel⟩ => ?_
  subst he
  exact ⟨_, rfl, _, _, _, [], _, [], hW', trodAll_mk1 (shut_bool Try.underlying4 _), (trodAll_cons_mk (Below.trod laidOut (by kernel_rfl) (of_decide_eq_true (by kernel_rfl)) k0 bel lt0) (trodAll_cons_mk (Below.trod laidOut (by kernel_rfl) (of_decide_eq_true (by kernel_rfl)) k1 bel lt1) trodAll_mk0)), rfl, bel.frame _, fun h => by cases h⟩
theorem over : Rows.fnExactLoseDiskRow.holds Try.pinned (OpenSpec.ofChange Rows.fnExactLoseDiskSpec) :=
  OpenClaim.holds_of_wide 8 Try.f8 rfl rfl rfl rfl rfl rfl rfl ⟨rfl, rfl, rfl, rfl, rfl⟩ rfl rfl rfl rfl rfl (by kernel_rfl) Try.func8 (by kernel_rfl)
    (of_decide_eq_true (by kernel_rfl)) (by unfold Func.isWrapper; first | (rw [if_pos (by decide +kernel)]; kernel_rfl) | (rw [if_neg (by decide +kernel)]; exact ⟨rfl, rfl⟩))
    (fun os started H enc _ => lifted os started H enc)
theorem proved : Rows.FnExactLoseDiskSaid := over
end Go.Proofs.Ytpmdcplmnipdeaa.fnExactLoseDisk
namespace Go.Proofs.Ytpmdcplmnipdeaa
theorem fnExactLoseDisk_holds : Rows.FnExactLoseDiskSaid := fnExactLoseDisk.proved
end Go.Proofs.Ytpmdcplmnipdeaa
