/- For every input the law FnExactOpenJournal returns true and leaves its arguments as they were: the row and its tied card. Conditions: Go's library's tables and errors hold what the program's text lays in them (given ties). -/
import Derived.Test.YtdepaileabejgaaGreatDoorRows
import Derived.Test.YtdepaileabejgaaGreatDoorQFnExactOpenJournalx33
import Derived.Test.YtdepaileabejgaaGreatDoorPureFnExactOpenJournal
import Derived.Test.YtdepaileabejgaaGreatDoorOpen
import Derived.Test.YtdepaileabejgaaGreatDoorTie
import Derived.Test.YtdepaileabejgaaGreatDoorCards
import Derived.LaidMore
import Derived.Stop.Joined
import Derived.Stop.LaidErr
import Derived.Lib.LaidTab
import Derived.SevenTiedAt
import Derived.WalkKit
import Derived.ProofKit
import Derived.OpenShut
import Derived.ShutString
import Derived.ChangeOld
import Derived.Below
import Derived.SizedLaws
import Derived.Lib.SmallJoins
import Derived.Deep.Strs
namespace Go.Proofs.YtdepaileabejgaaGreatDoor.fnExactOpenJournal
open Go.ChangeShapes Go.WideShapes Go.ChangeAt Go.RowKit Go.Proofs.YtdepaileabejgaaGreatDoor.PFnExactOpenJournal Go.Proofs.YtdepaileabejgaaGreatDoorW.PrintWords Go.Proofs.YtdepaileabejgaaGreatDoor.Opens
open Go.ChangeMaps (open_string shut_string)
set_option linter.unusedVariables false
set_option linter.unusedSimpArgs false
theorem own : ownKnob Tryz.prog.godebug = none := by kernel_rfl
theorem laidOut : laidOutB Tryz.prog = true := by kernel_rfl
set_option maxRecDepth 100000 in
theorem opn72 {H : Type} {enc : TypeId × Value → H} {w : World} {base : Nat} {spare : Nat → Bool} {held : Bool} {fuel : Nat} {cs : List Value} {x : DataW H × List MemPlace} (h : DataW.trod enc Tryz.prog w base spare held fuel 72 cs = some x) :
    ∃ (z0 : ByteArray) (z1 : ByteArray) (z2 : Int), cs = [.string z0, .string z1, .int .i64 z2] ∧ z0.size ≤ maxLen ∧ z1.size ≤ maxLen ∧ (Lit.int .i64 z2).wf = true := by
  obtain ⟨y0, y1, y2, n, _, hl, g0, g1, g2⟩ := Deep.trod_struct3 Tryz.underlying72 h
  have hc : Tryz.prog.cellsOf 72 = 3 := by kernel_rfl
  rw [hc] at hl
  have hc3 : Tryz.prog.cellsOf 3 = 1 := by kernel_rfl
  have hc9 : Tryz.prog.cellsOf 9 = 1 := by kernel_rfl
  match cs, hl with
  | [b0, b1, b2], _ =>
  simp only [hc9, List.drop_zero, List.drop_succ_cons, List.take_succ_cons, List.take_zero] at g0
  simp only [hc9, List.drop_zero, List.drop_succ_cons, List.take_succ_cons, List.take_zero] at g1
  simp only [hc3, List.drop_zero, List.drop_succ_cons, List.take_succ_cons, List.take_zero] at g2
  obtain ⟨z0, e0, _, w0⟩ := DataW.trod_string Tryz.underlying9 g0
  obtain ⟨z1, e1, _, w1⟩ := DataW.trod_string Tryz.underlying9 g1
  obtain ⟨z2, e2, _, w2⟩ := DataW.trod_int Tryz.underlying3 g2
  simp only [List.cons.injEq, and_true] at e0 e1 e2
  subst e0
  subst e1
  subst e2
  exact ⟨_, _, _, rfl, w0, w1, w2⟩
set_option maxRecDepth 100000 in
theorem el72 {H : Type} {enc : TypeId × Value → H} {w : World} {base : Nat} {spare : Nat → Bool} {held : Bool} {fuel : Nat} {cs : List Value} {x : DataW H × List MemPlace} (h : DataW.trod enc Tryz.prog w base spare held fuel 72 cs = some x) : ∃ y : S72, Kd.K k72 w y cs ∧ (y.f0.size ≤ maxLen ∧ y.f1.size ≤ maxLen ∧ (Lit.int .i64 y.f2).wf = true) := by
  obtain ⟨z0, z1, z2, rfl, hg⟩ := opn72 h
  exact ⟨⟨z0, z1, z2⟩, k72_mk w ⟨z0, z1, z2⟩, hg⟩
set_option maxRecDepth 100000 in
theorem opn22 {H : Type} {enc : TypeId × Value → H} {w : World} {base : Nat} {spare : Nat → Bool} {held : Bool} {fuel : Nat} {cs : List Value} {x : DataW H × List MemPlace} (h : DataW.trod enc Tryz.prog w base spare held fuel 22 cs = some x) :
    ∃ (A : Option Addr) (c : Nat) (l : List S72), cs = [.slice A l.length c] ∧ l.length ≤ c ∧ Kd.C k72 w A l.length l ∧ l.length ≤ 9223372036854775807 ∧ ∀ y ∈ l, y.f0.size ≤ maxLen ∧ y.f1.size ≤ maxLen ∧ (Lit.int .i64 y.f2).wf = true := by
  letI : Inhabited S72 := ⟨z72⟩
  obtain ⟨A, c, l, h1, h2, h3, h4, h5⟩ := Opens.open_row k72 (fun y => y.f0.size ≤ maxLen ∧ y.f1.size ≤ maxLen ∧ (Lit.int .i64 y.f2).wf = true) Tryz.underlying22 (by kernel_rfl) (fun n cs x h => el72 h) h
  exact ⟨A, c, l, h1, h2, h3, h4, h5⟩
set_option maxRecDepth 100000 in
theorem opn24 {H : Type} {enc : TypeId × Value → H} {w : World} {base : Nat} {spare : Nat → Bool} {held : Bool} {fuel : Nat} {cs : List Value} {x : DataW H × List MemPlace} (h : DataW.trod enc Tryz.prog w base spare held fuel 24 cs = some x) :
    ∃ (A0 : Option Addr) (c0 : Nat) (l0 : List S72), cs = [.slice A0 l0.length c0] ∧ (l0.length ≤ c0 ∧ Kd.C k72 w A0 l0.length l0 ∧ l0.length ≤ 9223372036854775807 ∧ ∀ y ∈ l0, y.f0.size ≤ maxLen ∧ y.f1.size ≤ maxLen ∧ (Lit.int .i64 y.f2).wf = true) := by
  obtain ⟨y0, n, _, hl, g0⟩ := trod_struct1 Tryz.underlying24 h
  have hc : Tryz.prog.cellsOf 24 = 1 := by kernel_rfl
  rw [hc] at hl
  have hc22 : Tryz.prog.cellsOf 22 = 1 := by kernel_rfl
  match cs, hl with
  | [b0], _ =>
  simp only [hc22, List.drop_zero, List.drop_succ_cons, List.take_succ_cons, List.take_zero] at g0
  obtain ⟨A0, c0, l0, e0, q0⟩ := opn22 g0
  simp only [List.cons.injEq, and_true] at e0
  subst e0
  exact ⟨_, _, _, rfl, q0⟩
theorem door_met (os : Os) (args : Array Value) : laidMetH Tryz.prog Rows.fnExactOpenJournalRow.laid ((World.doorLaid Tryz.prog 400 os).forCall (fun _ _ => 0) ⟨#[], args, []⟩).memory :=
  laidMetH_of_parts3 (fuel := 8) (laidMet_of_run' 8 (by kernel_rfl) (by kernel_rfl)) (by kernel_rfl) (by kernel_rfl)
theorem star : "*" ++ "errors.errorString" = "*errors.errorString" := by decide
theorem row172 (u : TypeId) (h : Tryz.prog.typeName? 3 u = some "*errors.errorString") : u = 172 :=
  typeName_ptr_named (nm := "errors.errorString") (by rw [star]; kernel_rfl) (by kernel_rfl) (by decide) u (by rw [star]; exact h)
theorem of_laid {W : World} (h : laidMetH Tryz.prog Rows.fnExactOpenJournalRow.laid W) : PFnExactOpenJournal.TabE W := by
  rw [MakeChecks.laidMetH_plain _ _ _ (by kernel_rfl)] at h
  have h3 := h.tail.tail
  have h4 : laidMet Tryz.prog [("strconv.ErrRange", Rows.laid_strconv_ErrRange), ("strconv.ErrSyntax", Rows.laid_strconv_ErrSyntax)] W := h3.tail
  have h5 : laidMet Tryz.prog [("strconv.ErrSyntax", Rows.laid_strconv_ErrSyntax)] W := h4.tail
  obtain ⟨a0, s0, hv0, -, -, -⟩ := laid_sentinel (g := 0) (ti := 134) (tp := 172) (te := 174) (ts := 9) h5 (by kernel_rfl) (by kernel_rfl) Tryz.underlying134 row172 Tryz.underlying172 Tryz.underlying174 rfl rfl Tryz.underlying9 (by kernel_rfl) (by kernel_rfl)
  obtain ⟨a1, s1, hv1, -, -, -⟩ := laid_sentinel (g := 1) (ti := 134) (tp := 172) (te := 174) (ts := 9) h4 (by kernel_rfl) (by kernel_rfl) Tryz.underlying134 row172 Tryz.underlying172 Tryz.underlying174 rfl rfl Tryz.underlying9 (by kernel_rfl) (by kernel_rfl)
  refine ⟨?_, ⟨_, _, hv0⟩, ⟨_, _, hv1⟩⟩
  exact Lib.tabIs_of_head (g := 2) (t := 166) (e := 154) (n := 20) (by kernel_rfl) (by kernel_rfl) Tryz.underlying166 Tryz.underlying154 (by kernel_rfl) (by kernel_rfl) (show laidMet Tryz.prog (("internal/strconv.uint64pow10", Lib.tabData .u64 Lib.pow10Tab) :: [("strconv.ErrRange", Rows.laid_strconv_ErrRange), ("strconv.ErrSyntax", Rows.laid_strconv_ErrSyntax)]) W from h3)
set_option maxRecDepth 100000 in
theorem lifted (os : Os) (started : os.Started) (H : Type) (enc : TypeId × Value → H) :
    ReturnsInHanded {} Tryz.checked os 3 .any (fun w args => (Rows.fnExactOpenJournalSpec.pre enc Tryz.prog Tryz.f3 [] false w args ∧ laidMetH Tryz.prog Rows.fnExactOpenJournalRow.laid w) ∧ sizedMet enc Tryz.prog Tryz.f3 (OpenSpec.ofChange Rows.fnExactOpenJournalSpec) false w args)
      (Rows.fnExactOpenJournalSpec.post enc Tryz.prog Tryz.f3 false true false false) := by
  refine returnsInHanded_of_change_and (C := Tryz.checked) (X := fun w _ => laidMetH Tryz.prog Rows.fnExactOpenJournalRow.laid w) (fun _ _ _ hh h => h.of_heap hh) own started (by kernel_rfl) Tryz.func3
    (ChangeSpec.witness_shaped (enc := enc) (C := Tryz.checked) (os := os) (X := fun w _ => laidMetH Tryz.prog Rows.fnExactOpenJournalRow.laid w) false (World.doorLaid Tryz.prog 400 os) #[.agg #[.slice none 0 0]] 8 rfl (World.shaped_of_RefB (by kernel_rfl) (by kernel_rfl)) (by kernel_rfl) (by kernel_rfl) (by kernel_rfl) (door_met os _)) ?_
  intro W base args ds gs before hval0 hW hcnd hsz0 hL _
  have hval : ∀ (j : Nat) t v, Tryz.f3.params[j]? = some t → args[j]? = some v → Value.okWide Tryz.prog W .any base t v := hval0
  have hW' := hW
  obtain ⟨p, q, hA0, hV, rfl, hfz, hnd⟩ := hW
  have hA : DataW.TrodAll enc Tryz.prog W 0 (fun _ => true) true Tryz.f3.params.toList args.toList ds p := hA0
  rw [Tryz.params3] at hA hval
  obtain ⟨v0, vs0, d0, ds0, p0, q0, hargs, rfl, rfl, h0, r0⟩ := trodAll_cons hA
  obtain ⟨rfl, rfl, rfl⟩ := trodAll_nil r0
  obtain rfl : args = #[v0] := by cases args; simp_all
  obtain ⟨rfl, rfl⟩ := trodVars_none hV
  have k0 := h0
  have lt0 : ∀ x ∈ p0, x.block < W.heap.size := by obtain ⟨m, hm⟩ := k0; exact DataW.trod_lt m _ _ _ hm
  obtain ⟨s0, rfl, hz0⟩ := okWide_struct Tryz.underlying24 (hval 0 24 v0 rfl rfl)
  obtain ⟨A0_0, c0_0, l0_0, he0, hg0⟩ : ∃ (A0_0 : Option Addr) (c0_0 : Nat) (l0_0 : List S72), s0 = #[.slice A0_0 l0_0.length c0_0] ∧ (l0_0.length ≤ c0_0 ∧ Kd.C k72 W A0_0 l0_0.length l0_0 ∧ l0_0.length ≤ 9223372036854775807 ∧ ∀ y ∈ l0_0, y.f0.size ≤ maxLen ∧ y.f1.size ≤ maxLen ∧ (Lit.int .i64 y.f2).wf = true) := by
    obtain ⟨fuel, hf⟩ := h0
    obtain ⟨A0_0, c0_0, l0_0, h1, h2⟩ := opn24 hf
    refine ⟨A0_0, c0_0, l0_0, ?_, h2⟩
    simp only [Value.cells] at h1
    exact Array.toList_inj.1 h1
  subst he0
  clear hA0 hval0 hsz0
  obtain ⟨K, hp⟩ := Pure.FnExactOpenJournal l0_0 hg0.2.2
  refine (PFnExactOpenJournal.laws_FnExactOpenJournal.calls (k := K) (r := true) (w := W) (A0_0 := A0_0) (c0_0 := c0_0) (l0_0 := l0_0) (hc0_0 := hg0.1) (hr0_0 := hg0.2.1) (h := hp) (HT0 := of_laid hL)).mono fun e W' ⟨he, bel⟩ => ?_
  subst he
  exact ⟨_, rfl, _, _, _, [], _, [], hW', trodAll_mk1 (shut_bool Tryz.underlying4 _), (trodAll_cons_mk (Below.trod laidOut (by kernel_rfl) (of_decide_eq_true (by kernel_rfl)) k0 bel lt0) trodAll_mk0), rfl, bel.frame _, fun h => by cases h⟩
theorem over : Rows.fnExactOpenJournalRow.holds Tryz.pinned (OpenSpec.ofChange Rows.fnExactOpenJournalSpec) :=
  OpenClaim.holds_of_wide 3 Tryz.f3 rfl rfl rfl rfl rfl rfl rfl ⟨rfl, rfl, rfl, rfl, rfl⟩ rfl rfl rfl rfl rfl (by kernel_rfl) Tryz.func3 (by kernel_rfl)
    (of_decide_eq_true (by kernel_rfl)) (by unfold Func.isWrapper; first | (rw [if_pos (by decide +kernel)]; kernel_rfl) | (rw [if_neg (by decide +kernel)]; exact ⟨rfl, rfl⟩))
    (fun os started H enc _ => lifted os started H enc)
theorem proved : Rows.FnExactOpenJournalCardSaid :=
  Claim7.holds_tied_plain_at .later [] [.data, .data, .data, .sentinel, .sentinel] true (true, "48a0c2992fb7caca6891810394ffd3cbe1ee453905d03efa91de17a5cd99b861") true
    over (fun _ h => by cases h) (by kernel_rfl) (fun _ h => by cases h) fnExactOpenJournal_row_tie rfl ⟨rfl, rfl⟩ (by kernel_rfl) rfl
    (fun f fn hf hfn => by
      obtain rfl : f = 3 := Option.some.inj ((show Tryz.prog.funcNamed "loop.example/g00117/laws.FnExactOpenJournal" = some 3 by kernel_rfl).symm.trans hf) |>.symm
      obtain rfl : fn = Tryz.f3 := (Option.some.inj (Tryz.func3.symm.trans hfn)).symm
      exact ⟨by kernel_rfl, fun j t ht => by
        rw [Tryz.params3] at ht
        have hm : t ∈ [24] := by simpa using Array.mem_of_getElem? ht
        have hall : ([24].all fun u => !Tryz.prog.wantsStandIn u) = true := by kernel_rfl
        exact (show Tryz.prog.wantsStandIn t = false by simpa using List.all_eq_true.1 hall t hm)⟩)
    (by kernel_rfl)
#print axioms proved
end Go.Proofs.YtdepaileabejgaaGreatDoor.fnExactOpenJournal
namespace Go.Proofs.YtdepaileabejgaaGreatDoor
theorem fnExactOpenJournal_holds : Rows.FnExactOpenJournalCardSaid := fnExactOpenJournal.proved
end Go.Proofs.YtdepaileabejgaaGreatDoor
