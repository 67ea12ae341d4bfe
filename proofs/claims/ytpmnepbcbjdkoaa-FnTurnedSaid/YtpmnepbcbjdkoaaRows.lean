/-
  No cell of these rows narrows 'for every input' (looked for: loops, veiled, ifaces, maps, wideKeys, modest, calm, conditions, laid).
  DERIVED. THE GIVEN ROWS OF THIS SEAT. 12 by the template 'for every input the law returns true; each argument reads behind the call as it read before'; 0 by the template 'total and deterministic' (their statements: YtpmnepbcbjdkoaaTotals.lean).
  GIVEN WITH THE SEED: the statements are not yours to turn. If you find one false, say at which input.
  Laid BY PROGRAM, IN A SANDBOX (cutbox-rows.mjs): the forced cells as the released guide's own fill.sh prints them over the translation bb3c2724d33cca67… (all of the seat's roots in one cut). By AI agents, Wed Nov 11 2026. No macro, syntax, notation, axiom, sorry.
-/
import Derived.Test.YtpmnepbcbjdkoaaChecked
import GoSem.Claim
import GoSem.ClaimJoined
import GoSem.ClaimMapViews
import Derived.JoinedTies
import Derived.KernelRfl
namespace Go.Proofs.Ytpmnepbcbjdkoaa
/- THE CELL 'sum', in the pinned program and in every row, IS THE sha256 OF THE DUMP (.gsa) THAT YtpmnepbcbjdkoaaProg.lean LOADS. Nothing in Lean hashes anything: it is a label: what it is worth is what the hold of that sum in a sandbox is worth. -/
noncomputable def Try.pinned : Pinned := { name := "ytpmnepbcbjdkoaa", sum := "bb3c2724d33cca67dc2adaef50ddd5a6362b9bd6a6f0023dc4a5b8f332c77a5f", checked := Try.checked }
namespace Rows
def none {H : Type} : Left H := { results := [], args := [] }

/-- 'laws.FnExactConfText': WHATEVER THE INPUT: true; the input reads as it did. -/
def fnExactConfTextSpec : ChangeSpec := { name := "fnExactConfText", fn := fun _ => fun
  | [d] => { results := [.lit (.bool true)], args := [d] }
  | _ => none }
def fnExactConfTextRow : OpenClaim := { program := "ytpmnepbcbjdkoaa", sum := "bb3c2724d33cca67dc2adaef50ddd5a6362b9bd6a6f0023dc4a5b8f332c77a5f", func := "loop.example/g00117/laws.FnExactConfText", spec := "fnExactConfText", apart := false }
def FnExactConfTextSaid : Prop := fnExactConfTextRow.holds Try.pinned (OpenSpec.ofChange fnExactConfTextSpec)

/-- ITS FALSE NEIGHBOUR: 'it returns false'. Refute it at one input. -/
def fnExactConfTextWrong : ChangeSpec := { name := "fnExactConfText", fn := fun _ => fun
  | [d] => { results := [.lit (.bool false)], args := [d] }
  | _ => none }
def FnExactConfTextWrongFalsely : Prop := fnExactConfTextRow.holds Try.pinned (OpenSpec.ofChange fnExactConfTextWrong)

/-- 'laws.FnExactReadConf': WHATEVER THE INPUT: true; the input reads as it did. -/
def fnExactReadConfSpec : ChangeSpec := { name := "fnExactReadConf", fn := fun _ => fun
  | [d] => { results := [.lit (.bool true)], args := [d] }
  | _ => none }
def fnExactReadConfRow : OpenClaim := { program := "ytpmnepbcbjdkoaa", sum := "bb3c2724d33cca67dc2adaef50ddd5a6362b9bd6a6f0023dc4a5b8f332c77a5f", func := "loop.example/g00117/laws.FnExactReadConf", spec := "fnExactReadConf", apart := false }
def FnExactReadConfSaid : Prop := fnExactReadConfRow.holds Try.pinned (OpenSpec.ofChange fnExactReadConfSpec)

/-- ITS FALSE NEIGHBOUR: 'it returns false'. Refute it at one input. -/
def fnExactReadConfWrong : ChangeSpec := { name := "fnExactReadConf", fn := fun _ => fun
  | [d] => { results := [.lit (.bool false)], args := [d] }
  | _ => none }
def FnExactReadConfWrongFalsely : Prop := fnExactReadConfRow.holds Try.pinned (OpenSpec.ofChange fnExactReadConfWrong)

/-- 'laws.FnExactFrame': WHATEVER THE INPUT: true; the input reads as it did. -/
def fnExactFrameSpec : ChangeSpec := { name := "fnExactFrame", fn := fun _ => fun
  | [d] => { results := [.lit (.bool true)], args := [d] }
  | _ => none }
def fnExactFrameRow : OpenClaim := { program := "ytpmnepbcbjdkoaa", sum := "bb3c2724d33cca67dc2adaef50ddd5a6362b9bd6a6f0023dc4a5b8f332c77a5f", func := "loop.example/g00117/laws.FnExactFrame", spec := "fnExactFrame", apart := false }
def FnExactFrameSaid : Prop := fnExactFrameRow.holds Try.pinned (OpenSpec.ofChange fnExactFrameSpec)

/-- ITS FALSE NEIGHBOUR: 'it returns false'. Refute it at one input. -/
def fnExactFrameWrong : ChangeSpec := { name := "fnExactFrame", fn := fun _ => fun
  | [d] => { results := [.lit (.bool false)], args := [d] }
  | _ => none }
def FnExactFrameWrongFalsely : Prop := fnExactFrameRow.holds Try.pinned (OpenSpec.ofChange fnExactFrameWrong)

/-- 'laws.FnExactEntryOk': WHATEVER THE INPUT: true; the input reads as it did. -/
def fnExactEntryOkSpec : ChangeSpec := { name := "fnExactEntryOk", fn := fun _ => fun
  | [d] => { results := [.lit (.bool true)], args := [d] }
  | _ => none }
def fnExactEntryOkRow : OpenClaim := { program := "ytpmnepbcbjdkoaa", sum := "bb3c2724d33cca67dc2adaef50ddd5a6362b9bd6a6f0023dc4a5b8f332c77a5f", func := "loop.example/g00117/laws.FnExactEntryOk", spec := "fnExactEntryOk", apart := false }
def FnExactEntryOkSaid : Prop := fnExactEntryOkRow.holds Try.pinned (OpenSpec.ofChange fnExactEntryOkSpec)

/-- ITS FALSE NEIGHBOUR: 'it returns false'. Refute it at one input. -/
def fnExactEntryOkWrong : ChangeSpec := { name := "fnExactEntryOk", fn := fun _ => fun
  | [d] => { results := [.lit (.bool false)], args := [d] }
  | _ => none }
def FnExactEntryOkWrongFalsely : Prop := fnExactEntryOkRow.holds Try.pinned (OpenSpec.ofChange fnExactEntryOkWrong)

/-- 'laws.FnTurned': WHATEVER THE INPUT: true; the input reads as it did. -/
def fnTurnedSpec : ChangeSpec := { name := "fnTurned", fn := fun _ => fun
  | [d] => { results := [.lit (.bool true)], args := [d] }
  | _ => none }
def fnTurnedRow : OpenClaim := { program := "ytpmnepbcbjdkoaa", sum := "bb3c2724d33cca67dc2adaef50ddd5a6362b9bd6a6f0023dc4a5b8f332c77a5f", func := "loop.example/g00117/laws.FnTurned", spec := "fnTurned", apart := false }
def FnTurnedSaid : Prop := fnTurnedRow.holds Try.pinned (OpenSpec.ofChange fnTurnedSpec)

/-- ITS FALSE NEIGHBOUR: 'it returns false'. Refute it at one input. -/
def fnTurnedWrong : ChangeSpec := { name := "fnTurned", fn := fun _ => fun
  | [d] => { results := [.lit (.bool false)], args := [d] }
  | _ => none }
def FnTurnedWrongFalsely : Prop := fnTurnedRow.holds Try.pinned (OpenSpec.ofChange fnTurnedWrong)

/-- 'laws.FnExactLogLast': WHATEVER THE INPUT: true; the input reads as it did. -/
def fnExactLogLastSpec : ChangeSpec := { name := "fnExactLogLast", fn := fun _ => fun
  | [d] => { results := [.lit (.bool true)], args := [d] }
  | _ => none }
def fnExactLogLastRow : OpenClaim := { program := "ytpmnepbcbjdkoaa", sum := "bb3c2724d33cca67dc2adaef50ddd5a6362b9bd6a6f0023dc4a5b8f332c77a5f", func := "loop.example/g00117/laws.FnExactLogLast", spec := "fnExactLogLast", apart := false }
def FnExactLogLastSaid : Prop := fnExactLogLastRow.holds Try.pinned (OpenSpec.ofChange fnExactLogLastSpec)

/-- ITS FALSE NEIGHBOUR: 'it returns false'. Refute it at one input. -/
def fnExactLogLastWrong : ChangeSpec := { name := "fnExactLogLast", fn := fun _ => fun
  | [d] => { results := [.lit (.bool false)], args := [d] }
  | _ => none }
def FnExactLogLastWrongFalsely : Prop := fnExactLogLastRow.holds Try.pinned (OpenSpec.ofChange fnExactLogLastWrong)

/-- 'laws.FnExactDiskOk': WHATEVER THE INPUT: true; the input reads as it did. -/
def fnExactDiskOkSpec : ChangeSpec := { name := "fnExactDiskOk", fn := fun _ => fun
  | [d] => { results := [.lit (.bool true)], args := [d] }
  | _ => none }
def fnExactDiskOkRow : OpenClaim := { program := "ytpmnepbcbjdkoaa", sum := "bb3c2724d33cca67dc2adaef50ddd5a6362b9bd6a6f0023dc4a5b8f332c77a5f", func := "loop.example/g00117/laws.FnExactDiskOk", spec := "fnExactDiskOk", apart := false }
def FnExactDiskOkSaid : Prop := fnExactDiskOkRow.holds Try.pinned (OpenSpec.ofChange fnExactDiskOkSpec)

/-- ITS FALSE NEIGHBOUR: 'it returns false'. Refute it at one input. -/
def fnExactDiskOkWrong : ChangeSpec := { name := "fnExactDiskOk", fn := fun _ => fun
  | [d] => { results := [.lit (.bool false)], args := [d] }
  | _ => none }
def FnExactDiskOkWrongFalsely : Prop := fnExactDiskOkRow.holds Try.pinned (OpenSpec.ofChange fnExactDiskOkWrong)

/-- 'laws.FnExactLogTerm': WHATEVER THE INPUT: true; the input reads as it did. -/
def fnExactLogTermSpec : ChangeSpec := { name := "fnExactLogTerm", fn := fun _ => fun
  | [d1, d2] => { results := [.lit (.bool true)], args := [d1, d2] }
  | _ => none }
def fnExactLogTermRow : OpenClaim := { program := "ytpmnepbcbjdkoaa", sum := "bb3c2724d33cca67dc2adaef50ddd5a6362b9bd6a6f0023dc4a5b8f332c77a5f", func := "loop.example/g00117/laws.FnExactLogTerm", spec := "fnExactLogTerm", apart := false }
def FnExactLogTermSaid : Prop := fnExactLogTermRow.holds Try.pinned (OpenSpec.ofChange fnExactLogTermSpec)

/-- ITS FALSE NEIGHBOUR: 'it returns false'. Refute it at one input. -/
def fnExactLogTermWrong : ChangeSpec := { name := "fnExactLogTerm", fn := fun _ => fun
  | [d1, d2] => { results := [.lit (.bool false)], args := [d1, d2] }
  | _ => none }
def FnExactLogTermWrongFalsely : Prop := fnExactLogTermRow.holds Try.pinned (OpenSpec.ofChange fnExactLogTermWrong)

/-- 'laws.FnExactFileAt': WHATEVER THE INPUT: true; the input reads as it did. -/
def fnExactFileAtSpec : ChangeSpec := { name := "fnExactFileAt", fn := fun _ => fun
  | [d1, d2] => { results := [.lit (.bool true)], args := [d1, d2] }
  | _ => none }
def fnExactFileAtRow : OpenClaim := { program := "ytpmnepbcbjdkoaa", sum := "bb3c2724d33cca67dc2adaef50ddd5a6362b9bd6a6f0023dc4a5b8f332c77a5f", func := "loop.example/g00117/laws.FnExactFileAt", spec := "fnExactFileAt", unfollowed := true, recurses := true, apart := false }
def FnExactFileAtSaid : Prop := fnExactFileAtRow.holds Try.pinned (OpenSpec.ofChange fnExactFileAtSpec)

/-- ITS FALSE NEIGHBOUR: 'it returns false'. Refute it at one input. -/
def fnExactFileAtWrong : ChangeSpec := { name := "fnExactFileAt", fn := fun _ => fun
  | [d1, d2] => { results := [.lit (.bool false)], args := [d1, d2] }
  | _ => none }
def FnExactFileAtWrongFalsely : Prop := fnExactFileAtRow.holds Try.pinned (OpenSpec.ofChange fnExactFileAtWrong)

/-- 'laws.FnExactEntryText': WHATEVER THE INPUT: true; the input reads as it did. -/
def fnExactEntryTextSpec : ChangeSpec := { name := "fnExactEntryText", fn := fun _ => fun
  | [d1, d2] => { results := [.lit (.bool true)], args := [d1, d2] }
  | _ => none }
def fnExactEntryTextRow : OpenClaim := { program := "ytpmnepbcbjdkoaa", sum := "bb3c2724d33cca67dc2adaef50ddd5a6362b9bd6a6f0023dc4a5b8f332c77a5f", func := "loop.example/g00117/laws.FnExactEntryText", spec := "fnExactEntryText", apart := false }
def FnExactEntryTextSaid : Prop := fnExactEntryTextRow.holds Try.pinned (OpenSpec.ofChange fnExactEntryTextSpec)

/-- ITS FALSE NEIGHBOUR: 'it returns false'. Refute it at one input. -/
def fnExactEntryTextWrong : ChangeSpec := { name := "fnExactEntryText", fn := fun _ => fun
  | [d1, d2] => { results := [.lit (.bool false)], args := [d1, d2] }
  | _ => none }
def FnExactEntryTextWrongFalsely : Prop := fnExactEntryTextRow.holds Try.pinned (OpenSpec.ofChange fnExactEntryTextWrong)

/-- 'laws.FnExactAllKept': WHATEVER THE INPUT: true; the input reads as it did. -/
def fnExactAllKeptSpec : ChangeSpec := { name := "fnExactAllKept", fn := fun _ => fun
  | [d] => { results := [.lit (.bool true)], args := [d] }
  | _ => none }
def fnExactAllKeptRow : OpenClaim := { program := "ytpmnepbcbjdkoaa", sum := "bb3c2724d33cca67dc2adaef50ddd5a6362b9bd6a6f0023dc4a5b8f332c77a5f", func := "loop.example/g00117/laws.FnExactAllKept", spec := "fnExactAllKept", unfollowed := true, recurses := true, apart := false }
def FnExactAllKeptSaid : Prop := fnExactAllKeptRow.holds Try.pinned (OpenSpec.ofChange fnExactAllKeptSpec)

/-- ITS FALSE NEIGHBOUR: 'it returns false'. Refute it at one input. -/
def fnExactAllKeptWrong : ChangeSpec := { name := "fnExactAllKept", fn := fun _ => fun
  | [d] => { results := [.lit (.bool false)], args := [d] }
  | _ => none }
def FnExactAllKeptWrongFalsely : Prop := fnExactAllKeptRow.holds Try.pinned (OpenSpec.ofChange fnExactAllKeptWrong)

/-- 'laws.FnExactUnframe': WHATEVER THE INPUT: true; the input reads as it did. -/
def fnExactUnframeSpec : ChangeSpec := { name := "fnExactUnframe", fn := fun _ => fun
  | [d] => { results := [.lit (.bool true)], args := [d] }
  | _ => none }
def fnExactUnframeRow : OpenClaim := { program := "ytpmnepbcbjdkoaa", sum := "bb3c2724d33cca67dc2adaef50ddd5a6362b9bd6a6f0023dc4a5b8f332c77a5f", func := "loop.example/g00117/laws.FnExactUnframe", spec := "fnExactUnframe", apart := false }
def FnExactUnframeSaid : Prop := fnExactUnframeRow.holds Try.pinned (OpenSpec.ofChange fnExactUnframeSpec)

/-- ITS FALSE NEIGHBOUR: 'it returns false'. Refute it at one input. -/
def fnExactUnframeWrong : ChangeSpec := { name := "fnExactUnframe", fn := fun _ => fun
  | [d] => { results := [.lit (.bool false)], args := [d] }
  | _ => none }
def FnExactUnframeWrongFalsely : Prop := fnExactUnframeRow.holds Try.pinned (OpenSpec.ofChange fnExactUnframeWrong)

/- THE SECOND FORM. 'bulk': how many values and letters a reading holds, each counted each time it is reached (what is shared counts as often as it is met; a slice's spare places count too). A statement '..UptoSaid' is the law's where the arguments, and the package variables that the reading takes, are together of bulk at most 1048576: NARROWER than '..Said'. Prove '..Said' where nothing that the law and all that it calls make is longer than what came in: it says more and counts as full. Else prove '..UptoSaid'. A law counts once. -/
mutual
def uptoBulk {H : Type} : DataW H → Nat
  | .lit (.string bytes) => bytes.length + 1
  | .lit _ => 1
  | .nil => 1
  | .ptr d => uptoBulk d + 1
  | .slice elems spare => uptoBulkAll elems + uptoBulkAll spare + 1
  | .agg parts => uptoBulkAll parts + 1
  | .iface _ d => uptoBulk d + 1
  | .map entries => uptoBulkEntries entries + 1
  | .held _ => 1
def uptoBulkAll {H : Type} : List (DataW H) → Nat
  | [] => 0
  | d :: r => uptoBulk d + uptoBulkAll r
def uptoBulkEntries {H : Type} : List (Lit × DataW H) → Nat
  | [] => 0
  | x :: r => uptoBulkEntry x + uptoBulkEntries r
def uptoBulkEntry {H : Type} : Lit × DataW H → Nat
  | (.string bytes, d) => bytes.length + uptoBulk d + 1
  | (_, d) => uptoBulk d + 1
 end
def uptoSmall : (H : Type) → List (DataW H) → Bool := fun _ ds => decide (uptoBulkAll ds ≤ 1048576)
def OpenSpec.upto (s : _root_.Go.ChangeSpec) : _root_.Go.OpenSpec := { _root_.Go.OpenSpec.ofChange s with cond := some uptoSmall }

/-- 'laws.FnExactConfText', WHERE WHAT IT READS IS OF BULK AT MOST 1048576: true; the input reads as it did. -/
def fnExactConfTextUptoRow : OpenClaim := { program := "ytpmnepbcbjdkoaa", sum := "bb3c2724d33cca67dc2adaef50ddd5a6362b9bd6a6f0023dc4a5b8f332c77a5f", func := "loop.example/g00117/laws.FnExactConfText", spec := "fnExactConfText", apart := false, narrowed := true }
def FnExactConfTextUptoSaid : Prop := fnExactConfTextUptoRow.holds Try.pinned (OpenSpec.upto fnExactConfTextSpec)

/-- 'laws.FnExactReadConf', WHERE WHAT IT READS IS OF BULK AT MOST 1048576: true; the input reads as it did. -/
def fnExactReadConfUptoRow : OpenClaim := { program := "ytpmnepbcbjdkoaa", sum := "bb3c2724d33cca67dc2adaef50ddd5a6362b9bd6a6f0023dc4a5b8f332c77a5f", func := "loop.example/g00117/laws.FnExactReadConf", spec := "fnExactReadConf", apart := false, narrowed := true }
def FnExactReadConfUptoSaid : Prop := fnExactReadConfUptoRow.holds Try.pinned (OpenSpec.upto fnExactReadConfSpec)

/-- 'laws.FnExactFrame', WHERE WHAT IT READS IS OF BULK AT MOST 1048576: true; the input reads as it did. -/
def fnExactFrameUptoRow : OpenClaim := { program := "ytpmnepbcbjdkoaa", sum := "bb3c2724d33cca67dc2adaef50ddd5a6362b9bd6a6f0023dc4a5b8f332c77a5f", func := "loop.example/g00117/laws.FnExactFrame", spec := "fnExactFrame", apart := false, narrowed := true }
def FnExactFrameUptoSaid : Prop := fnExactFrameUptoRow.holds Try.pinned (OpenSpec.upto fnExactFrameSpec)

/-- 'laws.FnExactEntryOk', WHERE WHAT IT READS IS OF BULK AT MOST 1048576: true; the input reads as it did. -/
def fnExactEntryOkUptoRow : OpenClaim := { program := "ytpmnepbcbjdkoaa", sum := "bb3c2724d33cca67dc2adaef50ddd5a6362b9bd6a6f0023dc4a5b8f332c77a5f", func := "loop.example/g00117/laws.FnExactEntryOk", spec := "fnExactEntryOk", apart := false, narrowed := true }
def FnExactEntryOkUptoSaid : Prop := fnExactEntryOkUptoRow.holds Try.pinned (OpenSpec.upto fnExactEntryOkSpec)

/-- 'laws.FnTurned', WHERE WHAT IT READS IS OF BULK AT MOST 1048576: true; the input reads as it did. -/
def fnTurnedUptoRow : OpenClaim := { program := "ytpmnepbcbjdkoaa", sum := "bb3c2724d33cca67dc2adaef50ddd5a6362b9bd6a6f0023dc4a5b8f332c77a5f", func := "loop.example/g00117/laws.FnTurned", spec := "fnTurned", apart := false, narrowed := true }
def FnTurnedUptoSaid : Prop := fnTurnedUptoRow.holds Try.pinned (OpenSpec.upto fnTurnedSpec)

/-- 'laws.FnExactLogLast', WHERE WHAT IT READS IS OF BULK AT MOST 1048576: true; the input reads as it did. -/
def fnExactLogLastUptoRow : OpenClaim := { program := "ytpmnepbcbjdkoaa", sum := "bb3c2724d33cca67dc2adaef50ddd5a6362b9bd6a6f0023dc4a5b8f332c77a5f", func := "loop.example/g00117/laws.FnExactLogLast", spec := "fnExactLogLast", apart := false, narrowed := true }
def FnExactLogLastUptoSaid : Prop := fnExactLogLastUptoRow.holds Try.pinned (OpenSpec.upto fnExactLogLastSpec)

/-- 'laws.FnExactDiskOk', WHERE WHAT IT READS IS OF BULK AT MOST 1048576: true; the input reads as it did. -/
def fnExactDiskOkUptoRow : OpenClaim := { program := "ytpmnepbcbjdkoaa", sum := "bb3c2724d33cca67dc2adaef50ddd5a6362b9bd6a6f0023dc4a5b8f332c77a5f", func := "loop.example/g00117/laws.FnExactDiskOk", spec := "fnExactDiskOk", apart := false, narrowed := true }
def FnExactDiskOkUptoSaid : Prop := fnExactDiskOkUptoRow.holds Try.pinned (OpenSpec.upto fnExactDiskOkSpec)

/-- 'laws.FnExactLogTerm', WHERE WHAT IT READS IS OF BULK AT MOST 1048576: true; the input reads as it did. -/
def fnExactLogTermUptoRow : OpenClaim := { program := "ytpmnepbcbjdkoaa", sum := "bb3c2724d33cca67dc2adaef50ddd5a6362b9bd6a6f0023dc4a5b8f332c77a5f", func := "loop.example/g00117/laws.FnExactLogTerm", spec := "fnExactLogTerm", apart := false, narrowed := true }
def FnExactLogTermUptoSaid : Prop := fnExactLogTermUptoRow.holds Try.pinned (OpenSpec.upto fnExactLogTermSpec)

/-- 'laws.FnExactFileAt', WHERE WHAT IT READS IS OF BULK AT MOST 1048576: true; the input reads as it did. -/
def fnExactFileAtUptoRow : OpenClaim := { program := "ytpmnepbcbjdkoaa", sum := "bb3c2724d33cca67dc2adaef50ddd5a6362b9bd6a6f0023dc4a5b8f332c77a5f", func := "loop.example/g00117/laws.FnExactFileAt", spec := "fnExactFileAt", unfollowed := true, recurses := true, apart := false, narrowed := true }
def FnExactFileAtUptoSaid : Prop := fnExactFileAtUptoRow.holds Try.pinned (OpenSpec.upto fnExactFileAtSpec)

/-- 'laws.FnExactEntryText', WHERE WHAT IT READS IS OF BULK AT MOST 1048576: true; the input reads as it did. -/
def fnExactEntryTextUptoRow : OpenClaim := { program := "ytpmnepbcbjdkoaa", sum := "bb3c2724d33cca67dc2adaef50ddd5a6362b9bd6a6f0023dc4a5b8f332c77a5f", func := "loop.example/g00117/laws.FnExactEntryText", spec := "fnExactEntryText", apart := false, narrowed := true }
def FnExactEntryTextUptoSaid : Prop := fnExactEntryTextUptoRow.holds Try.pinned (OpenSpec.upto fnExactEntryTextSpec)

/-- 'laws.FnExactAllKept', WHERE WHAT IT READS IS OF BULK AT MOST 1048576: true; the input reads as it did. -/
def fnExactAllKeptUptoRow : OpenClaim := { program := "ytpmnepbcbjdkoaa", sum := "bb3c2724d33cca67dc2adaef50ddd5a6362b9bd6a6f0023dc4a5b8f332c77a5f", func := "loop.example/g00117/laws.FnExactAllKept", spec := "fnExactAllKept", unfollowed := true, recurses := true, apart := false, narrowed := true }
def FnExactAllKeptUptoSaid : Prop := fnExactAllKeptUptoRow.holds Try.pinned (OpenSpec.upto fnExactAllKeptSpec)

/-- 'laws.FnExactUnframe', WHERE WHAT IT READS IS OF BULK AT MOST 1048576: true; the input reads as it did. -/
def fnExactUnframeUptoRow : OpenClaim := { program := "ytpmnepbcbjdkoaa", sum := "bb3c2724d33cca67dc2adaef50ddd5a6362b9bd6a6f0023dc4a5b8f332c77a5f", func := "loop.example/g00117/laws.FnExactUnframe", spec := "fnExactUnframe", apart := false, narrowed := true }
def FnExactUnframeUptoSaid : Prop := fnExactUnframeUptoRow.holds Try.pinned (OpenSpec.upto fnExactUnframeSpec)

end Rows
end Go.Proofs.Ytpmnepbcbjdkoaa
