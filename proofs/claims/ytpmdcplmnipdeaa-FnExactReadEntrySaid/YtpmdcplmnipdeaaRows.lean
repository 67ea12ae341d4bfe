/-
  No cell of these rows narrows 'for every input' (looked for: loops, veiled, ifaces, maps, wideKeys, modest, calm, conditions, laid).
  DERIVED. THE GIVEN ROWS OF THIS SEAT. 8 by the template 'for every input the law returns true; each argument reads behind the call as it read before'; 0 by the template 'total and deterministic' (their statements: YtpmdcplmnipdeaaTotals.lean).
  GIVEN WITH THE SEED: the statements are not yours to turn. If you find one false, say at which input.
  Laid BY PROGRAM, IN A SANDBOX (cutbox-rows.mjs): the forced cells as the released guide's own fill.sh prints them over the translation f0715d2ccd2cd536… (all of the seat's roots in one cut). By AI agents, Wed Nov 11 2026. No macro, syntax, notation, axiom, sorry.
-/
import Derived.Test.YtpmdcplmnipdeaaChecked
import GoSem.Claim
import GoSem.ClaimJoined
import GoSem.ClaimMapViews
import Derived.JoinedTies
import Derived.KernelRfl
namespace Go.Proofs.Ytpmdcplmnipdeaa
/- THE CELL 'sum', in the pinned program and in every row, IS THE sha256 OF THE DUMP (.gsa) THAT YtpmdcplmnipdeaaProg.lean LOADS. Nothing in Lean hashes anything: it is a label: what it is worth is what the hold of that sum in a sandbox is worth. -/
noncomputable def Try.pinned : Pinned := { name := "ytpmdcplmnipdeaa", sum := "f0715d2ccd2cd536567a428626ad1df0fb830a9c23b8742a70e8d5f6c9727f1c", checked := Try.checked }
namespace Rows
def none {H : Type} : Left H := { results := [], args := [] }

/-- 'laws.FnFrames': WHATEVER THE INPUT: true; the input reads as it did. -/
def fnFramesSpec : ChangeSpec := { name := "fnFrames", fn := fun _ => fun
  | [d] => { results := [.lit (.bool true)], args := [d] }
  | _ => none }
def fnFramesRow : OpenClaim := { program := "ytpmdcplmnipdeaa", sum := "f0715d2ccd2cd536567a428626ad1df0fb830a9c23b8742a70e8d5f6c9727f1c", func := "loop.example/g00117/laws.FnFrames", spec := "fnFrames", apart := false }
def FnFramesSaid : Prop := fnFramesRow.holds Try.pinned (OpenSpec.ofChange fnFramesSpec)

/-- ITS FALSE NEIGHBOUR: 'it returns false'. Refute it at one input. -/
def fnFramesWrong : ChangeSpec := { name := "fnFrames", fn := fun _ => fun
  | [d] => { results := [.lit (.bool false)], args := [d] }
  | _ => none }
def FnFramesWrongFalsely : Prop := fnFramesRow.holds Try.pinned (OpenSpec.ofChange fnFramesWrong)

/-- 'laws.FnExactLogOk': WHATEVER THE INPUT: true; the input reads as it did. -/
def fnExactLogOkSpec : ChangeSpec := { name := "fnExactLogOk", fn := fun _ => fun
  | [d] => { results := [.lit (.bool true)], args := [d] }
  | _ => none }
def fnExactLogOkRow : OpenClaim := { program := "ytpmdcplmnipdeaa", sum := "f0715d2ccd2cd536567a428626ad1df0fb830a9c23b8742a70e8d5f6c9727f1c", func := "loop.example/g00117/laws.FnExactLogOk", spec := "fnExactLogOk", apart := false }
def FnExactLogOkSaid : Prop := fnExactLogOkRow.holds Try.pinned (OpenSpec.ofChange fnExactLogOkSpec)

/-- ITS FALSE NEIGHBOUR: 'it returns false'. Refute it at one input. -/
def fnExactLogOkWrong : ChangeSpec := { name := "fnExactLogOk", fn := fun _ => fun
  | [d] => { results := [.lit (.bool false)], args := [d] }
  | _ => none }
def FnExactLogOkWrongFalsely : Prop := fnExactLogOkRow.holds Try.pinned (OpenSpec.ofChange fnExactLogOkWrong)

/-- 'laws.FnExactSnapText': WHATEVER THE INPUT: true; the input reads as it did. -/
def fnExactSnapTextSpec : ChangeSpec := { name := "fnExactSnapText", fn := fun _ => fun
  | [d] => { results := [.lit (.bool true)], args := [d] }
  | _ => none }
def fnExactSnapTextRow : OpenClaim := { program := "ytpmdcplmnipdeaa", sum := "f0715d2ccd2cd536567a428626ad1df0fb830a9c23b8742a70e8d5f6c9727f1c", func := "loop.example/g00117/laws.FnExactSnapText", spec := "fnExactSnapText", apart := false }
def FnExactSnapTextSaid : Prop := fnExactSnapTextRow.holds Try.pinned (OpenSpec.ofChange fnExactSnapTextSpec)

/-- ITS FALSE NEIGHBOUR: 'it returns false'. Refute it at one input. -/
def fnExactSnapTextWrong : ChangeSpec := { name := "fnExactSnapText", fn := fun _ => fun
  | [d] => { results := [.lit (.bool false)], args := [d] }
  | _ => none }
def FnExactSnapTextWrongFalsely : Prop := fnExactSnapTextRow.holds Try.pinned (OpenSpec.ofChange fnExactSnapTextWrong)

/-- 'laws.FnExactReadEntry': WHATEVER THE INPUT: true; the input reads as it did. -/
def fnExactReadEntrySpec : ChangeSpec := { name := "fnExactReadEntry", fn := fun _ => fun
  | [d] => { results := [.lit (.bool true)], args := [d] }
  | _ => none }
def fnExactReadEntryRow : OpenClaim := { program := "ytpmdcplmnipdeaa", sum := "f0715d2ccd2cd536567a428626ad1df0fb830a9c23b8742a70e8d5f6c9727f1c", func := "loop.example/g00117/laws.FnExactReadEntry", spec := "fnExactReadEntry", apart := false }
def FnExactReadEntrySaid : Prop := fnExactReadEntryRow.holds Try.pinned (OpenSpec.ofChange fnExactReadEntrySpec)

/-- ITS FALSE NEIGHBOUR: 'it returns false'. Refute it at one input. -/
def fnExactReadEntryWrong : ChangeSpec := { name := "fnExactReadEntry", fn := fun _ => fun
  | [d] => { results := [.lit (.bool false)], args := [d] }
  | _ => none }
def FnExactReadEntryWrongFalsely : Prop := fnExactReadEntryRow.holds Try.pinned (OpenSpec.ofChange fnExactReadEntryWrong)

/-- 'laws.FnExactJournalOk': WHATEVER THE INPUT: true; the input reads as it did. -/
def fnExactJournalOkSpec : ChangeSpec := { name := "fnExactJournalOk", fn := fun _ => fun
  | [d] => { results := [.lit (.bool true)], args := [d] }
  | _ => none }
def fnExactJournalOkRow : OpenClaim := { program := "ytpmdcplmnipdeaa", sum := "f0715d2ccd2cd536567a428626ad1df0fb830a9c23b8742a70e8d5f6c9727f1c", func := "loop.example/g00117/laws.FnExactJournalOk", spec := "fnExactJournalOk", apart := false }
def FnExactJournalOkSaid : Prop := fnExactJournalOkRow.holds Try.pinned (OpenSpec.ofChange fnExactJournalOkSpec)

/-- ITS FALSE NEIGHBOUR: 'it returns false'. Refute it at one input. -/
def fnExactJournalOkWrong : ChangeSpec := { name := "fnExactJournalOk", fn := fun _ => fun
  | [d] => { results := [.lit (.bool false)], args := [d] }
  | _ => none }
def FnExactJournalOkWrongFalsely : Prop := fnExactJournalOkRow.holds Try.pinned (OpenSpec.ofChange fnExactJournalOkWrong)

/-- 'laws.FnExactLoseDisk': WHATEVER THE INPUT: true; the input reads as it did. -/
def fnExactLoseDiskSpec : ChangeSpec := { name := "fnExactLoseDisk", fn := fun _ => fun
  | [d1, d2] => { results := [.lit (.bool true)], args := [d1, d2] }
  | _ => none }
def fnExactLoseDiskRow : OpenClaim := { program := "ytpmdcplmnipdeaa", sum := "f0715d2ccd2cd536567a428626ad1df0fb830a9c23b8742a70e8d5f6c9727f1c", func := "loop.example/g00117/laws.FnExactLoseDisk", spec := "fnExactLoseDisk", apart := false }
def FnExactLoseDiskSaid : Prop := fnExactLoseDiskRow.holds Try.pinned (OpenSpec.ofChange fnExactLoseDiskSpec)

/-- ITS FALSE NEIGHBOUR: 'it returns false'. Refute it at one input. -/
def fnExactLoseDiskWrong : ChangeSpec := { name := "fnExactLoseDisk", fn := fun _ => fun
  | [d1, d2] => { results := [.lit (.bool false)], args := [d1, d2] }
  | _ => none }
def FnExactLoseDiskWrongFalsely : Prop := fnExactLoseDiskRow.holds Try.pinned (OpenSpec.ofChange fnExactLoseDiskWrong)

/-- 'laws.FnExactLogPut': WHATEVER THE INPUT: true; the input reads as it did. -/
def fnExactLogPutSpec : ChangeSpec := { name := "fnExactLogPut", fn := fun _ => fun
  | [d1, d2, d3] => { results := [.lit (.bool true)], args := [d1, d2, d3] }
  | _ => none }
def fnExactLogPutRow : OpenClaim := { program := "ytpmdcplmnipdeaa", sum := "f0715d2ccd2cd536567a428626ad1df0fb830a9c23b8742a70e8d5f6c9727f1c", func := "loop.example/g00117/laws.FnExactLogPut", spec := "fnExactLogPut", apart := false }
def FnExactLogPutSaid : Prop := fnExactLogPutRow.holds Try.pinned (OpenSpec.ofChange fnExactLogPutSpec)

/-- ITS FALSE NEIGHBOUR: 'it returns false'. Refute it at one input. -/
def fnExactLogPutWrong : ChangeSpec := { name := "fnExactLogPut", fn := fun _ => fun
  | [d1, d2, d3] => { results := [.lit (.bool false)], args := [d1, d2, d3] }
  | _ => none }
def FnExactLogPutWrongFalsely : Prop := fnExactLogPutRow.holds Try.pinned (OpenSpec.ofChange fnExactLogPutWrong)

/-- 'laws.FnExactLogBehind': WHATEVER THE INPUT: true; the input reads as it did. -/
def fnExactLogBehindSpec : ChangeSpec := { name := "fnExactLogBehind", fn := fun _ => fun
  | [d1, d2, d3] => { results := [.lit (.bool true)], args := [d1, d2, d3] }
  | _ => none }
def fnExactLogBehindRow : OpenClaim := { program := "ytpmdcplmnipdeaa", sum := "f0715d2ccd2cd536567a428626ad1df0fb830a9c23b8742a70e8d5f6c9727f1c", func := "loop.example/g00117/laws.FnExactLogBehind", spec := "fnExactLogBehind", apart := false }
def FnExactLogBehindSaid : Prop := fnExactLogBehindRow.holds Try.pinned (OpenSpec.ofChange fnExactLogBehindSpec)

/-- ITS FALSE NEIGHBOUR: 'it returns false'. Refute it at one input. -/
def fnExactLogBehindWrong : ChangeSpec := { name := "fnExactLogBehind", fn := fun _ => fun
  | [d1, d2, d3] => { results := [.lit (.bool false)], args := [d1, d2, d3] }
  | _ => none }
def FnExactLogBehindWrongFalsely : Prop := fnExactLogBehindRow.holds Try.pinned (OpenSpec.ofChange fnExactLogBehindWrong)

/- THE SECOND FORM. 'bulk': how many values and letters a reading holds, each counted each time it is reached (what is shared counts as often as it is met; a slice's spare places count too). A statement '..UptoSaid' is the law's where the arguments, and the package variables that the reading takes, are together of bulk at most 1048576: NARROWER than '..Said'. Prove '..Said' where nothing that the law and all that it calls make is longer than what came in: it says more and counts as full. Else prove '..UptoSaid'. A law counts once. -/
mutual
def uptoBulk {H : Type} : DataW H → Nat
  | .lit (.string bytes) => bytes.length + 1
  | .lit _ => 1
  | .nil => 1
  | .ptr d => uptoBulk d + 1
  | .slice elems spare => uptoBulkAll elems + uptoBulkAll spare + 1
  | .agg parts => uptoBulkAll parts + 1
  | .iface _ d => uptoBulk d + 1
  | .map entries => uptoBulkEntries entries + 1
  | .held _ => 1
def uptoBulkAll {H : Type} : List (DataW H) → Nat
  | [] => 0
  | d :: r => uptoBulk d + uptoBulkAll r
def uptoBulkEntries {H : Type} : List (Lit × DataW H) → Nat
  | [] => 0
  | x :: r => uptoBulkEntry x + uptoBulkEntries r
def uptoBulkEntry {H : Type} : Lit × DataW H → Nat
  | (.string bytes, d) => bytes.length + uptoBulk d + 1
  | (_, d) => uptoBulk d + 1
 end
def uptoSmall : (H : Type) → List (DataW H) → Bool := fun _ ds => decide (uptoBulkAll ds ≤ 1048576)
def OpenSpec.upto (s : _root_.Go.ChangeSpec) : _root_.Go.OpenSpec := { _root_.Go.OpenSpec.ofChange s with cond := some uptoSmall }

/-- 'laws.FnFrames', WHERE WHAT IT READS IS OF BULK AT MOST 1048576: true; the input reads as it did. -/
def fnFramesUptoRow : OpenClaim := { program := "ytpmdcplmnipdeaa", sum := "f0715d2ccd2cd536567a428626ad1df0fb830a9c23b8742a70e8d5f6c9727f1c", func := "loop.example/g00117/laws.FnFrames", spec := "fnFrames", apart := false, narrowed := true }
def FnFramesUptoSaid : Prop := fnFramesUptoRow.holds Try.pinned (OpenSpec.upto fnFramesSpec)

/-- 'laws.FnExactLogOk', WHERE WHAT IT READS IS OF BULK AT MOST 1048576: true; the input reads as it did. -/
def fnExactLogOkUptoRow : OpenClaim := { program := "ytpmdcplmnipdeaa", sum := "f0715d2ccd2cd536567a428626ad1df0fb830a9c23b8742a70e8d5f6c9727f1c", func := "loop.example/g00117/laws.FnExactLogOk", spec := "fnExactLogOk", apart := false, narrowed := true }
def FnExactLogOkUptoSaid : Prop := fnExactLogOkUptoRow.holds Try.pinned (OpenSpec.upto fnExactLogOkSpec)

/-- 'laws.FnExactSnapText', WHERE WHAT IT READS IS OF BULK AT MOST 1048576: true; the input reads as it did. -/
def fnExactSnapTextUptoRow : OpenClaim := { program := "ytpmdcplmnipdeaa", sum := "f0715d2ccd2cd536567a428626ad1df0fb830a9c23b8742a70e8d5f6c9727f1c", func := "loop.example/g00117/laws.FnExactSnapText", spec := "fnExactSnapText", apart := false, narrowed := true }
def FnExactSnapTextUptoSaid : Prop := fnExactSnapTextUptoRow.holds Try.pinned (OpenSpec.upto fnExactSnapTextSpec)

/-- 'laws.FnExactReadEntry', WHERE WHAT IT READS IS OF BULK AT MOST 1048576: true; the input reads as it did. -/
def fnExactReadEntryUptoRow : OpenClaim := { program := "ytpmdcplmnipdeaa", sum := "f0715d2ccd2cd536567a428626ad1df0fb830a9c23b8742a70e8d5f6c9727f1c", func := "loop.example/g00117/laws.FnExactReadEntry", spec := "fnExactReadEntry", apart := false, narrowed := true }
def FnExactReadEntryUptoSaid : Prop := fnExactReadEntryUptoRow.holds Try.pinned (OpenSpec.upto fnExactReadEntrySpec)

/-- 'laws.FnExactJournalOk', WHERE WHAT IT READS IS OF BULK AT MOST 1048576: true; the input reads as it did. -/
def fnExactJournalOkUptoRow : OpenClaim := { program := "ytpmdcplmnipdeaa", sum := "f0715d2ccd2cd536567a428626ad1df0fb830a9c23b8742a70e8d5f6c9727f1c", func := "loop.example/g00117/laws.FnExactJournalOk", spec := "fnExactJournalOk", apart := false, narrowed := true }
def FnExactJournalOkUptoSaid : Prop := fnExactJournalOkUptoRow.holds Try.pinned (OpenSpec.upto fnExactJournalOkSpec)

/-- 'laws.FnExactLoseDisk', WHERE WHAT IT READS IS OF BULK AT MOST 1048576: true; the input reads as it did. -/
def fnExactLoseDiskUptoRow : OpenClaim := { program := "ytpmdcplmnipdeaa", sum := "f0715d2ccd2cd536567a428626ad1df0fb830a9c23b8742a70e8d5f6c9727f1c", func := "loop.example/g00117/laws.FnExactLoseDisk", spec := "fnExactLoseDisk", apart := false, narrowed := true }
def FnExactLoseDiskUptoSaid : Prop := fnExactLoseDiskUptoRow.holds Try.pinned (OpenSpec.upto fnExactLoseDiskSpec)

/-- 'laws.FnExactLogPut', WHERE WHAT IT READS IS OF BULK AT MOST 1048576: true; the input reads as it did. -/
def fnExactLogPutUptoRow : OpenClaim := { program := "ytpmdcplmnipdeaa", sum := "f0715d2ccd2cd536567a428626ad1df0fb830a9c23b8742a70e8d5f6c9727f1c", func := "loop.example/g00117/laws.FnExactLogPut", spec := "fnExactLogPut", apart := false, narrowed := true }
def FnExactLogPutUptoSaid : Prop := fnExactLogPutUptoRow.holds Try.pinned (OpenSpec.upto fnExactLogPutSpec)

/-- 'laws.FnExactLogBehind', WHERE WHAT IT READS IS OF BULK AT MOST 1048576: true; the input reads as it did. -/
def fnExactLogBehindUptoRow : OpenClaim := { program := "ytpmdcplmnipdeaa", sum := "f0715d2ccd2cd536567a428626ad1df0fb830a9c23b8742a70e8d5f6c9727f1c", func := "loop.example/g00117/laws.FnExactLogBehind", spec := "fnExactLogBehind", apart := false, narrowed := true }
def FnExactLogBehindUptoSaid : Prop := fnExactLogBehindUptoRow.holds Try.pinned (OpenSpec.upto fnExactLogBehindSpec)

end Rows
end Go.Proofs.Ytpmdcplmnipdeaa
