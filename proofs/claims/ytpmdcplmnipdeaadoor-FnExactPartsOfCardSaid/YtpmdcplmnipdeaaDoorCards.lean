/-
  DERIVED. GIVEN WITH THE SEED: THE CARDS: each row of YtpmdcplmnipdeaaDoorRows.lean that lists a variable, with what it lists TIED to the program's text (the seventh form; the later family's looks); each row that meets fmt, with fmt's text TOLD by the authors' own Lean function (tested against real Go, not proved from fmt's source: count such statements apart). THE CARD IS WHAT COUNTS. Prove the row's statement (the work); the ties are given (YtpmdcplmnipdeaaDoorTie.lean); close each card by the builder's one call (the guide's Derived/Test/ToyasCard.lean, 'card_holds'). Laid BY PROGRAM, IN A SANDBOX (cutbox-door.mjs). By AI agents, Wed Nov 11 2026. No macro, syntax, notation, axiom, sorry.
-/
import Derived.Test.YtpmdcplmnipdeaaDoorRows
import GoSem.ClaimSeven
namespace Go.Proofs.YtpmdcplmnipdeaaDoor
namespace Rows

/-- THE TIED CARD OF 'laws.FnExactDecimal'. -/
def fnExactDecimalCard : Claim7 := { stood := { row := fnExactDecimalRow, standIns := [], harness := (true, "9d7bd652dcf770761b061ed8cd85e6be189d02fc205c916cced4775802806355"), looks := false }, kinds := [], alts := [], laidByText := true, laidKinds := [.data, .data, .data], laidTests := true, laidLooks := .later }
def FnExactDecimalCardSaid : Prop := Claim7.holds Tryd.pinned (.plain (OpenSpec.ofChange fnExactDecimalSpec)) fnExactDecimalCard

/-- THE TIED CARD OF 'laws.FnExactJournalName'. -/
def fnExactJournalNameCard : Claim7 := { stood := { row := fnExactJournalNameRow, standIns := [], harness := (true, "9d7bd652dcf770761b061ed8cd85e6be189d02fc205c916cced4775802806355"), looks := false }, kinds := [], alts := [], laidByText := true, laidKinds := [.data, .data, .data], laidTests := true, laidLooks := .later }
def FnExactJournalNameCardSaid : Prop := Claim7.holds Tryd.pinned (.plain (OpenSpec.ofChange fnExactJournalNameSpec)) fnExactJournalNameCard

/-- THE TIED CARD OF 'laws.FnExactSnapName'. -/
def fnExactSnapNameCard : Claim7 := { stood := { row := fnExactSnapNameRow, standIns := [], harness := (true, "9d7bd652dcf770761b061ed8cd85e6be189d02fc205c916cced4775802806355"), looks := false }, kinds := [], alts := [], laidByText := true, laidKinds := [.data, .data, .data], laidTests := true, laidLooks := .later }
def FnExactSnapNameCardSaid : Prop := Claim7.holds Tryd.pinned (.plain (OpenSpec.ofChange fnExactSnapNameSpec)) fnExactSnapNameCard

/-- THE TIED CARD OF 'laws.FnExactPartsOf'. -/
def fnExactPartsOfCard : Claim7 := { stood := { row := fnExactPartsOfRow, standIns := [], harness := (true, "9d7bd652dcf770761b061ed8cd85e6be189d02fc205c916cced4775802806355"), looks := false }, kinds := [], alts := [], laidByText := true, laidKinds := [.listed, .data], laidTests := true, laidLooks := .later }
def FnExactPartsOfCardSaid : Prop := Claim7.holds Tryd.pinned (.plain (OpenSpec.ofChange fnExactPartsOfSpec)) fnExactPartsOfCard

/-- THE SECOND FORM's CARD OF 'laws.FnExactDecimal'. -/
def fnExactDecimalUptoCard : Claim7 := { stood := { row := fnExactDecimalUptoRow, standIns := [], harness := (true, "9d7bd652dcf770761b061ed8cd85e6be189d02fc205c916cced4775802806355"), looks := false }, kinds := [], alts := [], laidByText := true, laidKinds := [.data, .data, .data], laidTests := true, laidLooks := .later }
def FnExactDecimalUptoCardSaid : Prop := Claim7.holds Tryd.pinned (.plain (OpenSpec.upto fnExactDecimalSpec)) fnExactDecimalUptoCard

/-- THE SECOND FORM's CARD OF 'laws.FnExactJournalName'. -/
def fnExactJournalNameUptoCard : Claim7 := { stood := { row := fnExactJournalNameUptoRow, standIns := [], harness := (true, "9d7bd652dcf770761b061ed8cd85e6be189d02fc205c916cced4775802806355"), looks := false }, kinds := [], alts := [], laidByText := true, laidKinds := [.data, .data, .data], laidTests := true, laidLooks := .later }
def FnExactJournalNameUptoCardSaid : Prop := Claim7.holds Tryd.pinned (.plain (OpenSpec.upto fnExactJournalNameSpec)) fnExactJournalNameUptoCard

/-- THE SECOND FORM's CARD OF 'laws.FnExactSnapName'. -/
def fnExactSnapNameUptoCard : Claim7 := { stood := { row := fnExactSnapNameUptoRow, standIns := [], harness := (true, "9d7bd652dcf770761b061ed8cd85e6be189d02fc205c916cced4775802806355"), looks := false }, kinds := [], alts := [], laidByText := true, laidKinds := [.data, .data, .data], laidTests := true, laidLooks := .later }
def FnExactSnapNameUptoCardSaid : Prop := Claim7.holds Tryd.pinned (.plain (OpenSpec.upto fnExactSnapNameSpec)) fnExactSnapNameUptoCard

/-- THE SECOND FORM's CARD OF 'laws.FnExactPartsOf'. -/
def fnExactPartsOfUptoCard : Claim7 := { stood := { row := fnExactPartsOfUptoRow, standIns := [], harness := (true, "9d7bd652dcf770761b061ed8cd85e6be189d02fc205c916cced4775802806355"), looks := false }, kinds := [], alts := [], laidByText := true, laidKinds := [.listed, .data], laidTests := true, laidLooks := .later }
def FnExactPartsOfUptoCardSaid : Prop := Claim7.holds Tryd.pinned (.plain (OpenSpec.upto fnExactPartsOfSpec)) fnExactPartsOfUptoCard
end Rows
end Go.Proofs.YtpmdcplmnipdeaaDoor
