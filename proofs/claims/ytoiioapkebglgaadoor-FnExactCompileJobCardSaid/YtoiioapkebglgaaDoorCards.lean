/-
  DERIVED. GIVEN WITH THE SEED: THE CARDS: each row of YtoiioapkebglgaaDoorRows.lean that lists a variable, with what it lists TIED to the program's text (the seventh form; the later family's looks); each row that meets fmt, with fmt's text TOLD by the authors' own Lean function (tested against real Go, not proved from fmt's source: count such statements apart). THE CARD IS WHAT COUNTS. Prove the row's statement (the work); the ties are given (YtoiioapkebglgaaDoorTie.lean); close each card by the builder's one call (the guide's Derived/Test/ToyasCard.lean, 'card_holds'). Laid BY PROGRAM, IN A SANDBOX (cutbox-door.mjs). By AI agents, Wed Nov 11 2026. No macro, syntax, notation, axiom, sorry.
-/
import Derived.Test.YtoiioapkebglgaaDoorRows
import GoSem.ClaimSeven
namespace Go.Proofs.YtoiioapkebglgaaDoor
namespace Rows

/-- THE TIED CARD OF 'laws.FnExactRecoverJournal'. -/
def fnExactRecoverJournalCard : Claim7 := { stood := { row := fnExactRecoverJournalRow, standIns := [], harness := (true, "5a6a214551438759d20ff325eea49400e8796220f643a0ecc0fa5d7d187aebee"), looks := true }, kinds := [], alts := [], laidByText := true, laidKinds := [.data, .data, .data, .data, .sentinel, .sentinel, .pinned], laidTests := true, laidLooks := .later }
def FnExactRecoverJournalCardSaid : Prop := Claim7.holds Tryd.pinned (.plain (OpenSpec.ofChange fnExactRecoverJournalSpec)) fnExactRecoverJournalCard

/-- THE TIED CARD OF 'laws.FnExactResumeJob'. -/
def fnExactResumeJobCard : Claim7 := { stood := { row := fnExactResumeJobRow, standIns := [], harness := (true, "5a6a214551438759d20ff325eea49400e8796220f643a0ecc0fa5d7d187aebee"), looks := true }, kinds := [], alts := [], laidByText := true, laidKinds := [.data, .data, .data, .data, .sentinel, .sentinel, .pinned], laidTests := true, laidLooks := .later }
def FnExactResumeJobCardSaid : Prop := Claim7.holds Tryd.pinned (.plain (OpenSpec.ofChange fnExactResumeJobSpec)) fnExactResumeJobCard

/-- THE TIED CARD OF 'laws.FnExactReadSide'. -/
def fnExactReadSideCard : Claim7 := { stood := { row := fnExactReadSideRow, standIns := [], harness := (true, "5a6a214551438759d20ff325eea49400e8796220f643a0ecc0fa5d7d187aebee"), looks := true }, kinds := [], alts := [], laidByText := true, laidKinds := [.data, .data, .data, .data, .sentinel, .sentinel, .pinned], laidTests := true, laidLooks := .later }
def FnExactReadSideCardSaid : Prop := Claim7.holds Tryd.pinned (.plain (OpenSpec.ofChange fnExactReadSideSpec)) fnExactReadSideCard

/-- THE TIED CARD OF 'laws.FnExactCompileJob'. -/
def fnExactCompileJobCard : Claim7 := { stood := { row := fnExactCompileJobRow, standIns := [], harness := (true, "5a6a214551438759d20ff325eea49400e8796220f643a0ecc0fa5d7d187aebee"), looks := true }, kinds := [], alts := [], laidByText := true, laidKinds := [.data, .data, .data, .data, .sentinel, .sentinel, .pinned], laidTests := true, laidLooks := .later }
def FnExactCompileJobCardSaid : Prop := Claim7.holds Tryd.pinned (.plain (OpenSpec.ofChange fnExactCompileJobSpec)) fnExactCompileJobCard

/-- THE TIED CARD OF 'laws.FnExactIsDesk'. -/
def fnExactIsDeskCard : Claim7 := { stood := { row := fnExactIsDeskRow, standIns := [], harness := (true, "5a6a214551438759d20ff325eea49400e8796220f643a0ecc0fa5d7d187aebee"), looks := true }, kinds := [], alts := [], laidByText := true, laidKinds := [.data, .pinned], laidTests := true, laidLooks := .later }
def FnExactIsDeskCardSaid : Prop := Claim7.holds Tryd.pinned (.plain (OpenSpec.ofChange fnExactIsDeskSpec)) fnExactIsDeskCard

/-- THE TIED CARD OF 'laws.FnExactIsDeskCommand'. -/
def fnExactIsDeskCommandCard : Claim7 := { stood := { row := fnExactIsDeskCommandRow, standIns := [], harness := (true, "5a6a214551438759d20ff325eea49400e8796220f643a0ecc0fa5d7d187aebee"), looks := true }, kinds := [], alts := [], laidByText := true, laidKinds := [.data, .data, .data, .data, .sentinel, .sentinel, .pinned], laidTests := true, laidLooks := .later }
def FnExactIsDeskCommandCardSaid : Prop := Claim7.holds Tryd.pinned (.plain (OpenSpec.ofChange fnExactIsDeskCommandSpec)) fnExactIsDeskCommandCard

/-- THE TIED CARD OF 'laws.FnResumed'. -/
def fnResumedCard : Claim7 := { stood := { row := fnResumedRow, standIns := [], harness := (true, "5a6a214551438759d20ff325eea49400e8796220f643a0ecc0fa5d7d187aebee"), looks := true }, kinds := [], alts := [], laidByText := true, laidKinds := [.data, .data, .data, .data, .sentinel, .sentinel, .pinned], laidTests := true, laidLooks := .later }
def FnResumedCardSaid : Prop := Claim7.holds Tryd.pinned (.plain (OpenSpec.ofChange fnResumedSpec)) fnResumedCard

/-- THE TIED CARD OF 'laws.FnJournals'. -/
def fnJournalsCard : Claim7 := { stood := { row := fnJournalsRow, standIns := [], harness := (true, "5a6a214551438759d20ff325eea49400e8796220f643a0ecc0fa5d7d187aebee"), looks := true }, kinds := [], alts := [], laidByText := true, laidKinds := [.data, .data, .data, .data, .sentinel, .sentinel, .pinned], laidTests := true, laidLooks := .later }
def FnJournalsCardSaid : Prop := Claim7.holds Tryd.pinned (.plain (OpenSpec.ofChange fnJournalsSpec)) fnJournalsCard

/-- THE SECOND FORM's CARD OF 'laws.FnExactRecoverJournal'. -/
def fnExactRecoverJournalUptoCard : Claim7 := { stood := { row := fnExactRecoverJournalUptoRow, standIns := [], harness := (true, "5a6a214551438759d20ff325eea49400e8796220f643a0ecc0fa5d7d187aebee"), looks := true }, kinds := [], alts := [], laidByText := true, laidKinds := [.data, .data, .data, .data, .sentinel, .sentinel, .pinned], laidTests := true, laidLooks := .later }
def FnExactRecoverJournalUptoCardSaid : Prop := Claim7.holds Tryd.pinned (.plain (OpenSpec.upto fnExactRecoverJournalSpec)) fnExactRecoverJournalUptoCard

/-- THE SECOND FORM's CARD OF 'laws.FnExactResumeJob'. -/
def fnExactResumeJobUptoCard : Claim7 := { stood := { row := fnExactResumeJobUptoRow, standIns := [], harness := (true, "5a6a214551438759d20ff325eea49400e8796220f643a0ecc0fa5d7d187aebee"), looks := true }, kinds := [], alts := [], laidByText := true, laidKinds := [.data, .data, .data, .data, .sentinel, .sentinel, .pinned], laidTests := true, laidLooks := .later }
def FnExactResumeJobUptoCardSaid : Prop := Claim7.holds Tryd.pinned (.plain (OpenSpec.upto fnExactResumeJobSpec)) fnExactResumeJobUptoCard

/-- THE SECOND FORM's CARD OF 'laws.FnExactReadSide'. -/
def fnExactReadSideUptoCard : Claim7 := { stood := { row := fnExactReadSideUptoRow, standIns := [], harness := (true, "5a6a214551438759d20ff325eea49400e8796220f643a0ecc0fa5d7d187aebee"), looks := true }, kinds := [], alts := [], laidByText := true, laidKinds := [.data, .data, .data, .data, .sentinel, .sentinel, .pinned], laidTests := true, laidLooks := .later }
def FnExactReadSideUptoCardSaid : Prop := Claim7.holds Tryd.pinned (.plain (OpenSpec.upto fnExactReadSideSpec)) fnExactReadSideUptoCard

/-- THE SECOND FORM's CARD OF 'laws.FnExactCompileJob'. -/
def fnExactCompileJobUptoCard : Claim7 := { stood := { row := fnExactCompileJobUptoRow, standIns := [], harness := (true, "5a6a214551438759d20ff325eea49400e8796220f643a0ecc0fa5d7d187aebee"), looks := true }, kinds := [], alts := [], laidByText := true, laidKinds := [.data, .data, .data, .data, .sentinel, .sentinel, .pinned], laidTests := true, laidLooks := .later }
def FnExactCompileJobUptoCardSaid : Prop := Claim7.holds Tryd.pinned (.plain (OpenSpec.upto fnExactCompileJobSpec)) fnExactCompileJobUptoCard

/-- THE SECOND FORM's CARD OF 'laws.FnExactIsDesk'. -/
def fnExactIsDeskUptoCard : Claim7 := { stood := { row := fnExactIsDeskUptoRow, standIns := [], harness := (true, "5a6a214551438759d20ff325eea49400e8796220f643a0ecc0fa5d7d187aebee"), looks := true }, kinds := [], alts := [], laidByText := true, laidKinds := [.data, .pinned], laidTests := true, laidLooks := .later }
def FnExactIsDeskUptoCardSaid : Prop := Claim7.holds Tryd.pinned (.plain (OpenSpec.upto fnExactIsDeskSpec)) fnExactIsDeskUptoCard

/-- THE SECOND FORM's CARD OF 'laws.FnExactIsDeskCommand'. -/
def fnExactIsDeskCommandUptoCard : Claim7 := { stood := { row := fnExactIsDeskCommandUptoRow, standIns := [], harness := (true, "5a6a214551438759d20ff325eea49400e8796220f643a0ecc0fa5d7d187aebee"), looks := true }, kinds := [], alts := [], laidByText := true, laidKinds := [.data, .data, .data, .data, .sentinel, .sentinel, .pinned], laidTests := true, laidLooks := .later }
def FnExactIsDeskCommandUptoCardSaid : Prop := Claim7.holds Tryd.pinned (.plain (OpenSpec.upto fnExactIsDeskCommandSpec)) fnExactIsDeskCommandUptoCard

/-- THE SECOND FORM's CARD OF 'laws.FnResumed'. -/
def fnResumedUptoCard : Claim7 := { stood := { row := fnResumedUptoRow, standIns := [], harness := (true, "5a6a214551438759d20ff325eea49400e8796220f643a0ecc0fa5d7d187aebee"), looks := true }, kinds := [], alts := [], laidByText := true, laidKinds := [.data, .data, .data, .data, .sentinel, .sentinel, .pinned], laidTests := true, laidLooks := .later }
def FnResumedUptoCardSaid : Prop := Claim7.holds Tryd.pinned (.plain (OpenSpec.upto fnResumedSpec)) fnResumedUptoCard

/-- THE SECOND FORM's CARD OF 'laws.FnJournals'. -/
def fnJournalsUptoCard : Claim7 := { stood := { row := fnJournalsUptoRow, standIns := [], harness := (true, "5a6a214551438759d20ff325eea49400e8796220f643a0ecc0fa5d7d187aebee"), looks := true }, kinds := [], alts := [], laidByText := true, laidKinds := [.data, .data, .data, .data, .sentinel, .sentinel, .pinned], laidTests := true, laidLooks := .later }
def FnJournalsUptoCardSaid : Prop := Claim7.holds Tryd.pinned (.plain (OpenSpec.upto fnJournalsSpec)) fnJournalsUptoCard
end Rows
end Go.Proofs.YtoiioapkebglgaaDoor
