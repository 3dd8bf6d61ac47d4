/-
  DERIVED. GIVEN WITH THE SEED: THE CARDS: each row of YtehakfbfjpolfaaGreatDoorRows.lean that lists a variable, with what it lists TIED to the program's text (the seventh form; the later family's looks); each row that meets fmt, with fmt's text TOLD by the authors' own Lean function (tested against real Go, not proved from fmt's source: count such statements apart). THE CARD IS WHAT COUNTS. Prove the row's statement (the work); the ties are given (YtehakfbfjpolfaaGreatDoorTie.lean); close each card by the builder's one call (the guide's Derived/Test/ToyasCard.lean, 'card_holds'). Laid BY PROGRAM, IN A SANDBOX (cutbox-door.mjs). By AI agents, Wed Nov 11 2026. No macro, syntax, notation, axiom, sorry.
-/
import Derived.Test.YtehakfbfjpolfaaGreatDoorRows
import GoSem.ClaimSeven
namespace Go.Proofs.YtehakfbfjpolfaaGreatDoor
namespace Rows

/-- THE TIED CARD OF 'valiselaw14.JournalDead'. -/
def journalDeadCard : Claim7 := { stood := { row := journalDeadRow, standIns := [], harness := (true, "2c18b11eaac5f6161d6cfe2a153c5fe95c85ccdaef248d068f7c3ec85a487675"), looks := false }, kinds := [], alts := [], laidByText := true, laidKinds := [.data, .data, .pinned], laidTests := true, laidLooks := .later }
def JournalDeadCardSaid : Prop := Claim7.holds Tryz.pinned (.plain (OpenSpec.ofChange journalDeadSpec)) journalDeadCard

/-- THE TIED CARD OF 'valiselaw14.JournalUpdates'. -/
def journalUpdatesCard : Claim7 := { stood := { row := journalUpdatesRow, standIns := [], harness := (true, "2c18b11eaac5f6161d6cfe2a153c5fe95c85ccdaef248d068f7c3ec85a487675"), looks := false }, kinds := [], alts := [], laidByText := true, laidKinds := [.data, .data, .pinned], laidTests := true, laidLooks := .later }
def JournalUpdatesCardSaid : Prop := Claim7.holds Tryz.pinned (.plain (OpenSpec.ofChange journalUpdatesSpec)) journalUpdatesCard

/-- THE TIED CARD OF 'valiselaw14.JournalOneOfTwo'. -/
def journalOneOfTwoCard : Claim7 := { stood := { row := journalOneOfTwoRow, standIns := [], harness := (true, "2c18b11eaac5f6161d6cfe2a153c5fe95c85ccdaef248d068f7c3ec85a487675"), looks := false }, kinds := [], alts := [], laidByText := true, laidKinds := [.data, .data, .pinned], laidTests := true, laidLooks := .later }
def JournalOneOfTwoCardSaid : Prop := Claim7.holds Tryz.pinned (.plain (OpenSpec.ofChange journalOneOfTwoSpec)) journalOneOfTwoCard

/-- THE TIED CARD OF 'valiselaw14.JournalScripts'. -/
def journalScriptsCard : Claim7 := { stood := { row := journalScriptsRow, standIns := [], harness := (true, "2c18b11eaac5f6161d6cfe2a153c5fe95c85ccdaef248d068f7c3ec85a487675"), looks := false }, kinds := [], alts := [], laidByText := true, laidKinds := [.data, .data, .pinned], laidTests := true, laidLooks := .later }
def JournalScriptsCardSaid : Prop := Claim7.holds Tryz.pinned (.plain (OpenSpec.ofChange journalScriptsSpec)) journalScriptsCard

/-- THE SECOND FORM's CARD OF 'valiselaw14.JournalDead'. -/
def journalDeadUptoCard : Claim7 := { stood := { row := journalDeadUptoRow, standIns := [], harness := (true, "2c18b11eaac5f6161d6cfe2a153c5fe95c85ccdaef248d068f7c3ec85a487675"), looks := false }, kinds := [], alts := [], laidByText := true, laidKinds := [.data, .data, .pinned], laidTests := true, laidLooks := .later }
def JournalDeadUptoCardSaid : Prop := Claim7.holds Tryz.pinned (.plain (OpenSpec.upto journalDeadSpec)) journalDeadUptoCard

/-- THE SECOND FORM's CARD OF 'valiselaw14.JournalUpdates'. -/
def journalUpdatesUptoCard : Claim7 := { stood := { row := journalUpdatesUptoRow, standIns := [], harness := (true, "2c18b11eaac5f6161d6cfe2a153c5fe95c85ccdaef248d068f7c3ec85a487675"), looks := false }, kinds := [], alts := [], laidByText := true, laidKinds := [.data, .data, .pinned], laidTests := true, laidLooks := .later }
def JournalUpdatesUptoCardSaid : Prop := Claim7.holds Tryz.pinned (.plain (OpenSpec.upto journalUpdatesSpec)) journalUpdatesUptoCard

/-- THE SECOND FORM's CARD OF 'valiselaw14.JournalOneOfTwo'. -/
def journalOneOfTwoUptoCard : Claim7 := { stood := { row := journalOneOfTwoUptoRow, standIns := [], harness := (true, "2c18b11eaac5f6161d6cfe2a153c5fe95c85ccdaef248d068f7c3ec85a487675"), looks := false }, kinds := [], alts := [], laidByText := true, laidKinds := [.data, .data, .pinned], laidTests := true, laidLooks := .later }
def JournalOneOfTwoUptoCardSaid : Prop := Claim7.holds Tryz.pinned (.plain (OpenSpec.upto journalOneOfTwoSpec)) journalOneOfTwoUptoCard

/-- THE SECOND FORM's CARD OF 'valiselaw14.JournalScripts'. -/
def journalScriptsUptoCard : Claim7 := { stood := { row := journalScriptsUptoRow, standIns := [], harness := (true, "2c18b11eaac5f6161d6cfe2a153c5fe95c85ccdaef248d068f7c3ec85a487675"), looks := false }, kinds := [], alts := [], laidByText := true, laidKinds := [.data, .data, .pinned], laidTests := true, laidLooks := .later }
def JournalScriptsUptoCardSaid : Prop := Claim7.holds Tryz.pinned (.plain (OpenSpec.upto journalScriptsSpec)) journalScriptsUptoCard
end Rows
end Go.Proofs.YtehakfbfjpolfaaGreatDoor
