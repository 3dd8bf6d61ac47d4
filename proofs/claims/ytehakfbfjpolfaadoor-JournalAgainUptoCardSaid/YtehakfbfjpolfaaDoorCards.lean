/-
  DERIVED. GIVEN WITH THE SEED: THE CARDS: each row of YtehakfbfjpolfaaDoorRows.lean that lists a variable, with what it lists TIED to the program's text (the seventh form; the later family's looks); each row that meets fmt, with fmt's text TOLD by the authors' own Lean function (tested against real Go, not proved from fmt's source: count such statements apart). THE CARD IS WHAT COUNTS. Prove the row's statement (the work); the ties are given (YtehakfbfjpolfaaDoorTie.lean); close each card by the builder's one call (the guide's Derived/Test/ToyasCard.lean, 'card_holds'). Laid BY PROGRAM, IN A SANDBOX (cutbox-door.mjs). By AI agents, Wed Nov 11 2026. No macro, syntax, notation, axiom, sorry.
-/
import Derived.Test.YtehakfbfjpolfaaDoorRows
import GoSem.ClaimSeven
namespace Go.Proofs.YtehakfbfjpolfaaDoor
namespace Rows

/-- THE TIED CARD OF 'valiselaw14.JournalEncodes'. -/
def journalEncodesCard : Claim7 := { stood := { row := journalEncodesRow, standIns := [], harness := (true, "97ba0a8e25c3c4cd5813e36688bb0568994f80f740f1a731a1f008cc993fd380"), looks := false }, kinds := [], alts := [], laidByText := true, laidKinds := [.data], laidTests := true, laidLooks := .later }
def JournalEncodesCardSaid : Prop := Claim7.holds Tryd.pinned (.plain (OpenSpec.ofChange journalEncodesSpec)) journalEncodesCard

/-- THE TIED CARD OF 'valiselaw14.JournalDecodes'. -/
def journalDecodesCard : Claim7 := { stood := { row := journalDecodesRow, standIns := [], harness := (true, "97ba0a8e25c3c4cd5813e36688bb0568994f80f740f1a731a1f008cc993fd380"), looks := false }, kinds := [], alts := [], laidByText := true, laidKinds := [.data], laidTests := true, laidLooks := .later }
def JournalDecodesCardSaid : Prop := Claim7.holds Tryd.pinned (.plain (OpenSpec.ofChange journalDecodesSpec)) journalDecodesCard

/-- THE TIED CARD OF 'valiselaw14.JournalSealBack'. -/
def journalSealBackCard : Claim7 := { stood := { row := journalSealBackRow, standIns := [], harness := (true, "97ba0a8e25c3c4cd5813e36688bb0568994f80f740f1a731a1f008cc993fd380"), looks := false }, kinds := [], alts := [], laidByText := true, laidKinds := [.data], laidTests := true, laidLooks := .later }
def JournalSealBackCardSaid : Prop := Claim7.holds Tryd.pinned (.plain (OpenSpec.ofChange journalSealBackSpec)) journalSealBackCard

/-- THE TIED CARD OF 'valiselaw14.JournalLooks'. -/
def journalLooksCard : Claim7 := { stood := { row := journalLooksRow, standIns := [], harness := (true, "97ba0a8e25c3c4cd5813e36688bb0568994f80f740f1a731a1f008cc993fd380"), looks := false }, kinds := [], alts := [], laidByText := true, laidKinds := [.data, .data, .pinned], laidTests := true, laidLooks := .later }
def JournalLooksCardSaid : Prop := Claim7.holds Tryd.pinned (.plain (OpenSpec.ofChange journalLooksSpec)) journalLooksCard

/-- THE TIED CARD OF 'valiselaw14.JournalRecovers'. -/
def journalRecoversCard : Claim7 := { stood := { row := journalRecoversRow, standIns := [], harness := (true, "97ba0a8e25c3c4cd5813e36688bb0568994f80f740f1a731a1f008cc993fd380"), looks := false }, kinds := [], alts := [], laidByText := true, laidKinds := [.data, .data, .pinned], laidTests := true, laidLooks := .later }
def JournalRecoversCardSaid : Prop := Claim7.holds Tryd.pinned (.plain (OpenSpec.ofChange journalRecoversSpec)) journalRecoversCard

/-- THE TIED CARD OF 'valiselaw14.JournalForged'. -/
def journalForgedCard : Claim7 := { stood := { row := journalForgedRow, standIns := [], harness := (true, "97ba0a8e25c3c4cd5813e36688bb0568994f80f740f1a731a1f008cc993fd380"), looks := false }, kinds := [], alts := [], laidByText := true, laidKinds := [.data, .data, .pinned], laidTests := true, laidLooks := .later }
def JournalForgedCardSaid : Prop := Claim7.holds Tryd.pinned (.plain (OpenSpec.ofChange journalForgedSpec)) journalForgedCard

/-- THE TIED CARD OF 'valiselaw14.JournalAgain'. -/
def journalAgainCard : Claim7 := { stood := { row := journalAgainRow, standIns := [], harness := (true, "97ba0a8e25c3c4cd5813e36688bb0568994f80f740f1a731a1f008cc993fd380"), looks := false }, kinds := [], alts := [], laidByText := true, laidKinds := [.data, .data, .pinned], laidTests := true, laidLooks := .later }
def JournalAgainCardSaid : Prop := Claim7.holds Tryd.pinned (.plain (OpenSpec.ofChange journalAgainSpec)) journalAgainCard

/-- THE SECOND FORM's CARD OF 'valiselaw14.JournalEncodes'. -/
def journalEncodesUptoCard : Claim7 := { stood := { row := journalEncodesUptoRow, standIns := [], harness := (true, "97ba0a8e25c3c4cd5813e36688bb0568994f80f740f1a731a1f008cc993fd380"), looks := false }, kinds := [], alts := [], laidByText := true, laidKinds := [.data], laidTests := true, laidLooks := .later }
def JournalEncodesUptoCardSaid : Prop := Claim7.holds Tryd.pinned (.plain (OpenSpec.upto journalEncodesSpec)) journalEncodesUptoCard

/-- THE SECOND FORM's CARD OF 'valiselaw14.JournalDecodes'. -/
def journalDecodesUptoCard : Claim7 := { stood := { row := journalDecodesUptoRow, standIns := [], harness := (true, "97ba0a8e25c3c4cd5813e36688bb0568994f80f740f1a731a1f008cc993fd380"), looks := false }, kinds := [], alts := [], laidByText := true, laidKinds := [.data], laidTests := true, laidLooks := .later }
def JournalDecodesUptoCardSaid : Prop := Claim7.holds Tryd.pinned (.plain (OpenSpec.upto journalDecodesSpec)) journalDecodesUptoCard

/-- THE SECOND FORM's CARD OF 'valiselaw14.JournalSealBack'. -/
def journalSealBackUptoCard : Claim7 := { stood := { row := journalSealBackUptoRow, standIns := [], harness := (true, "97ba0a8e25c3c4cd5813e36688bb0568994f80f740f1a731a1f008cc993fd380"), looks := false }, kinds := [], alts := [], laidByText := true, laidKinds := [.data], laidTests := true, laidLooks := .later }
def JournalSealBackUptoCardSaid : Prop := Claim7.holds Tryd.pinned (.plain (OpenSpec.upto journalSealBackSpec)) journalSealBackUptoCard

/-- THE SECOND FORM's CARD OF 'valiselaw14.JournalLooks'. -/
def journalLooksUptoCard : Claim7 := { stood := { row := journalLooksUptoRow, standIns := [], harness := (true, "97ba0a8e25c3c4cd5813e36688bb0568994f80f740f1a731a1f008cc993fd380"), looks := false }, kinds := [], alts := [], laidByText := true, laidKinds := [.data, .data, .pinned], laidTests := true, laidLooks := .later }
def JournalLooksUptoCardSaid : Prop := Claim7.holds Tryd.pinned (.plain (OpenSpec.upto journalLooksSpec)) journalLooksUptoCard

/-- THE SECOND FORM's CARD OF 'valiselaw14.JournalRecovers'. -/
def journalRecoversUptoCard : Claim7 := { stood := { row := journalRecoversUptoRow, standIns := [], harness := (true, "97ba0a8e25c3c4cd5813e36688bb0568994f80f740f1a731a1f008cc993fd380"), looks := false }, kinds := [], alts := [], laidByText := true, laidKinds := [.data, .data, .pinned], laidTests := true, laidLooks := .later }
def JournalRecoversUptoCardSaid : Prop := Claim7.holds Tryd.pinned (.plain (OpenSpec.upto journalRecoversSpec)) journalRecoversUptoCard

/-- THE SECOND FORM's CARD OF 'valiselaw14.JournalForged'. -/
def journalForgedUptoCard : Claim7 := { stood := { row := journalForgedUptoRow, standIns := [], harness := (true, "97ba0a8e25c3c4cd5813e36688bb0568994f80f740f1a731a1f008cc993fd380"), looks := false }, kinds := [], alts := [], laidByText := true, laidKinds := [.data, .data, .pinned], laidTests := true, laidLooks := .later }
def JournalForgedUptoCardSaid : Prop := Claim7.holds Tryd.pinned (.plain (OpenSpec.upto journalForgedSpec)) journalForgedUptoCard

/-- THE SECOND FORM's CARD OF 'valiselaw14.JournalAgain'. -/
def journalAgainUptoCard : Claim7 := { stood := { row := journalAgainUptoRow, standIns := [], harness := (true, "97ba0a8e25c3c4cd5813e36688bb0568994f80f740f1a731a1f008cc993fd380"), looks := false }, kinds := [], alts := [], laidByText := true, laidKinds := [.data, .data, .pinned], laidTests := true, laidLooks := .later }
def JournalAgainUptoCardSaid : Prop := Claim7.holds Tryd.pinned (.plain (OpenSpec.upto journalAgainSpec)) journalAgainUptoCard
end Rows
end Go.Proofs.YtehakfbfjpolfaaDoor
