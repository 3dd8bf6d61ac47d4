/-
  DERIVED. GIVEN WITH THE SEED: THE CARDS: each row of YtfcmklmeinchhaaDoorRows.lean that lists a variable, with what it lists TIED to the program's text (the seventh form; the later family's looks); each row that meets fmt, with fmt's text TOLD by the authors' own Lean function (tested against real Go, not proved from fmt's source: count such statements apart). THE CARD IS WHAT COUNTS. Prove the row's statement (the work); the ties are given (YtfcmklmeinchhaaDoorTie.lean); close each card by the builder's one call (the guide's Derived/Test/ToyasCard.lean, 'card_holds'). Laid BY PROGRAM, IN A SANDBOX (cutbox-door.mjs). By AI agents, Wed Nov 11 2026. No macro, syntax, notation, axiom, sorry.
-/
import Derived.Test.YtfcmklmeinchhaaDoorRows
import GoSem.ClaimSeven
namespace Go.Proofs.YtfcmklmeinchhaaDoor
namespace Rows

/-- THE TIED CARD OF 'valiselaw2.FieldUpdates'. -/
def fieldUpdatesCard : Claim7 := { stood := { row := fieldUpdatesRow, standIns := [], harness := (true, "3750188e8910cde3057f91259914f79db2e5b4e54cbbb7278125c33cd7c2ce8c"), looks := false }, kinds := [], alts := [], laidByText := true, laidKinds := [.data], laidTests := true, laidLooks := .later }
def FieldUpdatesCardSaid : Prop := Claim7.holds Tryd.pinned (.plain (OpenSpec.ofChange fieldUpdatesSpec)) fieldUpdatesCard

/-- THE TIED CARD OF 'valiselaw2.FieldSums'. -/
def fieldSumsCard : Claim7 := { stood := { row := fieldSumsRow, standIns := [], harness := (true, "3750188e8910cde3057f91259914f79db2e5b4e54cbbb7278125c33cd7c2ce8c"), looks := false }, kinds := [], alts := [], laidByText := true, laidKinds := [.data], laidTests := true, laidLooks := .later }
def FieldSumsCardSaid : Prop := Claim7.holds Tryd.pinned (.plain (OpenSpec.ofChange fieldSumsSpec)) fieldSumsCard

/-- THE TIED CARD OF 'valiselaw2.FieldBursts'. -/
def fieldBurstsCard : Claim7 := { stood := { row := fieldBurstsRow, standIns := [], harness := (true, "3750188e8910cde3057f91259914f79db2e5b4e54cbbb7278125c33cd7c2ce8c"), looks := false }, kinds := [], alts := [], laidByText := true, laidKinds := [.data], laidTests := true, laidLooks := .later }
def FieldBurstsCardSaid : Prop := Claim7.holds Tryd.pinned (.plain (OpenSpec.ofChange fieldBurstsSpec)) fieldBurstsCard

/-- THE TIED CARD OF 'valiselaw2.FieldBlend'. -/
def fieldBlendCard : Claim7 := { stood := { row := fieldBlendRow, standIns := [], harness := (true, "3750188e8910cde3057f91259914f79db2e5b4e54cbbb7278125c33cd7c2ce8c"), looks := false }, kinds := [], alts := [], laidByText := true, laidKinds := [.data], laidTests := true, laidLooks := .later }
def FieldBlendCardSaid : Prop := Claim7.holds Tryd.pinned (.plain (OpenSpec.ofChange fieldBlendSpec)) fieldBlendCard

/-- THE TIED CARD OF 'valiselaw2.FieldGathers'. -/
def fieldGathersCard : Claim7 := { stood := { row := fieldGathersRow, standIns := [], harness := (true, "3750188e8910cde3057f91259914f79db2e5b4e54cbbb7278125c33cd7c2ce8c"), looks := false }, kinds := [], alts := [], goes := true, laidByText := true, laidKinds := [.data], laidTests := true, laidLooks := .later }
def FieldGathersCardSaid : Prop := Claim7.holds Tryd.pinned (.plain (OpenSpec.ofChange fieldGathersSpec)) fieldGathersCard

/-- THE TIED CARD OF 'valiselaw2.FieldSplits'. -/
def fieldSplitsCard : Claim7 := { stood := { row := fieldSplitsRow, standIns := [], harness := (true, "3750188e8910cde3057f91259914f79db2e5b4e54cbbb7278125c33cd7c2ce8c"), looks := false }, kinds := [], alts := [], goes := true, laidByText := true, laidKinds := [.data], laidTests := true, laidLooks := .later }
def FieldSplitsCardSaid : Prop := Claim7.holds Tryd.pinned (.plain (OpenSpec.ofChange fieldSplitsSpec)) fieldSplitsCard

/-- THE SECOND FORM's CARD OF 'valiselaw2.FieldUpdates'. -/
def fieldUpdatesUptoCard : Claim7 := { stood := { row := fieldUpdatesUptoRow, standIns := [], harness := (true, "3750188e8910cde3057f91259914f79db2e5b4e54cbbb7278125c33cd7c2ce8c"), looks := false }, kinds := [], alts := [], laidByText := true, laidKinds := [.data], laidTests := true, laidLooks := .later }
def FieldUpdatesUptoCardSaid : Prop := Claim7.holds Tryd.pinned (.plain (OpenSpec.upto fieldUpdatesSpec)) fieldUpdatesUptoCard

/-- THE SECOND FORM's CARD OF 'valiselaw2.FieldSums'. -/
def fieldSumsUptoCard : Claim7 := { stood := { row := fieldSumsUptoRow, standIns := [], harness := (true, "3750188e8910cde3057f91259914f79db2e5b4e54cbbb7278125c33cd7c2ce8c"), looks := false }, kinds := [], alts := [], laidByText := true, laidKinds := [.data], laidTests := true, laidLooks := .later }
def FieldSumsUptoCardSaid : Prop := Claim7.holds Tryd.pinned (.plain (OpenSpec.upto fieldSumsSpec)) fieldSumsUptoCard

/-- THE SECOND FORM's CARD OF 'valiselaw2.FieldBursts'. -/
def fieldBurstsUptoCard : Claim7 := { stood := { row := fieldBurstsUptoRow, standIns := [], harness := (true, "3750188e8910cde3057f91259914f79db2e5b4e54cbbb7278125c33cd7c2ce8c"), looks := false }, kinds := [], alts := [], laidByText := true, laidKinds := [.data], laidTests := true, laidLooks := .later }
def FieldBurstsUptoCardSaid : Prop := Claim7.holds Tryd.pinned (.plain (OpenSpec.upto fieldBurstsSpec)) fieldBurstsUptoCard

/-- THE SECOND FORM's CARD OF 'valiselaw2.FieldBlend'. -/
def fieldBlendUptoCard : Claim7 := { stood := { row := fieldBlendUptoRow, standIns := [], harness := (true, "3750188e8910cde3057f91259914f79db2e5b4e54cbbb7278125c33cd7c2ce8c"), looks := false }, kinds := [], alts := [], laidByText := true, laidKinds := [.data], laidTests := true, laidLooks := .later }
def FieldBlendUptoCardSaid : Prop := Claim7.holds Tryd.pinned (.plain (OpenSpec.upto fieldBlendSpec)) fieldBlendUptoCard

/-- THE SECOND FORM's CARD OF 'valiselaw2.FieldGathers'. -/
def fieldGathersUptoCard : Claim7 := { stood := { row := fieldGathersUptoRow, standIns := [], harness := (true, "3750188e8910cde3057f91259914f79db2e5b4e54cbbb7278125c33cd7c2ce8c"), looks := false }, kinds := [], alts := [], goes := true, laidByText := true, laidKinds := [.data], laidTests := true, laidLooks := .later }
def FieldGathersUptoCardSaid : Prop := Claim7.holds Tryd.pinned (.plain (OpenSpec.upto fieldGathersSpec)) fieldGathersUptoCard

/-- THE SECOND FORM's CARD OF 'valiselaw2.FieldSplits'. -/
def fieldSplitsUptoCard : Claim7 := { stood := { row := fieldSplitsUptoRow, standIns := [], harness := (true, "3750188e8910cde3057f91259914f79db2e5b4e54cbbb7278125c33cd7c2ce8c"), looks := false }, kinds := [], alts := [], goes := true, laidByText := true, laidKinds := [.data], laidTests := true, laidLooks := .later }
def FieldSplitsUptoCardSaid : Prop := Claim7.holds Tryd.pinned (.plain (OpenSpec.upto fieldSplitsSpec)) fieldSplitsUptoCard
end Rows
end Go.Proofs.YtfcmklmeinchhaaDoor
