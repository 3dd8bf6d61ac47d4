/-
  No cell of these rows narrows 'for every input' (looked for: loops, veiled, ifaces, maps, wideKeys, modest, calm, conditions, laid).
  DERIVED. THE GIVEN ROWS OF THIS SEAT. 15 by the template 'for every input the law returns true; each argument reads behind the call as it read before'; 0 by the template 'total and deterministic' (their statements: YtjfnpbeehjhmbaaTotals.lean).
  GIVEN WITH THE SEED: the statements are not yours to turn. If you find one false, say at which input.
  Laid BY PROGRAM, IN A SANDBOX (cutbox-rows.mjs): the forced cells as the released guide's own fill.sh prints them over the translation 86b2a8e0eedd9c4b… (all of the seat's roots in one cut). By AI agents, Wed Nov 11 2026. No macro, syntax, notation, axiom, sorry.
-/
import Derived.Test.YtjfnpbeehjhmbaaChecked
import GoSem.Claim
import GoSem.ClaimJoined
import GoSem.ClaimMapViews
import Derived.JoinedTies
import Derived.KernelRfl
namespace Go.Proofs.Ytjfnpbeehjhmbaa
/- THE CELL 'sum', in the pinned program and in every row, IS THE sha256 OF THE DUMP (.gsa) THAT YtjfnpbeehjhmbaaProg.lean LOADS. Nothing in Lean hashes anything: it is a label: what it is worth is what the hold of that sum in a sandbox is worth. -/
noncomputable def Try.pinned : Pinned := { name := "ytjfnpbeehjhmbaa", sum := "86b2a8e0eedd9c4b60ce9d754f4523ee0b6efcd6d1d95591e2312b3373cb5010", checked := Try.checked }
namespace Rows
def none {H : Type} : Left H := { results := [], args := [] }

/-- 'valiselaw1.DiskMakes': WHATEVER THE INPUT: true; the input reads as it did. -/
def diskMakesSpec : ChangeSpec := { name := "diskMakes", fn := fun _ => fun
  | [d1, d2] => { results := [.lit (.bool true)], args := [d1, d2] }
  | _ => none }
def diskMakesRow : OpenClaim := { program := "ytjfnpbeehjhmbaa", sum := "86b2a8e0eedd9c4b60ce9d754f4523ee0b6efcd6d1d95591e2312b3373cb5010", func := "valise/valiselaw1.DiskMakes", spec := "diskMakes", apart := false }
def DiskMakesSaid : Prop := diskMakesRow.holds Try.pinned (OpenSpec.ofChange diskMakesSpec)

/-- ITS FALSE NEIGHBOUR: 'it returns false'. Refute it at one input. -/
def diskMakesWrong : ChangeSpec := { name := "diskMakes", fn := fun _ => fun
  | [d1, d2] => { results := [.lit (.bool false)], args := [d1, d2] }
  | _ => none }
def DiskMakesWrongFalsely : Prop := diskMakesRow.holds Try.pinned (OpenSpec.ofChange diskMakesWrong)

/-- 'valiselaw1.DiskReadsBack': WHATEVER THE INPUT: true; the input reads as it did. -/
def diskReadsBackSpec : ChangeSpec := { name := "diskReadsBack", fn := fun _ => fun
  | [d1, d2, d3, d4] => { results := [.lit (.bool true)], args := [d1, d2, d3, d4] }
  | _ => none }
def diskReadsBackRow : OpenClaim := { program := "ytjfnpbeehjhmbaa", sum := "86b2a8e0eedd9c4b60ce9d754f4523ee0b6efcd6d1d95591e2312b3373cb5010", func := "valise/valiselaw1.DiskReadsBack", spec := "diskReadsBack", apart := false }
def DiskReadsBackSaid : Prop := diskReadsBackRow.holds Try.pinned (OpenSpec.ofChange diskReadsBackSpec)

/-- ITS FALSE NEIGHBOUR: 'it returns false'. Refute it at one input. -/
def diskReadsBackWrong : ChangeSpec := { name := "diskReadsBack", fn := fun _ => fun
  | [d1, d2, d3, d4] => { results := [.lit (.bool false)], args := [d1, d2, d3, d4] }
  | _ => none }
def DiskReadsBackWrongFalsely : Prop := diskReadsBackRow.holds Try.pinned (OpenSpec.ofChange diskReadsBackWrong)

/-- 'valiselaw1.DiskShrinksWhole': WHATEVER THE INPUT: true; the input reads as it did. -/
def diskShrinksWholeSpec : ChangeSpec := { name := "diskShrinksWhole", fn := fun _ => fun
  | [d1, d2, d3, d4] => { results := [.lit (.bool true)], args := [d1, d2, d3, d4] }
  | _ => none }
def diskShrinksWholeRow : OpenClaim := { program := "ytjfnpbeehjhmbaa", sum := "86b2a8e0eedd9c4b60ce9d754f4523ee0b6efcd6d1d95591e2312b3373cb5010", func := "valise/valiselaw1.DiskShrinksWhole", spec := "diskShrinksWhole", apart := false }
def DiskShrinksWholeSaid : Prop := diskShrinksWholeRow.holds Try.pinned (OpenSpec.ofChange diskShrinksWholeSpec)

/-- ITS FALSE NEIGHBOUR: 'it returns false'. Refute it at one input. -/
def diskShrinksWholeWrong : ChangeSpec := { name := "diskShrinksWhole", fn := fun _ => fun
  | [d1, d2, d3, d4] => { results := [.lit (.bool false)], args := [d1, d2, d3, d4] }
  | _ => none }
def DiskShrinksWholeWrongFalsely : Prop := diskShrinksWholeRow.holds Try.pinned (OpenSpec.ofChange diskShrinksWholeWrong)

/-- 'valiselaw1.DiskOneSector': WHATEVER THE INPUT: true; the input reads as it did. -/
def diskOneSectorSpec : ChangeSpec := { name := "diskOneSector", fn := fun _ => fun
  | [d1, d2, d3, d4, d5] => { results := [.lit (.bool true)], args := [d1, d2, d3, d4, d5] }
  | _ => none }
def diskOneSectorRow : OpenClaim := { program := "ytjfnpbeehjhmbaa", sum := "86b2a8e0eedd9c4b60ce9d754f4523ee0b6efcd6d1d95591e2312b3373cb5010", func := "valise/valiselaw1.DiskOneSector", spec := "diskOneSector", apart := false }
def DiskOneSectorSaid : Prop := diskOneSectorRow.holds Try.pinned (OpenSpec.ofChange diskOneSectorSpec)

/-- ITS FALSE NEIGHBOUR: 'it returns false'. Refute it at one input. -/
def diskOneSectorWrong : ChangeSpec := { name := "diskOneSector", fn := fun _ => fun
  | [d1, d2, d3, d4, d5] => { results := [.lit (.bool false)], args := [d1, d2, d3, d4, d5] }
  | _ => none }
def DiskOneSectorWrongFalsely : Prop := diskOneSectorRow.holds Try.pinned (OpenSpec.ofChange diskOneSectorWrong)

/-- 'valiselaw1.DiskApart': WHATEVER THE INPUT: true; the input reads as it did. -/
def diskApartSpec : ChangeSpec := { name := "diskApart", fn := fun _ => fun
  | [d1, d2, d3, d4] => { results := [.lit (.bool true)], args := [d1, d2, d3, d4] }
  | _ => none }
def diskApartRow : OpenClaim := { program := "ytjfnpbeehjhmbaa", sum := "86b2a8e0eedd9c4b60ce9d754f4523ee0b6efcd6d1d95591e2312b3373cb5010", func := "valise/valiselaw1.DiskApart", spec := "diskApart", apart := false }
def DiskApartSaid : Prop := diskApartRow.holds Try.pinned (OpenSpec.ofChange diskApartSpec)

/-- ITS FALSE NEIGHBOUR: 'it returns false'. Refute it at one input. -/
def diskApartWrong : ChangeSpec := { name := "diskApart", fn := fun _ => fun
  | [d1, d2, d3, d4] => { results := [.lit (.bool false)], args := [d1, d2, d3, d4] }
  | _ => none }
def DiskApartWrongFalsely : Prop := diskApartRow.holds Try.pinned (OpenSpec.ofChange diskApartWrong)

/-- 'valiselaw1.DiskSynced': WHATEVER THE INPUT: true; the input reads as it did. -/
def diskSyncedSpec : ChangeSpec := { name := "diskSynced", fn := fun _ => fun
  | [d1, d2, d3, d4] => { results := [.lit (.bool true)], args := [d1, d2, d3, d4] }
  | _ => none }
def diskSyncedRow : OpenClaim := { program := "ytjfnpbeehjhmbaa", sum := "86b2a8e0eedd9c4b60ce9d754f4523ee0b6efcd6d1d95591e2312b3373cb5010", func := "valise/valiselaw1.DiskSynced", spec := "diskSynced", apart := false }
def DiskSyncedSaid : Prop := diskSyncedRow.holds Try.pinned (OpenSpec.ofChange diskSyncedSpec)

/-- ITS FALSE NEIGHBOUR: 'it returns false'. Refute it at one input. -/
def diskSyncedWrong : ChangeSpec := { name := "diskSynced", fn := fun _ => fun
  | [d1, d2, d3, d4] => { results := [.lit (.bool false)], args := [d1, d2, d3, d4] }
  | _ => none }
def DiskSyncedWrongFalsely : Prop := diskSyncedRow.holds Try.pinned (OpenSpec.ofChange diskSyncedWrong)

/-- 'valiselaw1.DiskKeepsAll': WHATEVER THE INPUT: true; the input reads as it did. -/
def diskKeepsAllSpec : ChangeSpec := { name := "diskKeepsAll", fn := fun _ => fun
  | [d1, d2, d3] => { results := [.lit (.bool true)], args := [d1, d2, d3] }
  | _ => none }
def diskKeepsAllRow : OpenClaim := { program := "ytjfnpbeehjhmbaa", sum := "86b2a8e0eedd9c4b60ce9d754f4523ee0b6efcd6d1d95591e2312b3373cb5010", func := "valise/valiselaw1.DiskKeepsAll", spec := "diskKeepsAll", apart := false }
def DiskKeepsAllSaid : Prop := diskKeepsAllRow.holds Try.pinned (OpenSpec.ofChange diskKeepsAllSpec)

/-- ITS FALSE NEIGHBOUR: 'it returns false'. Refute it at one input. -/
def diskKeepsAllWrong : ChangeSpec := { name := "diskKeepsAll", fn := fun _ => fun
  | [d1, d2, d3] => { results := [.lit (.bool false)], args := [d1, d2, d3] }
  | _ => none }
def DiskKeepsAllWrongFalsely : Prop := diskKeepsAllRow.holds Try.pinned (OpenSpec.ofChange diskKeepsAllWrong)

/-- 'valiselaw1.DiskTorn': WHATEVER THE INPUT: true; the input reads as it did. -/
def diskTornSpec : ChangeSpec := { name := "diskTorn", fn := fun _ => fun
  | [d1, d2, d3, d4] => { results := [.lit (.bool true)], args := [d1, d2, d3, d4] }
  | _ => none }
def diskTornRow : OpenClaim := { program := "ytjfnpbeehjhmbaa", sum := "86b2a8e0eedd9c4b60ce9d754f4523ee0b6efcd6d1d95591e2312b3373cb5010", func := "valise/valiselaw1.DiskTorn", spec := "diskTorn", apart := false }
def DiskTornSaid : Prop := diskTornRow.holds Try.pinned (OpenSpec.ofChange diskTornSpec)

/-- ITS FALSE NEIGHBOUR: 'it returns false'. Refute it at one input. -/
def diskTornWrong : ChangeSpec := { name := "diskTorn", fn := fun _ => fun
  | [d1, d2, d3, d4] => { results := [.lit (.bool false)], args := [d1, d2, d3, d4] }
  | _ => none }
def DiskTornWrongFalsely : Prop := diskTornRow.holds Try.pinned (OpenSpec.ofChange diskTornWrong)

/-- 'valiselaw1.DiskFused': WHATEVER THE INPUT: true; the input reads as it did. -/
def diskFusedSpec : ChangeSpec := { name := "diskFused", fn := fun _ => fun
  | [d1, d2, d3, d4] => { results := [.lit (.bool true)], args := [d1, d2, d3, d4] }
  | _ => none }
def diskFusedRow : OpenClaim := { program := "ytjfnpbeehjhmbaa", sum := "86b2a8e0eedd9c4b60ce9d754f4523ee0b6efcd6d1d95591e2312b3373cb5010", func := "valise/valiselaw1.DiskFused", spec := "diskFused", apart := false }
def DiskFusedSaid : Prop := diskFusedRow.holds Try.pinned (OpenSpec.ofChange diskFusedSpec)

/-- ITS FALSE NEIGHBOUR: 'it returns false'. Refute it at one input. -/
def diskFusedWrong : ChangeSpec := { name := "diskFused", fn := fun _ => fun
  | [d1, d2, d3, d4] => { results := [.lit (.bool false)], args := [d1, d2, d3, d4] }
  | _ => none }
def DiskFusedWrongFalsely : Prop := diskFusedRow.holds Try.pinned (OpenSpec.ofChange diskFusedWrong)

/-- 'valiselaw1.DiskTwice': WHATEVER THE INPUT: true; the input reads as it did. -/
def diskTwiceSpec : ChangeSpec := { name := "diskTwice", fn := fun _ => fun
  | [d1, d2, d3, d4, d5] => { results := [.lit (.bool true)], args := [d1, d2, d3, d4, d5] }
  | _ => none }
def diskTwiceRow : OpenClaim := { program := "ytjfnpbeehjhmbaa", sum := "86b2a8e0eedd9c4b60ce9d754f4523ee0b6efcd6d1d95591e2312b3373cb5010", func := "valise/valiselaw1.DiskTwice", spec := "diskTwice", apart := false }
def DiskTwiceSaid : Prop := diskTwiceRow.holds Try.pinned (OpenSpec.ofChange diskTwiceSpec)

/-- ITS FALSE NEIGHBOUR: 'it returns false'. Refute it at one input. -/
def diskTwiceWrong : ChangeSpec := { name := "diskTwice", fn := fun _ => fun
  | [d1, d2, d3, d4, d5] => { results := [.lit (.bool false)], args := [d1, d2, d3, d4, d5] }
  | _ => none }
def DiskTwiceWrongFalsely : Prop := diskTwiceRow.holds Try.pinned (OpenSpec.ofChange diskTwiceWrong)

/-- 'valiselaw1.DiskRefuses': WHATEVER THE INPUT: true; the input reads as it did. -/
def diskRefusesSpec : ChangeSpec := { name := "diskRefuses", fn := fun _ => fun
  | [d1, d2, d3, d4, d5] => { results := [.lit (.bool true)], args := [d1, d2, d3, d4, d5] }
  | _ => none }
def diskRefusesRow : OpenClaim := { program := "ytjfnpbeehjhmbaa", sum := "86b2a8e0eedd9c4b60ce9d754f4523ee0b6efcd6d1d95591e2312b3373cb5010", func := "valise/valiselaw1.DiskRefuses", spec := "diskRefuses", apart := false }
def DiskRefusesSaid : Prop := diskRefusesRow.holds Try.pinned (OpenSpec.ofChange diskRefusesSpec)

/-- ITS FALSE NEIGHBOUR: 'it returns false'. Refute it at one input. -/
def diskRefusesWrong : ChangeSpec := { name := "diskRefuses", fn := fun _ => fun
  | [d1, d2, d3, d4, d5] => { results := [.lit (.bool false)], args := [d1, d2, d3, d4, d5] }
  | _ => none }
def DiskRefusesWrongFalsely : Prop := diskRefusesRow.holds Try.pinned (OpenSpec.ofChange diskRefusesWrong)

/-- 'valiselaw1.DiskTwoInTurns': WHATEVER THE INPUT: true; the input reads as it did. -/
def diskTwoInTurnsSpec : ChangeSpec := { name := "diskTwoInTurns", fn := fun _ => fun
  | [d1, d2, d3, d4, d5, d6] => { results := [.lit (.bool true)], args := [d1, d2, d3, d4, d5, d6] }
  | _ => none }
def diskTwoInTurnsRow : OpenClaim := { program := "ytjfnpbeehjhmbaa", sum := "86b2a8e0eedd9c4b60ce9d754f4523ee0b6efcd6d1d95591e2312b3373cb5010", func := "valise/valiselaw1.DiskTwoInTurns", spec := "diskTwoInTurns", apart := false }
def DiskTwoInTurnsSaid : Prop := diskTwoInTurnsRow.holds Try.pinned (OpenSpec.ofChange diskTwoInTurnsSpec)

/-- ITS FALSE NEIGHBOUR: 'it returns false'. Refute it at one input. -/
def diskTwoInTurnsWrong : ChangeSpec := { name := "diskTwoInTurns", fn := fun _ => fun
  | [d1, d2, d3, d4, d5, d6] => { results := [.lit (.bool false)], args := [d1, d2, d3, d4, d5, d6] }
  | _ => none }
def DiskTwoInTurnsWrongFalsely : Prop := diskTwoInTurnsRow.holds Try.pinned (OpenSpec.ofChange diskTwoInTurnsWrong)

/-- 'valiselaw1.DiskCrashes': WHATEVER THE INPUT: true; the input reads as it did. -/
def diskCrashesSpec : ChangeSpec := { name := "diskCrashes", fn := fun _ => fun
  | [d1, d2, d3, d4] => { results := [.lit (.bool true)], args := [d1, d2, d3, d4] }
  | _ => none }
def diskCrashesRow : OpenClaim := { program := "ytjfnpbeehjhmbaa", sum := "86b2a8e0eedd9c4b60ce9d754f4523ee0b6efcd6d1d95591e2312b3373cb5010", func := "valise/valiselaw1.DiskCrashes", spec := "diskCrashes", apart := false }
def DiskCrashesSaid : Prop := diskCrashesRow.holds Try.pinned (OpenSpec.ofChange diskCrashesSpec)

/-- ITS FALSE NEIGHBOUR: 'it returns false'. Refute it at one input. -/
def diskCrashesWrong : ChangeSpec := { name := "diskCrashes", fn := fun _ => fun
  | [d1, d2, d3, d4] => { results := [.lit (.bool false)], args := [d1, d2, d3, d4] }
  | _ => none }
def DiskCrashesWrongFalsely : Prop := diskCrashesRow.holds Try.pinned (OpenSpec.ofChange diskCrashesWrong)

/-- 'valiselaw1.DiskPlays': WHATEVER THE INPUT: true; the input reads as it did. -/
def diskPlaysSpec : ChangeSpec := { name := "diskPlays", fn := fun _ => fun
  | [d1, d2, d3] => { results := [.lit (.bool true)], args := [d1, d2, d3] }
  | _ => none }
def diskPlaysRow : OpenClaim := { program := "ytjfnpbeehjhmbaa", sum := "86b2a8e0eedd9c4b60ce9d754f4523ee0b6efcd6d1d95591e2312b3373cb5010", func := "valise/valiselaw1.DiskPlays", spec := "diskPlays", apart := false }
def DiskPlaysSaid : Prop := diskPlaysRow.holds Try.pinned (OpenSpec.ofChange diskPlaysSpec)

/-- ITS FALSE NEIGHBOUR: 'it returns false'. Refute it at one input. -/
def diskPlaysWrong : ChangeSpec := { name := "diskPlays", fn := fun _ => fun
  | [d1, d2, d3] => { results := [.lit (.bool false)], args := [d1, d2, d3] }
  | _ => none }
def DiskPlaysWrongFalsely : Prop := diskPlaysRow.holds Try.pinned (OpenSpec.ofChange diskPlaysWrong)

/-- 'valiselaw1.DiskNil': WHATEVER THE INPUT: true; the input reads as it did. -/
def diskNilSpec : ChangeSpec := { name := "diskNil", fn := fun _ => fun
  | [] => { results := [.lit (.bool true)], args := [] }
  | _ => none }
def diskNilRow : OpenClaim := { program := "ytjfnpbeehjhmbaa", sum := "86b2a8e0eedd9c4b60ce9d754f4523ee0b6efcd6d1d95591e2312b3373cb5010", func := "valise/valiselaw1.DiskNil", spec := "diskNil", apart := false }
def DiskNilSaid : Prop := diskNilRow.holds Try.pinned (OpenSpec.ofChange diskNilSpec)

/-- ITS FALSE NEIGHBOUR: 'it returns false'. Refute it at one input. -/
def diskNilWrong : ChangeSpec := { name := "diskNil", fn := fun _ => fun
  | [] => { results := [.lit (.bool false)], args := [] }
  | _ => none }
def DiskNilWrongFalsely : Prop := diskNilRow.holds Try.pinned (OpenSpec.ofChange diskNilWrong)

/- THE SECOND FORM. 'bulk': how many values and letters a reading holds, each counted each time it is reached (what is shared counts as often as it is met; a slice's spare places count too). A statement '..UptoSaid' is the law's where the arguments, and the package variables that the reading takes, are together of bulk at most 1048576: NARROWER than '..Said'. Prove '..Said' where nothing that the law and all that it calls make is longer than what came in: it says more and counts as full. Else prove '..UptoSaid'. A law counts once. -/
mutual
def uptoBulk {H : Type} : DataW H → Nat
  | .lit (.string bytes) => bytes.length + 1
  | .lit _ => 1
  | .nil => 1
  | .ptr d => uptoBulk d + 1
  | .slice elems spare => uptoBulkAll elems + uptoBulkAll spare + 1
  | .agg parts => uptoBulkAll parts + 1
  | .iface _ d => uptoBulk d + 1
  | .map entries => uptoBulkEntries entries + 1
  | .held _ => 1
def uptoBulkAll {H : Type} : List (DataW H) → Nat
  | [] => 0
  | d :: r => uptoBulk d + uptoBulkAll r
def uptoBulkEntries {H : Type} : List (Lit × DataW H) → Nat
  | [] => 0
  | x :: r => uptoBulkEntry x + uptoBulkEntries r
def uptoBulkEntry {H : Type} : Lit × DataW H → Nat
  | (.string bytes, d) => bytes.length + uptoBulk d + 1
  | (_, d) => uptoBulk d + 1
 end
def uptoSmall : (H : Type) → List (DataW H) → Bool := fun _ ds => decide (uptoBulkAll ds ≤ 1048576)
def OpenSpec.upto (s : _root_.Go.ChangeSpec) : _root_.Go.OpenSpec := { _root_.Go.OpenSpec.ofChange s with cond := some uptoSmall }

/-- 'valiselaw1.DiskMakes', WHERE WHAT IT READS IS OF BULK AT MOST 1048576: true; the input reads as it did. -/
def diskMakesUptoRow : OpenClaim := { program := "ytjfnpbeehjhmbaa", sum := "86b2a8e0eedd9c4b60ce9d754f4523ee0b6efcd6d1d95591e2312b3373cb5010", func := "valise/valiselaw1.DiskMakes", spec := "diskMakes", apart := false, narrowed := true }
def DiskMakesUptoSaid : Prop := diskMakesUptoRow.holds Try.pinned (OpenSpec.upto diskMakesSpec)

/-- 'valiselaw1.DiskReadsBack', WHERE WHAT IT READS IS OF BULK AT MOST 1048576: true; the input reads as it did. -/
def diskReadsBackUptoRow : OpenClaim := { program := "ytjfnpbeehjhmbaa", sum := "86b2a8e0eedd9c4b60ce9d754f4523ee0b6efcd6d1d95591e2312b3373cb5010", func := "valise/valiselaw1.DiskReadsBack", spec := "diskReadsBack", apart := false, narrowed := true }
def DiskReadsBackUptoSaid : Prop := diskReadsBackUptoRow.holds Try.pinned (OpenSpec.upto diskReadsBackSpec)

/-- 'valiselaw1.DiskShrinksWhole', WHERE WHAT IT READS IS OF BULK AT MOST 1048576: true; the input reads as it did. -/
def diskShrinksWholeUptoRow : OpenClaim := { program := "ytjfnpbeehjhmbaa", sum := "86b2a8e0eedd9c4b60ce9d754f4523ee0b6efcd6d1d95591e2312b3373cb5010", func := "valise/valiselaw1.DiskShrinksWhole", spec := "diskShrinksWhole", apart := false, narrowed := true }
def DiskShrinksWholeUptoSaid : Prop := diskShrinksWholeUptoRow.holds Try.pinned (OpenSpec.upto diskShrinksWholeSpec)

/-- 'valiselaw1.DiskOneSector', WHERE WHAT IT READS IS OF BULK AT MOST 1048576: true; the input reads as it did. -/
def diskOneSectorUptoRow : OpenClaim := { program := "ytjfnpbeehjhmbaa", sum := "86b2a8e0eedd9c4b60ce9d754f4523ee0b6efcd6d1d95591e2312b3373cb5010", func := "valise/valiselaw1.DiskOneSector", spec := "diskOneSector", apart := false, narrowed := true }
def DiskOneSectorUptoSaid : Prop := diskOneSectorUptoRow.holds Try.pinned (OpenSpec.upto diskOneSectorSpec)

/-- 'valiselaw1.DiskApart', WHERE WHAT IT READS IS OF BULK AT MOST 1048576: true; the input reads as it did. -/
def diskApartUptoRow : OpenClaim := { program := "ytjfnpbeehjhmbaa", sum := "86b2a8e0eedd9c4b60ce9d754f4523ee0b6efcd6d1d95591e2312b3373cb5010", func := "valise/valiselaw1.DiskApart", spec := "diskApart", apart := false, narrowed := true }
def DiskApartUptoSaid : Prop := diskApartUptoRow.holds Try.pinned (OpenSpec.upto diskApartSpec)

/-- 'valiselaw1.DiskSynced', WHERE WHAT IT READS IS OF BULK AT MOST 1048576: true; the input reads as it did. -/
def diskSyncedUptoRow : OpenClaim := { program := "ytjfnpbeehjhmbaa", sum := "86b2a8e0eedd9c4b60ce9d754f4523ee0b6efcd6d1d95591e2312b3373cb5010", func := "valise/valiselaw1.DiskSynced", spec := "diskSynced", apart := false, narrowed := true }
def DiskSyncedUptoSaid : Prop := diskSyncedUptoRow.holds Try.pinned (OpenSpec.upto diskSyncedSpec)

/-- 'valiselaw1.DiskKeepsAll', WHERE WHAT IT READS IS OF BULK AT MOST 1048576: true; the input reads as it did. -/
def diskKeepsAllUptoRow : OpenClaim := { program := "ytjfnpbeehjhmbaa", sum := "86b2a8e0eedd9c4b60ce9d754f4523ee0b6efcd6d1d95591e2312b3373cb5010", func := "valise/valiselaw1.DiskKeepsAll", spec := "diskKeepsAll", apart := false, narrowed := true }
def DiskKeepsAllUptoSaid : Prop := diskKeepsAllUptoRow.holds Try.pinned (OpenSpec.upto diskKeepsAllSpec)

/-- 'valiselaw1.DiskTorn', WHERE WHAT IT READS IS OF BULK AT MOST 1048576: true; the input reads as it did. -/
def diskTornUptoRow : OpenClaim := { program := "ytjfnpbeehjhmbaa", sum := "86b2a8e0eedd9c4b60ce9d754f4523ee0b6efcd6d1d95591e2312b3373cb5010", func := "valise/valiselaw1.DiskTorn", spec := "diskTorn", apart := false, narrowed := true }
def DiskTornUptoSaid : Prop := diskTornUptoRow.holds Try.pinned (OpenSpec.upto diskTornSpec)

/-- 'valiselaw1.DiskFused', WHERE WHAT IT READS IS OF BULK AT MOST 1048576: true; the input reads as it did. -/
def diskFusedUptoRow : OpenClaim := { program := "ytjfnpbeehjhmbaa", sum := "86b2a8e0eedd9c4b60ce9d754f4523ee0b6efcd6d1d95591e2312b3373cb5010", func := "valise/valiselaw1.DiskFused", spec := "diskFused", apart := false, narrowed := true }
def DiskFusedUptoSaid : Prop := diskFusedUptoRow.holds Try.pinned (OpenSpec.upto diskFusedSpec)

/-- 'valiselaw1.DiskTwice', WHERE WHAT IT READS IS OF BULK AT MOST 1048576: true; the input reads as it did. -/
def diskTwiceUptoRow : OpenClaim := { program := "ytjfnpbeehjhmbaa", sum := "86b2a8e0eedd9c4b60ce9d754f4523ee0b6efcd6d1d95591e2312b3373cb5010", func := "valise/valiselaw1.DiskTwice", spec := "diskTwice", apart := false, narrowed := true }
def DiskTwiceUptoSaid : Prop := diskTwiceUptoRow.holds Try.pinned (OpenSpec.upto diskTwiceSpec)

/-- 'valiselaw1.DiskRefuses', WHERE WHAT IT READS IS OF BULK AT MOST 1048576: true; the input reads as it did. -/
def diskRefusesUptoRow : OpenClaim := { program := "ytjfnpbeehjhmbaa", sum := "86b2a8e0eedd9c4b60ce9d754f4523ee0b6efcd6d1d95591e2312b3373cb5010", func := "valise/valiselaw1.DiskRefuses", spec := "diskRefuses", apart := false, narrowed := true }
def DiskRefusesUptoSaid : Prop := diskRefusesUptoRow.holds Try.pinned (OpenSpec.upto diskRefusesSpec)

/-- 'valiselaw1.DiskTwoInTurns', WHERE WHAT IT READS IS OF BULK AT MOST 1048576: true; the input reads as it did. -/
def diskTwoInTurnsUptoRow : OpenClaim := { program := "ytjfnpbeehjhmbaa", sum := "86b2a8e0eedd9c4b60ce9d754f4523ee0b6efcd6d1d95591e2312b3373cb5010", func := "valise/valiselaw1.DiskTwoInTurns", spec := "diskTwoInTurns", apart := false, narrowed := true }
def DiskTwoInTurnsUptoSaid : Prop := diskTwoInTurnsUptoRow.holds Try.pinned (OpenSpec.upto diskTwoInTurnsSpec)

/-- 'valiselaw1.DiskCrashes', WHERE WHAT IT READS IS OF BULK AT MOST 1048576: true; the input reads as it did. -/
def diskCrashesUptoRow : OpenClaim := { program := "ytjfnpbeehjhmbaa", sum := "86b2a8e0eedd9c4b60ce9d754f4523ee0b6efcd6d1d95591e2312b3373cb5010", func := "valise/valiselaw1.DiskCrashes", spec := "diskCrashes", apart := false, narrowed := true }
def DiskCrashesUptoSaid : Prop := diskCrashesUptoRow.holds Try.pinned (OpenSpec.upto diskCrashesSpec)

/-- 'valiselaw1.DiskPlays', WHERE WHAT IT READS IS OF BULK AT MOST 1048576: true; the input reads as it did. -/
def diskPlaysUptoRow : OpenClaim := { program := "ytjfnpbeehjhmbaa", sum := "86b2a8e0eedd9c4b60ce9d754f4523ee0b6efcd6d1d95591e2312b3373cb5010", func := "valise/valiselaw1.DiskPlays", spec := "diskPlays", apart := false, narrowed := true }
def DiskPlaysUptoSaid : Prop := diskPlaysUptoRow.holds Try.pinned (OpenSpec.upto diskPlaysSpec)

/-- 'valiselaw1.DiskNil', WHERE WHAT IT READS IS OF BULK AT MOST 1048576: true; the input reads as it did. -/
def diskNilUptoRow : OpenClaim := { program := "ytjfnpbeehjhmbaa", sum := "86b2a8e0eedd9c4b60ce9d754f4523ee0b6efcd6d1d95591e2312b3373cb5010", func := "valise/valiselaw1.DiskNil", spec := "diskNil", apart := false, narrowed := true }
def DiskNilUptoSaid : Prop := diskNilUptoRow.holds Try.pinned (OpenSpec.upto diskNilSpec)

end Rows
end Go.Proofs.Ytjfnpbeehjhmbaa
