/-
  No cell of these rows narrows 'for every input' (looked for: loops, veiled, ifaces, maps, wideKeys, modest, calm, conditions, laid).
  DERIVED. THE GIVEN ROWS OF THIS SEAT. 9 by the template 'for every input the law returns true; each argument reads behind the call as it read before'; 0 by the template 'total and deterministic' (their statements: YtfcmklmeinchhaaTotals.lean).
  GIVEN WITH THE SEED: the statements are not yours to turn. If you find one false, say at which input.
  Laid BY PROGRAM, IN A SANDBOX (cutbox-rows.mjs): the forced cells as the released guide's own fill.sh prints them over the translation c83c5ef5ed74e114… (all of the seat's roots in one cut). By AI agents, Wed Nov 11 2026. No macro, syntax, notation, axiom, sorry.
-/
import Derived.Test.YtfcmklmeinchhaaChecked
import GoSem.Claim
import GoSem.ClaimJoined
import GoSem.ClaimMapViews
import Derived.JoinedTies
import Derived.KernelRfl
namespace Go.Proofs.Ytfcmklmeinchhaa
/- THE CELL 'sum', in the pinned program and in every row, IS THE sha256 OF THE DUMP (.gsa) THAT YtfcmklmeinchhaaProg.lean LOADS. Nothing in Lean hashes anything: it is a label: what it is worth is what the hold of that sum in a sandbox is worth. -/
noncomputable def Try.pinned : Pinned := { name := "ytfcmklmeinchhaa", sum := "c83c5ef5ed74e114781d4a1feb1fee110e8e01605b5e84b46d20321ca09b3001", checked := Try.checked }
namespace Rows
def none {H : Type} : Left H := { results := [], args := [] }

/-- 'valiselaw2.FieldJoins': WHATEVER THE INPUT: true; the input reads as it did. -/
def fieldJoinsSpec : ChangeSpec := { name := "fieldJoins", fn := fun _ => fun
  | [d1, d2, d3] => { results := [.lit (.bool true)], args := [d1, d2, d3] }
  | _ => none }
def fieldJoinsRow : OpenClaim := { program := "ytfcmklmeinchhaa", sum := "c83c5ef5ed74e114781d4a1feb1fee110e8e01605b5e84b46d20321ca09b3001", func := "valise/valiselaw2.FieldJoins", spec := "fieldJoins", apart := false }
def FieldJoinsSaid : Prop := fieldJoinsRow.holds Try.pinned (OpenSpec.ofChange fieldJoinsSpec)

/-- ITS FALSE NEIGHBOUR: 'it returns false'. Refute it at one input. -/
def fieldJoinsWrong : ChangeSpec := { name := "fieldJoins", fn := fun _ => fun
  | [d1, d2, d3] => { results := [.lit (.bool false)], args := [d1, d2, d3] }
  | _ => none }
def FieldJoinsWrongFalsely : Prop := fieldJoinsRow.holds Try.pinned (OpenSpec.ofChange fieldJoinsWrong)

/-- 'valiselaw2.FieldChain': WHATEVER THE INPUT: true; the input reads as it did. -/
def fieldChainSpec : ChangeSpec := { name := "fieldChain", fn := fun _ => fun
  | [d1, d2, d3, d4, d5] => { results := [.lit (.bool true)], args := [d1, d2, d3, d4, d5] }
  | _ => none }
def fieldChainRow : OpenClaim := { program := "ytfcmklmeinchhaa", sum := "c83c5ef5ed74e114781d4a1feb1fee110e8e01605b5e84b46d20321ca09b3001", func := "valise/valiselaw2.FieldChain", spec := "fieldChain", apart := false }
def FieldChainSaid : Prop := fieldChainRow.holds Try.pinned (OpenSpec.ofChange fieldChainSpec)

/-- ITS FALSE NEIGHBOUR: 'it returns false'. Refute it at one input. -/
def fieldChainWrong : ChangeSpec := { name := "fieldChain", fn := fun _ => fun
  | [d1, d2, d3, d4, d5] => { results := [.lit (.bool false)], args := [d1, d2, d3, d4, d5] }
  | _ => none }
def FieldChainWrongFalsely : Prop := fieldChainRow.holds Try.pinned (OpenSpec.ofChange fieldChainWrong)

/-- 'valiselaw2.FieldReads': WHATEVER THE INPUT: true; the input reads as it did. -/
def fieldReadsSpec : ChangeSpec := { name := "fieldReads", fn := fun _ => fun
  | [d1, d2] => { results := [.lit (.bool true)], args := [d1, d2] }
  | _ => none }
def fieldReadsRow : OpenClaim := { program := "ytfcmklmeinchhaa", sum := "c83c5ef5ed74e114781d4a1feb1fee110e8e01605b5e84b46d20321ca09b3001", func := "valise/valiselaw2.FieldReads", spec := "fieldReads", apart := false }
def FieldReadsSaid : Prop := fieldReadsRow.holds Try.pinned (OpenSpec.ofChange fieldReadsSpec)

/-- ITS FALSE NEIGHBOUR: 'it returns false'. Refute it at one input. -/
def fieldReadsWrong : ChangeSpec := { name := "fieldReads", fn := fun _ => fun
  | [d1, d2] => { results := [.lit (.bool false)], args := [d1, d2] }
  | _ => none }
def FieldReadsWrongFalsely : Prop := fieldReadsRow.holds Try.pinned (OpenSpec.ofChange fieldReadsWrong)

/-- 'valisetop.NamesLow': WHATEVER THE INPUT: true; the input reads as it did. -/
def namesLowSpec : ChangeSpec := { name := "namesLow", fn := fun _ => fun
  | [] => { results := [.lit (.bool true)], args := [] }
  | _ => none }
def namesLowRow : OpenClaim := { program := "ytfcmklmeinchhaa", sum := "c83c5ef5ed74e114781d4a1feb1fee110e8e01605b5e84b46d20321ca09b3001", func := "valise/valisetop.NamesLow", spec := "namesLow", apart := false }
def NamesLowSaid : Prop := namesLowRow.holds Try.pinned (OpenSpec.ofChange namesLowSpec)

/-- ITS FALSE NEIGHBOUR: 'it returns false'. Refute it at one input. -/
def namesLowWrong : ChangeSpec := { name := "namesLow", fn := fun _ => fun
  | [] => { results := [.lit (.bool false)], args := [] }
  | _ => none }
def NamesLowWrongFalsely : Prop := namesLowRow.holds Try.pinned (OpenSpec.ofChange namesLowWrong)

/-- 'valiselaw2.FieldPair': WHATEVER THE INPUT: true; the input reads as it did. -/
def fieldPairSpec : ChangeSpec := { name := "fieldPair", fn := fun _ => fun
  | [d1, d2, d3] => { results := [.lit (.bool true)], args := [d1, d2, d3] }
  | _ => none }
def fieldPairRow : OpenClaim := { program := "ytfcmklmeinchhaa", sum := "c83c5ef5ed74e114781d4a1feb1fee110e8e01605b5e84b46d20321ca09b3001", func := "valise/valiselaw2.FieldPair", spec := "fieldPair", apart := false }
def FieldPairSaid : Prop := fieldPairRow.holds Try.pinned (OpenSpec.ofChange fieldPairSpec)

/-- ITS FALSE NEIGHBOUR: 'it returns false'. Refute it at one input. -/
def fieldPairWrong : ChangeSpec := { name := "fieldPair", fn := fun _ => fun
  | [d1, d2, d3] => { results := [.lit (.bool false)], args := [d1, d2, d3] }
  | _ => none }
def FieldPairWrongFalsely : Prop := fieldPairRow.holds Try.pinned (OpenSpec.ofChange fieldPairWrong)

/-- 'valiselaw2.FieldWrites': WHATEVER THE INPUT: true; the input reads as it did. -/
def fieldWritesSpec : ChangeSpec := { name := "fieldWrites", fn := fun _ => fun
  | [d1, d2] => { results := [.lit (.bool true)], args := [d1, d2] }
  | _ => none }
def fieldWritesRow : OpenClaim := { program := "ytfcmklmeinchhaa", sum := "c83c5ef5ed74e114781d4a1feb1fee110e8e01605b5e84b46d20321ca09b3001", func := "valise/valiselaw2.FieldWrites", spec := "fieldWrites", apart := false }
def FieldWritesSaid : Prop := fieldWritesRow.holds Try.pinned (OpenSpec.ofChange fieldWritesSpec)

/-- ITS FALSE NEIGHBOUR: 'it returns false'. Refute it at one input. -/
def fieldWritesWrong : ChangeSpec := { name := "fieldWrites", fn := fun _ => fun
  | [d1, d2] => { results := [.lit (.bool false)], args := [d1, d2] }
  | _ => none }
def FieldWritesWrongFalsely : Prop := fieldWritesRow.holds Try.pinned (OpenSpec.ofChange fieldWritesWrong)

/-- 'valiselaw2.FieldTwo': WHATEVER THE INPUT: true; the input reads as it did. -/
def fieldTwoSpec : ChangeSpec := { name := "fieldTwo", fn := fun _ => fun
  | [d1, d2, d3] => { results := [.lit (.bool true)], args := [d1, d2, d3] }
  | _ => none }
def fieldTwoRow : OpenClaim := { program := "ytfcmklmeinchhaa", sum := "c83c5ef5ed74e114781d4a1feb1fee110e8e01605b5e84b46d20321ca09b3001", func := "valise/valiselaw2.FieldTwo", spec := "fieldTwo", apart := false }
def FieldTwoSaid : Prop := fieldTwoRow.holds Try.pinned (OpenSpec.ofChange fieldTwoSpec)

/-- ITS FALSE NEIGHBOUR: 'it returns false'. Refute it at one input. -/
def fieldTwoWrong : ChangeSpec := { name := "fieldTwo", fn := fun _ => fun
  | [d1, d2, d3] => { results := [.lit (.bool false)], args := [d1, d2, d3] }
  | _ => none }
def FieldTwoWrongFalsely : Prop := fieldTwoRow.holds Try.pinned (OpenSpec.ofChange fieldTwoWrong)

/-- 'valiselaw2.FieldBack': WHATEVER THE INPUT: true; the input reads as it did. -/
def fieldBackSpec : ChangeSpec := { name := "fieldBack", fn := fun _ => fun
  | [d] => { results := [.lit (.bool true)], args := [d] }
  | _ => none }
def fieldBackRow : OpenClaim := { program := "ytfcmklmeinchhaa", sum := "c83c5ef5ed74e114781d4a1feb1fee110e8e01605b5e84b46d20321ca09b3001", func := "valise/valiselaw2.FieldBack", spec := "fieldBack", apart := false }
def FieldBackSaid : Prop := fieldBackRow.holds Try.pinned (OpenSpec.ofChange fieldBackSpec)

/-- ITS FALSE NEIGHBOUR: 'it returns false'. Refute it at one input. -/
def fieldBackWrong : ChangeSpec := { name := "fieldBack", fn := fun _ => fun
  | [d] => { results := [.lit (.bool false)], args := [d] }
  | _ => none }
def FieldBackWrongFalsely : Prop := fieldBackRow.holds Try.pinned (OpenSpec.ofChange fieldBackWrong)

/-- 'valiselaw2.FieldNils': WHATEVER THE INPUT: true; the input reads as it did. -/
def fieldNilsSpec : ChangeSpec := { name := "fieldNils", fn := fun _ => fun
  | [] => { results := [.lit (.bool true)], args := [] }
  | _ => none }
def fieldNilsRow : OpenClaim := { program := "ytfcmklmeinchhaa", sum := "c83c5ef5ed74e114781d4a1feb1fee110e8e01605b5e84b46d20321ca09b3001", func := "valise/valiselaw2.FieldNils", spec := "fieldNils", apart := false }
def FieldNilsSaid : Prop := fieldNilsRow.holds Try.pinned (OpenSpec.ofChange fieldNilsSpec)

/-- ITS FALSE NEIGHBOUR: 'it returns false'. Refute it at one input. -/
def fieldNilsWrong : ChangeSpec := { name := "fieldNils", fn := fun _ => fun
  | [] => { results := [.lit (.bool false)], args := [] }
  | _ => none }
def FieldNilsWrongFalsely : Prop := fieldNilsRow.holds Try.pinned (OpenSpec.ofChange fieldNilsWrong)

/- THE SECOND FORM. 'bulk': how many values and letters a reading holds, each counted each time it is reached (what is shared counts as often as it is met; a slice's spare places count too). A statement '..UptoSaid' is the law's where the arguments, and the package variables that the reading takes, are together of bulk at most 1048576: NARROWER than '..Said'. Prove '..Said' where nothing that the law and all that it calls make is longer than what came in: it says more and counts as full. Else prove '..UptoSaid'. A law counts once. -/
mutual
def uptoBulk {H : Type} : DataW H → Nat
  | .lit (.string bytes) => bytes.length + 1
  | .lit _ => 1
  | .nil => 1
  | .ptr d => uptoBulk d + 1
  | .slice elems spare => uptoBulkAll elems + uptoBulkAll spare + 1
  | .agg parts => uptoBulkAll parts + 1
  | .iface _ d => uptoBulk d + 1
  | .map entries => uptoBulkEntries entries + 1
  | .held _ => 1
def uptoBulkAll {H : Type} : List (DataW H) → Nat
  | [] => 0
  | d :: r => uptoBulk d + uptoBulkAll r
def uptoBulkEntries {H : Type} : List (Lit × DataW H) → Nat
  | [] => 0
  | x :: r => uptoBulkEntry x + uptoBulkEntries r
def uptoBulkEntry {H : Type} : Lit × DataW H → Nat
  | (.string bytes, d) => bytes.length + uptoBulk d + 1
  | (_, d) => uptoBulk d + 1
 end
def uptoSmall : (H : Type) → List (DataW H) → Bool := fun _ ds => decide (uptoBulkAll ds ≤ 1048576)
def OpenSpec.upto (s : _root_.Go.ChangeSpec) : _root_.Go.OpenSpec := { _root_.Go.OpenSpec.ofChange s with cond := some uptoSmall }

/-- 'valiselaw2.FieldJoins', WHERE WHAT IT READS IS OF BULK AT MOST 1048576: true; the input reads as it did. -/
def fieldJoinsUptoRow : OpenClaim := { program := "ytfcmklmeinchhaa", sum := "c83c5ef5ed74e114781d4a1feb1fee110e8e01605b5e84b46d20321ca09b3001", func := "valise/valiselaw2.FieldJoins", spec := "fieldJoins", apart := false, narrowed := true }
def FieldJoinsUptoSaid : Prop := fieldJoinsUptoRow.holds Try.pinned (OpenSpec.upto fieldJoinsSpec)

/-- 'valiselaw2.FieldChain', WHERE WHAT IT READS IS OF BULK AT MOST 1048576: true; the input reads as it did. -/
def fieldChainUptoRow : OpenClaim := { program := "ytfcmklmeinchhaa", sum := "c83c5ef5ed74e114781d4a1feb1fee110e8e01605b5e84b46d20321ca09b3001", func := "valise/valiselaw2.FieldChain", spec := "fieldChain", apart := false, narrowed := true }
def FieldChainUptoSaid : Prop := fieldChainUptoRow.holds Try.pinned (OpenSpec.upto fieldChainSpec)

/-- 'valiselaw2.FieldReads', WHERE WHAT IT READS IS OF BULK AT MOST 1048576: true; the input reads as it did. -/
def fieldReadsUptoRow : OpenClaim := { program := "ytfcmklmeinchhaa", sum := "c83c5ef5ed74e114781d4a1feb1fee110e8e01605b5e84b46d20321ca09b3001", func := "valise/valiselaw2.FieldReads", spec := "fieldReads", apart := false, narrowed := true }
def FieldReadsUptoSaid : Prop := fieldReadsUptoRow.holds Try.pinned (OpenSpec.upto fieldReadsSpec)

/-- 'valisetop.NamesLow', WHERE WHAT IT READS IS OF BULK AT MOST 1048576: true; the input reads as it did. -/
def namesLowUptoRow : OpenClaim := { program := "ytfcmklmeinchhaa", sum := "c83c5ef5ed74e114781d4a1feb1fee110e8e01605b5e84b46d20321ca09b3001", func := "valise/valisetop.NamesLow", spec := "namesLow", apart := false, narrowed := true }
def NamesLowUptoSaid : Prop := namesLowUptoRow.holds Try.pinned (OpenSpec.upto namesLowSpec)

/-- 'valiselaw2.FieldPair', WHERE WHAT IT READS IS OF BULK AT MOST 1048576: true; the input reads as it did. -/
def fieldPairUptoRow : OpenClaim := { program := "ytfcmklmeinchhaa", sum := "c83c5ef5ed74e114781d4a1feb1fee110e8e01605b5e84b46d20321ca09b3001", func := "valise/valiselaw2.FieldPair", spec := "fieldPair", apart := false, narrowed := true }
def FieldPairUptoSaid : Prop := fieldPairUptoRow.holds Try.pinned (OpenSpec.upto fieldPairSpec)

/-- 'valiselaw2.FieldWrites', WHERE WHAT IT READS IS OF BULK AT MOST 1048576: true; the input reads as it did. -/
def fieldWritesUptoRow : OpenClaim := { program := "ytfcmklmeinchhaa", sum := "c83c5ef5ed74e114781d4a1feb1fee110e8e01605b5e84b46d20321ca09b3001", func := "valise/valiselaw2.FieldWrites", spec := "fieldWrites", apart := false, narrowed := true }
def FieldWritesUptoSaid : Prop := fieldWritesUptoRow.holds Try.pinned (OpenSpec.upto fieldWritesSpec)

/-- 'valiselaw2.FieldTwo', WHERE WHAT IT READS IS OF BULK AT MOST 1048576: true; the input reads as it did. -/
def fieldTwoUptoRow : OpenClaim := { program := "ytfcmklmeinchhaa", sum := "c83c5ef5ed74e114781d4a1feb1fee110e8e01605b5e84b46d20321ca09b3001", func := "valise/valiselaw2.FieldTwo", spec := "fieldTwo", apart := false, narrowed := true }
def FieldTwoUptoSaid : Prop := fieldTwoUptoRow.holds Try.pinned (OpenSpec.upto fieldTwoSpec)

/-- 'valiselaw2.FieldBack', WHERE WHAT IT READS IS OF BULK AT MOST 1048576: true; the input reads as it did. -/
def fieldBackUptoRow : OpenClaim := { program := "ytfcmklmeinchhaa", sum := "c83c5ef5ed74e114781d4a1feb1fee110e8e01605b5e84b46d20321ca09b3001", func := "valise/valiselaw2.FieldBack", spec := "fieldBack", apart := false, narrowed := true }
def FieldBackUptoSaid : Prop := fieldBackUptoRow.holds Try.pinned (OpenSpec.upto fieldBackSpec)

/-- 'valiselaw2.FieldNils', WHERE WHAT IT READS IS OF BULK AT MOST 1048576: true; the input reads as it did. -/
def fieldNilsUptoRow : OpenClaim := { program := "ytfcmklmeinchhaa", sum := "c83c5ef5ed74e114781d4a1feb1fee110e8e01605b5e84b46d20321ca09b3001", func := "valise/valiselaw2.FieldNils", spec := "fieldNils", apart := false, narrowed := true }
def FieldNilsUptoSaid : Prop := fieldNilsUptoRow.holds Try.pinned (OpenSpec.upto fieldNilsSpec)

end Rows
end Go.Proofs.Ytfcmklmeinchhaa
