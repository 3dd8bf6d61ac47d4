/-
  NARROWER THAN 'FOR EVERY INPUT', by the rows' own cells (each row's printed sentence says how): JournalEncodes: laid · JournalDecodes: laid · JournalSealBack: laid · JournalLooks: laid · JournalRecovers: laid · JournalForged: laid · JournalAgain: laid.
  DERIVED. THE GIVEN ROWS OF THIS SEAT. 7 by the template 'for every input the law returns true; each argument reads behind the call as it read before'; 0 by the template 'total and deterministic' (their statements: YtehakfbfjpolfaaDoorTotals.lean).
  GIVEN WITH THE SEED: the statements are not yours to turn. If you find one false, say at which input.
  Laid BY PROGRAM, IN A SANDBOX (cutbox-rows.mjs): the forced cells as the released guide's own fill.sh prints them over the translation 391c894497e2fdae… (all of the seat's roots in one cut). By AI agents, Wed Nov 11 2026. No macro, syntax, notation, axiom, sorry.
-/
import Derived.Test.YtehakfbfjpolfaaDoorChecked
import GoSem.PinnedTables
import GoSem.Claim
import GoSem.ClaimJoined
import GoSem.ClaimMapViews
import Derived.JoinedTies
import Derived.KernelRfl
namespace Go.Proofs.YtehakfbfjpolfaaDoor
/- THE CELL 'sum', in the pinned program and in every row, IS THE sha256 OF THE DUMP (.gsa) THAT YtehakfbfjpolfaaDoorProg.lean LOADS. Nothing in Lean hashes anything: it is a label: what it is worth is what the hold of that sum in a sandbox is worth. -/
noncomputable def Tryd.pinned : Pinned := { name := "ytehakfbfjpolfaadoor", sum := "391c894497e2fdae89d75caecb9cce76901c20ab71c6fca400a4e3529ce878f4", checked := Tryd.checked }
namespace Rows
def none {H : Type} : Left H := { results := [], args := [] }

/- WHAT THE LISTED PACKAGE-LEVEL VARIABLES READ AS WHEN THE CALL BEGINS. Each datum BY PROGRAM (the guide's laid-datum.mjs) off the statement by which the dump's own 'gosem.cut.vars' lays the variable. In a bare row this is a premise. The card (YtehakfbfjpolfaaDoorCards.lean) ties it to the program's text. -/
def laid_valise_field_table {H : Type} : DataW H := .agg [.lit (.int .u32 0), .lit (.int .u32 498536548), .lit (.int .u32 997073096), .lit (.int .u32 651767980), .lit (.int .u32 1994146192), .lit (.int .u32 1802195444), .lit (.int .u32 1303535960), .lit (.int .u32 1342533948), .lit (.int .u32 3988292384), .lit (.int .u32 4027552580), .lit (.int .u32 3604390888), .lit (.int .u32 3412177804), .lit (.int .u32 2607071920), .lit (.int .u32 2262029012), .lit (.int .u32 2685067896), .lit (.int .u32 3183342108)]
def laid_unicode_utf8_acceptRanges {H : Type} : DataW H := .agg [.agg [.lit (.int .u8 128), .lit (.int .u8 191)], .agg [.lit (.int .u8 160), .lit (.int .u8 191)], .agg [.lit (.int .u8 128), .lit (.int .u8 159)], .agg [.lit (.int .u8 144), .lit (.int .u8 191)], .agg [.lit (.int .u8 128), .lit (.int .u8 143)], .agg [.lit (.int .u8 0), .lit (.int .u8 0)], .agg [.lit (.int .u8 0), .lit (.int .u8 0)], .agg [.lit (.int .u8 0), .lit (.int .u8 0)], .agg [.lit (.int .u8 0), .lit (.int .u8 0)], .agg [.lit (.int .u8 0), .lit (.int .u8 0)], .agg [.lit (.int .u8 0), .lit (.int .u8 0)], .agg [.lit (.int .u8 0), .lit (.int .u8 0)], .agg [.lit (.int .u8 0), .lit (.int .u8 0)], .agg [.lit (.int .u8 0), .lit (.int .u8 0)], .agg [.lit (.int .u8 0), .lit (.int .u8 0)], .agg [.lit (.int .u8 0), .lit (.int .u8 0)]]
/-- One of Go's own tables, pinned by name: the form's constant. -/
def laid_unicode_utf8_first : DataW Unit := Go.Pinned.utf8First

/-- 'valiselaw14.JournalEncodes': WHATEVER THE INPUT: true; the input reads as it did. -/
def journalEncodesSpec : ChangeSpec := { name := "journalEncodes", fn := fun _ => fun
  | [d1, d2] => { results := [.lit (.bool true)], args := [d1, d2] }
  | _ => none }
def journalEncodesRow : OpenClaim := { program := "ytehakfbfjpolfaadoor", sum := "391c894497e2fdae89d75caecb9cce76901c20ab71c6fca400a4e3529ce878f4", func := "valise/valiselaw14.JournalEncodes", spec := "journalEncodes", named := ["valise/field.table"], apart := false, laid := [("valise/field.table", laid_valise_field_table)] }
def JournalEncodesSaid : Prop := journalEncodesRow.holds Tryd.pinned (OpenSpec.ofChange journalEncodesSpec)

/-- ITS FALSE NEIGHBOUR: 'it returns false'. Refute it at one input. -/
def journalEncodesWrong : ChangeSpec := { name := "journalEncodes", fn := fun _ => fun
  | [d1, d2] => { results := [.lit (.bool false)], args := [d1, d2] }
  | _ => none }
def JournalEncodesWrongFalsely : Prop := journalEncodesRow.holds Tryd.pinned (OpenSpec.ofChange journalEncodesWrong)

/-- 'valiselaw14.JournalDecodes': WHATEVER THE INPUT: true; the input reads as it did. -/
def journalDecodesSpec : ChangeSpec := { name := "journalDecodes", fn := fun _ => fun
  | [d] => { results := [.lit (.bool true)], args := [d] }
  | _ => none }
def journalDecodesRow : OpenClaim := { program := "ytehakfbfjpolfaadoor", sum := "391c894497e2fdae89d75caecb9cce76901c20ab71c6fca400a4e3529ce878f4", func := "valise/valiselaw14.JournalDecodes", spec := "journalDecodes", named := ["valise/field.table"], apart := false, laid := [("valise/field.table", laid_valise_field_table)] }
def JournalDecodesSaid : Prop := journalDecodesRow.holds Tryd.pinned (OpenSpec.ofChange journalDecodesSpec)

/-- ITS FALSE NEIGHBOUR: 'it returns false'. Refute it at one input. -/
def journalDecodesWrong : ChangeSpec := { name := "journalDecodes", fn := fun _ => fun
  | [d] => { results := [.lit (.bool false)], args := [d] }
  | _ => none }
def JournalDecodesWrongFalsely : Prop := journalDecodesRow.holds Tryd.pinned (OpenSpec.ofChange journalDecodesWrong)

/-- 'valiselaw14.JournalSealBack': WHATEVER THE INPUT: true; the input reads as it did. -/
def journalSealBackSpec : ChangeSpec := { name := "journalSealBack", fn := fun _ => fun
  | [d1, d2, d3] => { results := [.lit (.bool true)], args := [d1, d2, d3] }
  | _ => none }
def journalSealBackRow : OpenClaim := { program := "ytehakfbfjpolfaadoor", sum := "391c894497e2fdae89d75caecb9cce76901c20ab71c6fca400a4e3529ce878f4", func := "valise/valiselaw14.JournalSealBack", spec := "journalSealBack", named := ["valise/field.table"], apart := false, laid := [("valise/field.table", laid_valise_field_table)] }
def JournalSealBackSaid : Prop := journalSealBackRow.holds Tryd.pinned (OpenSpec.ofChange journalSealBackSpec)

/-- ITS FALSE NEIGHBOUR: 'it returns false'. Refute it at one input. -/
def journalSealBackWrong : ChangeSpec := { name := "journalSealBack", fn := fun _ => fun
  | [d1, d2, d3] => { results := [.lit (.bool false)], args := [d1, d2, d3] }
  | _ => none }
def JournalSealBackWrongFalsely : Prop := journalSealBackRow.holds Tryd.pinned (OpenSpec.ofChange journalSealBackWrong)

/-- 'valiselaw14.JournalLooks': WHATEVER THE INPUT: true; the input reads as it did. -/
def journalLooksSpec : ChangeSpec := { name := "journalLooks", fn := fun _ => fun
  | [d] => { results := [.lit (.bool true)], args := [d] }
  | _ => none }
def journalLooksRow : OpenClaim := { program := "ytehakfbfjpolfaadoor", sum := "391c894497e2fdae89d75caecb9cce76901c20ab71c6fca400a4e3529ce878f4", func := "valise/valiselaw14.JournalLooks", spec := "journalLooks", named := ["unicode/utf8.first", "unicode/utf8.acceptRanges", "valise/field.table"], apart := false, laid := [("unicode/utf8.acceptRanges", laid_unicode_utf8_acceptRanges), ("valise/field.table", laid_valise_field_table), ("unicode/utf8.first", laid_unicode_utf8_first)] }
def JournalLooksSaid : Prop := journalLooksRow.holds Tryd.pinned (OpenSpec.ofChange journalLooksSpec)

/-- ITS FALSE NEIGHBOUR: 'it returns false'. Refute it at one input. -/
def journalLooksWrong : ChangeSpec := { name := "journalLooks", fn := fun _ => fun
  | [d] => { results := [.lit (.bool false)], args := [d] }
  | _ => none }
def JournalLooksWrongFalsely : Prop := journalLooksRow.holds Tryd.pinned (OpenSpec.ofChange journalLooksWrong)

/-- 'valiselaw14.JournalRecovers': WHATEVER THE INPUT: true; the input reads as it did. -/
def journalRecoversSpec : ChangeSpec := { name := "journalRecovers", fn := fun _ => fun
  | [d1, d2, d3, d4] => { results := [.lit (.bool true)], args := [d1, d2, d3, d4] }
  | _ => none }
def journalRecoversRow : OpenClaim := { program := "ytehakfbfjpolfaadoor", sum := "391c894497e2fdae89d75caecb9cce76901c20ab71c6fca400a4e3529ce878f4", func := "valise/valiselaw14.JournalRecovers", spec := "journalRecovers", unfollowed := true, recurses := true, named := ["unicode/utf8.first", "unicode/utf8.acceptRanges", "valise/field.table"], apart := false, laid := [("unicode/utf8.acceptRanges", laid_unicode_utf8_acceptRanges), ("valise/field.table", laid_valise_field_table), ("unicode/utf8.first", laid_unicode_utf8_first)] }
def JournalRecoversSaid : Prop := journalRecoversRow.holds Tryd.pinned (OpenSpec.ofChange journalRecoversSpec)

/-- ITS FALSE NEIGHBOUR: 'it returns false'. Refute it at one input. -/
def journalRecoversWrong : ChangeSpec := { name := "journalRecovers", fn := fun _ => fun
  | [d1, d2, d3, d4] => { results := [.lit (.bool false)], args := [d1, d2, d3, d4] }
  | _ => none }
def JournalRecoversWrongFalsely : Prop := journalRecoversRow.holds Tryd.pinned (OpenSpec.ofChange journalRecoversWrong)

/-- 'valiselaw14.JournalForged': WHATEVER THE INPUT: true; the input reads as it did. -/
def journalForgedSpec : ChangeSpec := { name := "journalForged", fn := fun _ => fun
  | [d] => { results := [.lit (.bool true)], args := [d] }
  | _ => none }
def journalForgedRow : OpenClaim := { program := "ytehakfbfjpolfaadoor", sum := "391c894497e2fdae89d75caecb9cce76901c20ab71c6fca400a4e3529ce878f4", func := "valise/valiselaw14.JournalForged", spec := "journalForged", unfollowed := true, recurses := true, named := ["unicode/utf8.first", "unicode/utf8.acceptRanges", "valise/field.table"], apart := false, laid := [("unicode/utf8.acceptRanges", laid_unicode_utf8_acceptRanges), ("valise/field.table", laid_valise_field_table), ("unicode/utf8.first", laid_unicode_utf8_first)] }
def JournalForgedSaid : Prop := journalForgedRow.holds Tryd.pinned (OpenSpec.ofChange journalForgedSpec)

/-- ITS FALSE NEIGHBOUR: 'it returns false'. Refute it at one input. -/
def journalForgedWrong : ChangeSpec := { name := "journalForged", fn := fun _ => fun
  | [d] => { results := [.lit (.bool false)], args := [d] }
  | _ => none }
def JournalForgedWrongFalsely : Prop := journalForgedRow.holds Tryd.pinned (OpenSpec.ofChange journalForgedWrong)

/-- 'valiselaw14.JournalAgain': WHATEVER THE INPUT: true; the input reads as it did. -/
def journalAgainSpec : ChangeSpec := { name := "journalAgain", fn := fun _ => fun
  | [d] => { results := [.lit (.bool true)], args := [d] }
  | _ => none }
def journalAgainRow : OpenClaim := { program := "ytehakfbfjpolfaadoor", sum := "391c894497e2fdae89d75caecb9cce76901c20ab71c6fca400a4e3529ce878f4", func := "valise/valiselaw14.JournalAgain", spec := "journalAgain", unfollowed := true, recurses := true, named := ["unicode/utf8.first", "unicode/utf8.acceptRanges", "valise/field.table"], apart := false, laid := [("unicode/utf8.acceptRanges", laid_unicode_utf8_acceptRanges), ("valise/field.table", laid_valise_field_table), ("unicode/utf8.first", laid_unicode_utf8_first)] }
def JournalAgainSaid : Prop := journalAgainRow.holds Tryd.pinned (OpenSpec.ofChange journalAgainSpec)

/-- ITS FALSE NEIGHBOUR: 'it returns false'. Refute it at one input. -/
def journalAgainWrong : ChangeSpec := { name := "journalAgain", fn := fun _ => fun
  | [d] => { results := [.lit (.bool false)], args := [d] }
  | _ => none }
def JournalAgainWrongFalsely : Prop := journalAgainRow.holds Tryd.pinned (OpenSpec.ofChange journalAgainWrong)

/- THE SECOND FORM. 'bulk': how many values and letters a reading holds, each counted each time it is reached (what is shared counts as often as it is met; a slice's spare places count too). A statement '..UptoSaid' is the law's where the arguments, and the package variables that the reading takes, are together of bulk at most 1048576: NARROWER than '..Said'. Prove '..Said' where nothing that the law and all that it calls make is longer than what came in: it says more and counts as full. Else prove '..UptoSaid'. A law counts once. -/
mutual
def uptoBulk {H : Type} : DataW H → Nat
  | .lit (.string bytes) => bytes.length + 1
  | .lit _ => 1
  | .nil => 1
  | .ptr d => uptoBulk d + 1
  | .slice elems spare => uptoBulkAll elems + uptoBulkAll spare + 1
  | .agg parts => uptoBulkAll parts + 1
  | .iface _ d => uptoBulk d + 1
  | .map entries => uptoBulkEntries entries + 1
  | .held _ => 1
def uptoBulkAll {H : Type} : List (DataW H) → Nat
  | [] => 0
  | d :: r => uptoBulk d + uptoBulkAll r
def uptoBulkEntries {H : Type} : List (Lit × DataW H) → Nat
  | [] => 0
  | x :: r => uptoBulkEntry x + uptoBulkEntries r
def uptoBulkEntry {H : Type} : Lit × DataW H → Nat
  | (.string bytes, d) => bytes.length + uptoBulk d + 1
  | (_, d) => uptoBulk d + 1
 end
def uptoSmall : (H : Type) → List (DataW H) → Bool := fun _ ds => decide (uptoBulkAll ds ≤ 1048576)
def OpenSpec.upto (s : _root_.Go.ChangeSpec) : _root_.Go.OpenSpec := { _root_.Go.OpenSpec.ofChange s with cond := some uptoSmall }

/-- 'valiselaw14.JournalEncodes', WHERE WHAT IT READS IS OF BULK AT MOST 1048576: true; the input reads as it did. -/
def journalEncodesUptoRow : OpenClaim := { program := "ytehakfbfjpolfaadoor", sum := "391c894497e2fdae89d75caecb9cce76901c20ab71c6fca400a4e3529ce878f4", func := "valise/valiselaw14.JournalEncodes", spec := "journalEncodes", named := ["valise/field.table"], apart := false, laid := [("valise/field.table", laid_valise_field_table)], narrowed := true }
def JournalEncodesUptoSaid : Prop := journalEncodesUptoRow.holds Tryd.pinned (OpenSpec.upto journalEncodesSpec)

/-- 'valiselaw14.JournalDecodes', WHERE WHAT IT READS IS OF BULK AT MOST 1048576: true; the input reads as it did. -/
def journalDecodesUptoRow : OpenClaim := { program := "ytehakfbfjpolfaadoor", sum := "391c894497e2fdae89d75caecb9cce76901c20ab71c6fca400a4e3529ce878f4", func := "valise/valiselaw14.JournalDecodes", spec := "journalDecodes", named := ["valise/field.table"], apart := false, laid := [("valise/field.table", laid_valise_field_table)], narrowed := true }
def JournalDecodesUptoSaid : Prop := journalDecodesUptoRow.holds Tryd.pinned (OpenSpec.upto journalDecodesSpec)

/-- 'valiselaw14.JournalSealBack', WHERE WHAT IT READS IS OF BULK AT MOST 1048576: true; the input reads as it did. -/
def journalSealBackUptoRow : OpenClaim := { program := "ytehakfbfjpolfaadoor", sum := "391c894497e2fdae89d75caecb9cce76901c20ab71c6fca400a4e3529ce878f4", func := "valise/valiselaw14.JournalSealBack", spec := "journalSealBack", named := ["valise/field.table"], apart := false, laid := [("valise/field.table", laid_valise_field_table)], narrowed := true }
def JournalSealBackUptoSaid : Prop := journalSealBackUptoRow.holds Tryd.pinned (OpenSpec.upto journalSealBackSpec)

/-- 'valiselaw14.JournalLooks', WHERE WHAT IT READS IS OF BULK AT MOST 1048576: true; the input reads as it did. -/
def journalLooksUptoRow : OpenClaim := { program := "ytehakfbfjpolfaadoor", sum := "391c894497e2fdae89d75caecb9cce76901c20ab71c6fca400a4e3529ce878f4", func := "valise/valiselaw14.JournalLooks", spec := "journalLooks", named := ["unicode/utf8.first", "unicode/utf8.acceptRanges", "valise/field.table"], apart := false, laid := [("unicode/utf8.acceptRanges", laid_unicode_utf8_acceptRanges), ("valise/field.table", laid_valise_field_table), ("unicode/utf8.first", laid_unicode_utf8_first)], narrowed := true }
def JournalLooksUptoSaid : Prop := journalLooksUptoRow.holds Tryd.pinned (OpenSpec.upto journalLooksSpec)

/-- 'valiselaw14.JournalRecovers', WHERE WHAT IT READS IS OF BULK AT MOST 1048576: true; the input reads as it did. -/
def journalRecoversUptoRow : OpenClaim := { program := "ytehakfbfjpolfaadoor", sum := "391c894497e2fdae89d75caecb9cce76901c20ab71c6fca400a4e3529ce878f4", func := "valise/valiselaw14.JournalRecovers", spec := "journalRecovers", unfollowed := true, recurses := true, named := ["unicode/utf8.first", "unicode/utf8.acceptRanges", "valise/field.table"], apart := false, laid := [("unicode/utf8.acceptRanges", laid_unicode_utf8_acceptRanges), ("valise/field.table", laid_valise_field_table), ("unicode/utf8.first", laid_unicode_utf8_first)], narrowed := true }
def JournalRecoversUptoSaid : Prop := journalRecoversUptoRow.holds Tryd.pinned (OpenSpec.upto journalRecoversSpec)

/-- 'valiselaw14.JournalForged', WHERE WHAT IT READS IS OF BULK AT MOST 1048576: true; the input reads as it did. -/
def journalForgedUptoRow : OpenClaim := { program := "ytehakfbfjpolfaadoor", sum := "391c894497e2fdae89d75caecb9cce76901c20ab71c6fca400a4e3529ce878f4", func := "valise/valiselaw14.JournalForged", spec := "journalForged", unfollowed := true, recurses := true, named := ["unicode/utf8.first", "unicode/utf8.acceptRanges", "valise/field.table"], apart := false, laid := [("unicode/utf8.acceptRanges", laid_unicode_utf8_acceptRanges), ("valise/field.table", laid_valise_field_table), ("unicode/utf8.first", laid_unicode_utf8_first)], narrowed := true }
def JournalForgedUptoSaid : Prop := journalForgedUptoRow.holds Tryd.pinned (OpenSpec.upto journalForgedSpec)

/-- 'valiselaw14.JournalAgain', WHERE WHAT IT READS IS OF BULK AT MOST 1048576: true; the input reads as it did. -/
def journalAgainUptoRow : OpenClaim := { program := "ytehakfbfjpolfaadoor", sum := "391c894497e2fdae89d75caecb9cce76901c20ab71c6fca400a4e3529ce878f4", func := "valise/valiselaw14.JournalAgain", spec := "journalAgain", unfollowed := true, recurses := true, named := ["unicode/utf8.first", "unicode/utf8.acceptRanges", "valise/field.table"], apart := false, laid := [("unicode/utf8.acceptRanges", laid_unicode_utf8_acceptRanges), ("valise/field.table", laid_valise_field_table), ("unicode/utf8.first", laid_unicode_utf8_first)], narrowed := true }
def JournalAgainUptoSaid : Prop := journalAgainUptoRow.holds Tryd.pinned (OpenSpec.upto journalAgainSpec)

end Rows
end Go.Proofs.YtehakfbfjpolfaaDoor
