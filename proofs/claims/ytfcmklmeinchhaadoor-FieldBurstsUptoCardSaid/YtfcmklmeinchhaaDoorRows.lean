/-
  NARROWER THAN 'FOR EVERY INPUT', by the rows' own cells (each row's printed sentence says how): FieldUpdates: laid · FieldSums: laid · FieldBursts: laid · FieldBlend: laid · FieldGathers: laid · FieldSplits: laid.
  DERIVED. THE GIVEN ROWS OF THIS SEAT. 6 by the template 'for every input the law returns true; each argument reads behind the call as it read before'; 0 by the template 'total and deterministic' (their statements: YtfcmklmeinchhaaDoorTotals.lean).
  GIVEN WITH THE SEED: the statements are not yours to turn. If you find one false, say at which input.
  Laid BY PROGRAM, IN A SANDBOX (cutbox-rows.mjs): the forced cells as the released guide's own fill.sh prints them over the translation c44dd27092b58b43… (all of the seat's roots in one cut). By AI agents, Wed Nov 11 2026. No macro, syntax, notation, axiom, sorry.
-/
import Derived.Test.YtfcmklmeinchhaaDoorChecked
import GoSem.Claim
import GoSem.ClaimJoined
import GoSem.ClaimMapViews
import Derived.JoinedTies
import Derived.KernelRfl
namespace Go.Proofs.YtfcmklmeinchhaaDoor
/- THE CELL 'sum', in the pinned program and in every row, IS THE sha256 OF THE DUMP (.gsa) THAT YtfcmklmeinchhaaDoorProg.lean LOADS. Nothing in Lean hashes anything: it is a label: what it is worth is what the hold of that sum in a sandbox is worth. -/
noncomputable def Tryd.pinned : Pinned := { name := "ytfcmklmeinchhaadoor", sum := "c44dd27092b58b43c36056fd093b8fb15244e494f3c7978b0c8950fc80eb2366", checked := Tryd.checked }
namespace Rows
def none {H : Type} : Left H := { results := [], args := [] }

/- WHAT THE LISTED PACKAGE-LEVEL VARIABLES READ AS WHEN THE CALL BEGINS. Each datum BY PROGRAM (the guide's laid-datum.mjs) off the statement by which the dump's own 'gosem.cut.vars' lays the variable. In a bare row this is a premise. The card (YtfcmklmeinchhaaDoorCards.lean) ties it to the program's text. -/
def laid_valise_field_table {H : Type} : DataW H := .agg [.lit (.int .u32 0), .lit (.int .u32 498536548), .lit (.int .u32 997073096), .lit (.int .u32 651767980), .lit (.int .u32 1994146192), .lit (.int .u32 1802195444), .lit (.int .u32 1303535960), .lit (.int .u32 1342533948), .lit (.int .u32 3988292384), .lit (.int .u32 4027552580), .lit (.int .u32 3604390888), .lit (.int .u32 3412177804), .lit (.int .u32 2607071920), .lit (.int .u32 2262029012), .lit (.int .u32 2685067896), .lit (.int .u32 3183342108)]

/-- 'valiselaw2.FieldUpdates': WHATEVER THE INPUT: true; the input reads as it did. -/
def fieldUpdatesSpec : ChangeSpec := { name := "fieldUpdates", fn := fun _ => fun
  | [d1, d2] => { results := [.lit (.bool true)], args := [d1, d2] }
  | _ => none }
def fieldUpdatesRow : OpenClaim := { program := "ytfcmklmeinchhaadoor", sum := "c44dd27092b58b43c36056fd093b8fb15244e494f3c7978b0c8950fc80eb2366", func := "valise/valiselaw2.FieldUpdates", spec := "fieldUpdates", named := ["valise/field.table"], apart := false, laid := [("valise/field.table", laid_valise_field_table)] }
def FieldUpdatesSaid : Prop := fieldUpdatesRow.holds Tryd.pinned (OpenSpec.ofChange fieldUpdatesSpec)

/-- ITS FALSE NEIGHBOUR: 'it returns false'. Refute it at one input. -/
def fieldUpdatesWrong : ChangeSpec := { name := "fieldUpdates", fn := fun _ => fun
  | [d1, d2] => { results := [.lit (.bool false)], args := [d1, d2] }
  | _ => none }
def FieldUpdatesWrongFalsely : Prop := fieldUpdatesRow.holds Tryd.pinned (OpenSpec.ofChange fieldUpdatesWrong)

/-- 'valiselaw2.FieldSums': WHATEVER THE INPUT: true; the input reads as it did. -/
def fieldSumsSpec : ChangeSpec := { name := "fieldSums", fn := fun _ => fun
  | [d] => { results := [.lit (.bool true)], args := [d] }
  | _ => none }
def fieldSumsRow : OpenClaim := { program := "ytfcmklmeinchhaadoor", sum := "c44dd27092b58b43c36056fd093b8fb15244e494f3c7978b0c8950fc80eb2366", func := "valise/valiselaw2.FieldSums", spec := "fieldSums", named := ["valise/field.table"], apart := false, laid := [("valise/field.table", laid_valise_field_table)] }
def FieldSumsSaid : Prop := fieldSumsRow.holds Tryd.pinned (OpenSpec.ofChange fieldSumsSpec)

/-- ITS FALSE NEIGHBOUR: 'it returns false'. Refute it at one input. -/
def fieldSumsWrong : ChangeSpec := { name := "fieldSums", fn := fun _ => fun
  | [d] => { results := [.lit (.bool false)], args := [d] }
  | _ => none }
def FieldSumsWrongFalsely : Prop := fieldSumsRow.holds Tryd.pinned (OpenSpec.ofChange fieldSumsWrong)

/-- 'valiselaw2.FieldBursts': WHATEVER THE INPUT: true; the input reads as it did. -/
def fieldBurstsSpec : ChangeSpec := { name := "fieldBursts", fn := fun _ => fun
  | [d1, d2, d3] => { results := [.lit (.bool true)], args := [d1, d2, d3] }
  | _ => none }
def fieldBurstsRow : OpenClaim := { program := "ytfcmklmeinchhaadoor", sum := "c44dd27092b58b43c36056fd093b8fb15244e494f3c7978b0c8950fc80eb2366", func := "valise/valiselaw2.FieldBursts", spec := "fieldBursts", named := ["valise/field.table"], apart := false, laid := [("valise/field.table", laid_valise_field_table)] }
def FieldBurstsSaid : Prop := fieldBurstsRow.holds Tryd.pinned (OpenSpec.ofChange fieldBurstsSpec)

/-- ITS FALSE NEIGHBOUR: 'it returns false'. Refute it at one input. -/
def fieldBurstsWrong : ChangeSpec := { name := "fieldBursts", fn := fun _ => fun
  | [d1, d2, d3] => { results := [.lit (.bool false)], args := [d1, d2, d3] }
  | _ => none }
def FieldBurstsWrongFalsely : Prop := fieldBurstsRow.holds Tryd.pinned (OpenSpec.ofChange fieldBurstsWrong)

/-- 'valiselaw2.FieldBlend': WHATEVER THE INPUT: true; the input reads as it did. -/
def fieldBlendSpec : ChangeSpec := { name := "fieldBlend", fn := fun _ => fun
  | [d1, d2] => { results := [.lit (.bool true)], args := [d1, d2] }
  | _ => none }
def fieldBlendRow : OpenClaim := { program := "ytfcmklmeinchhaadoor", sum := "c44dd27092b58b43c36056fd093b8fb15244e494f3c7978b0c8950fc80eb2366", func := "valise/valiselaw2.FieldBlend", spec := "fieldBlend", named := ["valise/field.table"], apart := false, laid := [("valise/field.table", laid_valise_field_table)] }
def FieldBlendSaid : Prop := fieldBlendRow.holds Tryd.pinned (OpenSpec.ofChange fieldBlendSpec)

/-- ITS FALSE NEIGHBOUR: 'it returns false'. Refute it at one input. -/
def fieldBlendWrong : ChangeSpec := { name := "fieldBlend", fn := fun _ => fun
  | [d1, d2] => { results := [.lit (.bool false)], args := [d1, d2] }
  | _ => none }
def FieldBlendWrongFalsely : Prop := fieldBlendRow.holds Tryd.pinned (OpenSpec.ofChange fieldBlendWrong)

/-- 'valiselaw2.FieldGathers': WHATEVER THE INPUT: true; the input reads as it did. -/
def fieldGathersSpec : ChangeSpec := { name := "fieldGathers", fn := fun _ => fun
  | [d1, d2] => { results := [.lit (.bool true)], args := [d1, d2] }
  | _ => none }
def fieldGathersRow : OpenClaim := { program := "ytfcmklmeinchhaadoor", sum := "c44dd27092b58b43c36056fd093b8fb15244e494f3c7978b0c8950fc80eb2366", func := "valise/valiselaw2.FieldGathers", spec := "fieldGathers", inPlace := ["(*sync.WaitGroup).Add", "internal/race.ReleaseMerge", "internal/race.Disable", "internal/race.Enable", "internal/synctest.IsInBubble", "internal/synctest.Associate[sync.WaitGroup]", "sync.fatal", "sync/atomic.OrUint64", "sync/atomic.AddUint64", "internal/race.Read", "sync/atomic.LoadUint64", "sync/atomic.StoreUint64", "internal/synctest.Disassociate[sync.WaitGroup]", "sync.runtime_Semrelease", "(*sync.WaitGroup).Done", "(*sync.WaitGroup).Wait", "internal/race.Acquire", "internal/synctest.IsAssociated[sync.WaitGroup]", "sync/atomic.CompareAndSwapUint64", "internal/race.Write", "sync.runtime_SemacquireWaitGroup"], unfollowed := true, recurses := true, named := ["valise/field.table"], leaving := true, apart := false, laid := [("valise/field.table", laid_valise_field_table)] }
def FieldGathersSaid : Prop := fieldGathersRow.holds Tryd.pinned (OpenSpec.ofChange fieldGathersSpec)

/-- ITS FALSE NEIGHBOUR: 'it returns false'. Refute it at one input. -/
def fieldGathersWrong : ChangeSpec := { name := "fieldGathers", fn := fun _ => fun
  | [d1, d2] => { results := [.lit (.bool false)], args := [d1, d2] }
  | _ => none }
def FieldGathersWrongFalsely : Prop := fieldGathersRow.holds Tryd.pinned (OpenSpec.ofChange fieldGathersWrong)

/-- 'valiselaw2.FieldSplits': WHATEVER THE INPUT: true; the input reads as it did. -/
def fieldSplitsSpec : ChangeSpec := { name := "fieldSplits", fn := fun _ => fun
  | [d1, d2] => { results := [.lit (.bool true)], args := [d1, d2] }
  | _ => none }
def fieldSplitsRow : OpenClaim := { program := "ytfcmklmeinchhaadoor", sum := "c44dd27092b58b43c36056fd093b8fb15244e494f3c7978b0c8950fc80eb2366", func := "valise/valiselaw2.FieldSplits", spec := "fieldSplits", inPlace := ["(*sync.WaitGroup).Add", "internal/race.ReleaseMerge", "internal/race.Disable", "internal/race.Enable", "internal/synctest.IsInBubble", "internal/synctest.Associate[sync.WaitGroup]", "sync.fatal", "sync/atomic.OrUint64", "sync/atomic.AddUint64", "internal/race.Read", "sync/atomic.LoadUint64", "sync/atomic.StoreUint64", "internal/synctest.Disassociate[sync.WaitGroup]", "sync.runtime_Semrelease", "(*sync.WaitGroup).Done", "(*sync.WaitGroup).Wait", "internal/race.Acquire", "internal/synctest.IsAssociated[sync.WaitGroup]", "sync/atomic.CompareAndSwapUint64", "internal/race.Write", "sync.runtime_SemacquireWaitGroup"], unfollowed := true, recurses := true, named := ["valise/field.table"], leaving := true, apart := false, laid := [("valise/field.table", laid_valise_field_table)] }
def FieldSplitsSaid : Prop := fieldSplitsRow.holds Tryd.pinned (OpenSpec.ofChange fieldSplitsSpec)

/-- ITS FALSE NEIGHBOUR: 'it returns false'. Refute it at one input. -/
def fieldSplitsWrong : ChangeSpec := { name := "fieldSplits", fn := fun _ => fun
  | [d1, d2] => { results := [.lit (.bool false)], args := [d1, d2] }
  | _ => none }
def FieldSplitsWrongFalsely : Prop := fieldSplitsRow.holds Tryd.pinned (OpenSpec.ofChange fieldSplitsWrong)

/- THE SECOND FORM. 'bulk': how many values and letters a reading holds, each counted each time it is reached (what is shared counts as often as it is met; a slice's spare places count too). A statement '..UptoSaid' is the law's where the arguments, and the package variables that the reading takes, are together of bulk at most 1048576: NARROWER than '..Said'. Prove '..Said' where nothing that the law and all that it calls make is longer than what came in: it says more and counts as full. Else prove '..UptoSaid'. A law counts once. -/
mutual
def uptoBulk {H : Type} : DataW H → Nat
  | .lit (.string bytes) => bytes.length + 1
  | .lit _ => 1
  | .nil => 1
  | .ptr d => uptoBulk d + 1
  | .slice elems spare => uptoBulkAll elems + uptoBulkAll spare + 1
  | .agg parts => uptoBulkAll parts + 1
  | .iface _ d => uptoBulk d + 1
  | .map entries => uptoBulkEntries entries + 1
  | .held _ => 1
def uptoBulkAll {H : Type} : List (DataW H) → Nat
  | [] => 0
  | d :: r => uptoBulk d + uptoBulkAll r
def uptoBulkEntries {H : Type} : List (Lit × DataW H) → Nat
  | [] => 0
  | x :: r => uptoBulkEntry x + uptoBulkEntries r
def uptoBulkEntry {H : Type} : Lit × DataW H → Nat
  | (.string bytes, d) => bytes.length + uptoBulk d + 1
  | (_, d) => uptoBulk d + 1
 end
def uptoSmall : (H : Type) → List (DataW H) → Bool := fun _ ds => decide (uptoBulkAll ds ≤ 1048576)
def OpenSpec.upto (s : _root_.Go.ChangeSpec) : _root_.Go.OpenSpec := { _root_.Go.OpenSpec.ofChange s with cond := some uptoSmall }

/-- 'valiselaw2.FieldUpdates', WHERE WHAT IT READS IS OF BULK AT MOST 1048576: true; the input reads as it did. -/
def fieldUpdatesUptoRow : OpenClaim := { program := "ytfcmklmeinchhaadoor", sum := "c44dd27092b58b43c36056fd093b8fb15244e494f3c7978b0c8950fc80eb2366", func := "valise/valiselaw2.FieldUpdates", spec := "fieldUpdates", named := ["valise/field.table"], apart := false, laid := [("valise/field.table", laid_valise_field_table)], narrowed := true }
def FieldUpdatesUptoSaid : Prop := fieldUpdatesUptoRow.holds Tryd.pinned (OpenSpec.upto fieldUpdatesSpec)

/-- 'valiselaw2.FieldSums', WHERE WHAT IT READS IS OF BULK AT MOST 1048576: true; the input reads as it did. -/
def fieldSumsUptoRow : OpenClaim := { program := "ytfcmklmeinchhaadoor", sum := "c44dd27092b58b43c36056fd093b8fb15244e494f3c7978b0c8950fc80eb2366", func := "valise/valiselaw2.FieldSums", spec := "fieldSums", named := ["valise/field.table"], apart := false, laid := [("valise/field.table", laid_valise_field_table)], narrowed := true }
def FieldSumsUptoSaid : Prop := fieldSumsUptoRow.holds Tryd.pinned (OpenSpec.upto fieldSumsSpec)

/-- 'valiselaw2.FieldBursts', WHERE WHAT IT READS IS OF BULK AT MOST 1048576: true; the input reads as it did. -/
def fieldBurstsUptoRow : OpenClaim := { program := "ytfcmklmeinchhaadoor", sum := "c44dd27092b58b43c36056fd093b8fb15244e494f3c7978b0c8950fc80eb2366", func := "valise/valiselaw2.FieldBursts", spec := "fieldBursts", named := ["valise/field.table"], apart := false, laid := [("valise/field.table", laid_valise_field_table)], narrowed := true }
def FieldBurstsUptoSaid : Prop := fieldBurstsUptoRow.holds Tryd.pinned (OpenSpec.upto fieldBurstsSpec)

/-- 'valiselaw2.FieldBlend', WHERE WHAT IT READS IS OF BULK AT MOST 1048576: true; the input reads as it did. -/
def fieldBlendUptoRow : OpenClaim := { program := "ytfcmklmeinchhaadoor", sum := "c44dd27092b58b43c36056fd093b8fb15244e494f3c7978b0c8950fc80eb2366", func := "valise/valiselaw2.FieldBlend", spec := "fieldBlend", named := ["valise/field.table"], apart := false, laid := [("valise/field.table", laid_valise_field_table)], narrowed := true }
def FieldBlendUptoSaid : Prop := fieldBlendUptoRow.holds Tryd.pinned (OpenSpec.upto fieldBlendSpec)

/-- 'valiselaw2.FieldGathers', WHERE WHAT IT READS IS OF BULK AT MOST 1048576: true; the input reads as it did. -/
def fieldGathersUptoRow : OpenClaim := { program := "ytfcmklmeinchhaadoor", sum := "c44dd27092b58b43c36056fd093b8fb15244e494f3c7978b0c8950fc80eb2366", func := "valise/valiselaw2.FieldGathers", spec := "fieldGathers", inPlace := ["(*sync.WaitGroup).Add", "internal/race.ReleaseMerge", "internal/race.Disable", "internal/race.Enable", "internal/synctest.IsInBubble", "internal/synctest.Associate[sync.WaitGroup]", "sync.fatal", "sync/atomic.OrUint64", "sync/atomic.AddUint64", "internal/race.Read", "sync/atomic.LoadUint64", "sync/atomic.StoreUint64", "internal/synctest.Disassociate[sync.WaitGroup]", "sync.runtime_Semrelease", "(*sync.WaitGroup).Done", "(*sync.WaitGroup).Wait", "internal/race.Acquire", "internal/synctest.IsAssociated[sync.WaitGroup]", "sync/atomic.CompareAndSwapUint64", "internal/race.Write", "sync.runtime_SemacquireWaitGroup"], unfollowed := true, recurses := true, named := ["valise/field.table"], leaving := true, apart := false, laid := [("valise/field.table", laid_valise_field_table)], narrowed := true }
def FieldGathersUptoSaid : Prop := fieldGathersUptoRow.holds Tryd.pinned (OpenSpec.upto fieldGathersSpec)

/-- 'valiselaw2.FieldSplits', WHERE WHAT IT READS IS OF BULK AT MOST 1048576: true; the input reads as it did. -/
def fieldSplitsUptoRow : OpenClaim := { program := "ytfcmklmeinchhaadoor", sum := "c44dd27092b58b43c36056fd093b8fb15244e494f3c7978b0c8950fc80eb2366", func := "valise/valiselaw2.FieldSplits", spec := "fieldSplits", inPlace := ["(*sync.WaitGroup).Add", "internal/race.ReleaseMerge", "internal/race.Disable", "internal/race.Enable", "internal/synctest.IsInBubble", "internal/synctest.Associate[sync.WaitGroup]", "sync.fatal", "sync/atomic.OrUint64", "sync/atomic.AddUint64", "internal/race.Read", "sync/atomic.LoadUint64", "sync/atomic.StoreUint64", "internal/synctest.Disassociate[sync.WaitGroup]", "sync.runtime_Semrelease", "(*sync.WaitGroup).Done", "(*sync.WaitGroup).Wait", "internal/race.Acquire", "internal/synctest.IsAssociated[sync.WaitGroup]", "sync/atomic.CompareAndSwapUint64", "internal/race.Write", "sync.runtime_SemacquireWaitGroup"], unfollowed := true, recurses := true, named := ["valise/field.table"], leaving := true, apart := false, laid := [("valise/field.table", laid_valise_field_table)], narrowed := true }
def FieldSplitsUptoSaid : Prop := fieldSplitsUptoRow.holds Tryd.pinned (OpenSpec.upto fieldSplitsSpec)

end Rows
end Go.Proofs.YtfcmklmeinchhaaDoor
