/-
  No cell of these rows narrows 'for every input' (looked for: loops, veiled, ifaces, maps, wideKeys, modest, calm, conditions, laid).
  DERIVED. THE GIVEN ROWS OF THIS SEAT. 3 by the template 'for every input the law returns true; each argument reads behind the call as it read before'; 0 by the template 'total and deterministic' (their statements: YtehakfbfjpolfaaTotals.lean).
  GIVEN WITH THE SEED: the statements are not yours to turn. If you find one false, say at which input.
  Laid BY PROGRAM, IN A SANDBOX (cutbox-rows.mjs): the forced cells as the released guide's own fill.sh prints them over the translation b74ed350c24bdb39… (all of the seat's roots in one cut). By AI agents, Wed Nov 11 2026. No macro, syntax, notation, axiom, sorry.
-/
import Derived.Test.YtehakfbfjpolfaaChecked
import GoSem.Claim
import GoSem.ClaimJoined
import GoSem.ClaimMapViews
import Derived.JoinedTies
import Derived.KernelRfl
namespace Go.Proofs.Ytehakfbfjpolfaa
/- THE CELL 'sum', in the pinned program and in every row, IS THE sha256 OF THE DUMP (.gsa) THAT YtehakfbfjpolfaaProg.lean LOADS. Nothing in Lean hashes anything: it is a label: what it is worth is what the hold of that sum in a sandbox is worth. -/
noncomputable def Try.pinned : Pinned := { name := "ytehakfbfjpolfaa", sum := "b74ed350c24bdb393b50ea0a4be67539c142224a1b188cbaa837d5b664725a0b", checked := Try.checked }
namespace Rows
def none {H : Type} : Left H := { results := [], args := [] }

/-- 'valiselaw14.JournalApplies': WHATEVER THE INPUT: true; the input reads as it did. -/
def journalAppliesSpec : ChangeSpec := { name := "journalApplies", fn := fun _ => fun
  | [d1, d2, d3] => { results := [.lit (.bool true)], args := [d1, d2, d3] }
  | _ => none }
def journalAppliesRow : OpenClaim := { program := "ytehakfbfjpolfaa", sum := "b74ed350c24bdb393b50ea0a4be67539c142224a1b188cbaa837d5b664725a0b", func := "valise/valiselaw14.JournalApplies", spec := "journalApplies", apart := false }
def JournalAppliesSaid : Prop := journalAppliesRow.holds Try.pinned (OpenSpec.ofChange journalAppliesSpec)

/-- ITS FALSE NEIGHBOUR: 'it returns false'. Refute it at one input. -/
def journalAppliesWrong : ChangeSpec := { name := "journalApplies", fn := fun _ => fun
  | [d1, d2, d3] => { results := [.lit (.bool false)], args := [d1, d2, d3] }
  | _ => none }
def JournalAppliesWrongFalsely : Prop := journalAppliesRow.holds Try.pinned (OpenSpec.ofChange journalAppliesWrong)

/-- 'valiselaw14.JournalNeeds': WHATEVER THE INPUT: true; the input reads as it did. -/
def journalNeedsSpec : ChangeSpec := { name := "journalNeeds", fn := fun _ => fun
  | [d1, d2, d3] => { results := [.lit (.bool true)], args := [d1, d2, d3] }
  | _ => none }
def journalNeedsRow : OpenClaim := { program := "ytehakfbfjpolfaa", sum := "b74ed350c24bdb393b50ea0a4be67539c142224a1b188cbaa837d5b664725a0b", func := "valise/valiselaw14.JournalNeeds", spec := "journalNeeds", apart := false }
def JournalNeedsSaid : Prop := journalNeedsRow.holds Try.pinned (OpenSpec.ofChange journalNeedsSpec)

/-- ITS FALSE NEIGHBOUR: 'it returns false'. Refute it at one input. -/
def journalNeedsWrong : ChangeSpec := { name := "journalNeeds", fn := fun _ => fun
  | [d1, d2, d3] => { results := [.lit (.bool false)], args := [d1, d2, d3] }
  | _ => none }
def JournalNeedsWrongFalsely : Prop := journalNeedsRow.holds Try.pinned (OpenSpec.ofChange journalNeedsWrong)

/-- 'valiselaw14.JournalNeedBound': WHATEVER THE INPUT: true; the input reads as it did. -/
def journalNeedBoundSpec : ChangeSpec := { name := "journalNeedBound", fn := fun _ => fun
  | [d1, d2, d3] => { results := [.lit (.bool true)], args := [d1, d2, d3] }
  | _ => none }
def journalNeedBoundRow : OpenClaim := { program := "ytehakfbfjpolfaa", sum := "b74ed350c24bdb393b50ea0a4be67539c142224a1b188cbaa837d5b664725a0b", func := "valise/valiselaw14.JournalNeedBound", spec := "journalNeedBound", apart := false }
def JournalNeedBoundSaid : Prop := journalNeedBoundRow.holds Try.pinned (OpenSpec.ofChange journalNeedBoundSpec)

/-- ITS FALSE NEIGHBOUR: 'it returns false'. Refute it at one input. -/
def journalNeedBoundWrong : ChangeSpec := { name := "journalNeedBound", fn := fun _ => fun
  | [d1, d2, d3] => { results := [.lit (.bool false)], args := [d1, d2, d3] }
  | _ => none }
def JournalNeedBoundWrongFalsely : Prop := journalNeedBoundRow.holds Try.pinned (OpenSpec.ofChange journalNeedBoundWrong)

/- THE SECOND FORM. 'bulk': how many values and letters a reading holds, each counted each time it is reached (what is shared counts as often as it is met; a slice's spare places count too). A statement '..UptoSaid' is the law's where the arguments, and the package variables that the reading takes, are together of bulk at most 1048576: NARROWER than '..Said'. Prove '..Said' where nothing that the law and all that it calls make is longer than what came in: it says more and counts as full. Else prove '..UptoSaid'. A law counts once. -/
mutual
def uptoBulk {H : Type} : DataW H → Nat
  | .lit (.string bytes) => bytes.length + 1
  | .lit _ => 1
  | .nil => 1
  | .ptr d => uptoBulk d + 1
  | .slice elems spare => uptoBulkAll elems + uptoBulkAll spare + 1
  | .agg parts => uptoBulkAll parts + 1
  | .iface _ d => uptoBulk d + 1
  | .map entries => uptoBulkEntries entries + 1
  | .held _ => 1
def uptoBulkAll {H : Type} : List (DataW H) → Nat
  | [] => 0
  | d :: r => uptoBulk d + uptoBulkAll r
def uptoBulkEntries {H : Type} : List (Lit × DataW H) → Nat
  | [] => 0
  | x :: r => uptoBulkEntry x + uptoBulkEntries r
def uptoBulkEntry {H : Type} : Lit × DataW H → Nat
  | (.string bytes, d) => bytes.length + uptoBulk d + 1
  | (_, d) => uptoBulk d + 1
 end
def uptoSmall : (H : Type) → List (DataW H) → Bool := fun _ ds => decide (uptoBulkAll ds ≤ 1048576)
def OpenSpec.upto (s : _root_.Go.ChangeSpec) : _root_.Go.OpenSpec := { _root_.Go.OpenSpec.ofChange s with cond := some uptoSmall }

/-- 'valiselaw14.JournalApplies', WHERE WHAT IT READS IS OF BULK AT MOST 1048576: true; the input reads as it did. -/
def journalAppliesUptoRow : OpenClaim := { program := "ytehakfbfjpolfaa", sum := "b74ed350c24bdb393b50ea0a4be67539c142224a1b188cbaa837d5b664725a0b", func := "valise/valiselaw14.JournalApplies", spec := "journalApplies", apart := false, narrowed := true }
def JournalAppliesUptoSaid : Prop := journalAppliesUptoRow.holds Try.pinned (OpenSpec.upto journalAppliesSpec)

/-- 'valiselaw14.JournalNeeds', WHERE WHAT IT READS IS OF BULK AT MOST 1048576: true; the input reads as it did. -/
def journalNeedsUptoRow : OpenClaim := { program := "ytehakfbfjpolfaa", sum := "b74ed350c24bdb393b50ea0a4be67539c142224a1b188cbaa837d5b664725a0b", func := "valise/valiselaw14.JournalNeeds", spec := "journalNeeds", apart := false, narrowed := true }
def JournalNeedsUptoSaid : Prop := journalNeedsUptoRow.holds Try.pinned (OpenSpec.upto journalNeedsSpec)

/-- 'valiselaw14.JournalNeedBound', WHERE WHAT IT READS IS OF BULK AT MOST 1048576: true; the input reads as it did. -/
def journalNeedBoundUptoRow : OpenClaim := { program := "ytehakfbfjpolfaa", sum := "b74ed350c24bdb393b50ea0a4be67539c142224a1b188cbaa837d5b664725a0b", func := "valise/valiselaw14.JournalNeedBound", spec := "journalNeedBound", apart := false, narrowed := true }
def JournalNeedBoundUptoSaid : Prop := journalNeedBoundUptoRow.holds Try.pinned (OpenSpec.upto journalNeedBoundSpec)

end Rows
end Go.Proofs.Ytehakfbfjpolfaa
