/-
THE LAW 'valise/valiselaw14.JournalAgain', as a card: for every input of bulk at most 1048576, and with the listed variables as the program's text lays them, it returns true, and leaves what it was given as it was. What is proved: Rows.JournalAgainUptoCardSaid.
-/
import Derived.WalkKit
import Derived.ProofKit
import Derived.OpenShut
import Derived.JoinedCond
import Derived.LaidSub
import Derived.Deep.DeepLaidRun
import Derived.Test.YtehakfbfjpolfaaDoorCards
import Derived.Test.YtehakfbfjpolfaaDoorTie
import Derived.Deep.DeepHandedRow
import Derived.Lib.LaidTab
import Derived.Test.YtehakfbfjpolfaaDoorAg1
import Derived.Test.YtehakfbfjpolfaaDoorAg2
import Derived.Test.YtehakfbfjpolfaaDoorAg3
import Derived.Test.YtehakfbfjpolfaaDoorAg4
import Derived.Test.YtehakfbfjpolfaaDoorAg5
import Derived.Test.YtehakfbfjpolfaaDoorAg6
import Derived.Test.YtehakfbfjpolfaaDoorAg7
import Derived.Test.YtehakfbfjpolfaaDoorAg8
import Derived.Test.YtehakfbfjpolfaaDoorAg9
import Derived.Test.YtehakfbfjpolfaaDoorAg10
import Derived.Test.YtehakfbfjpolfaaDoorAg11
import Derived.Test.YtehakfbfjpolfaaDoorAg12
import Derived.Test.YtehakfbfjpolfaaDoorAg13
import Derived.Test.YtehakfbfjpolfaaDoorAg14
import Derived.Test.YtehakfbfjpolfaaDoorAg15
import Derived.Test.YtehakfbfjpolfaaDoorAg16
set_option maxRecDepth 100000
set_option linter.all false
namespace Go.Proofs.YtehakfbfjpolfaaDoor.journalAgain
open Go Vw Go.ChangeShapes Go.WideShapes Go.ChangeAt Go.RowKit

theorem own : ownKnob Tryd.prog.godebug = none := by kernel_rfl
theorem gTab : Tryd.prog.globalNamed "valise/field.table" = some 0 := by kernel_rfl
theorem gTabType : (Tryd.prog.globals[0]?).map (·.type) = some 132 := by kernel_rfl
theorem cellsT : Tryd.prog.cellsOf 132 = 16 := by kernel_rfl
theorem cellsE : Tryd.prog.cellsOf 22 = 1 := by kernel_rfl
theorem table {W : World} (h : laidMetH Tryd.prog Rows.journalAgainUptoRow.laid W) : Tab 0 (hp W) := by
  have h1 : Lib.TabIs Tryd.prog W "valise/field.table" .u32 (tab16.map fun x : Nat => (x : Int)) := Lib.tabIs_of_head (rest := []) gTab gTabType Tryd.underlying132 Tryd.underlying22 cellsE cellsT (laidMetH.filter (fun x => x.1 == "valise/field.table") h : laidMetH Tryd.prog [("valise/field.table", Rows.laid_valise_field_table)] W)
  intro x hx
  have := h1.cell gTab x (by simpa using hx)
  rw [cell_hp] at this
  rw [this]
  simp [List.getD, hx]

theorem contract (H : Type) (enc : TypeId × Value → H) (W : World) (base : Nat) (args : Array Value) (ds gs : List (DataW H)) (before : List MemPlace)
    (hval : ∀ (j : Nat) t v, Tryd.f9.params[j]? = some t → args[j]? = some v → Value.okWide Tryd.prog W .any base t v)
    (hW : DataW.Whole enc Tryd.prog Tryd.f9.params.toList Rows.journalAgainSpec.vars false W args.toList ds gs before) (hL : laidMetH Tryd.prog Rows.journalAgainUptoRow.laid W)(hk : Rows.uptoSmall H (ds ++ gs) = true) :
    Calls Tryd.prog 9 args W fun e W' => ∃ v, e = .returned v ∧ Rows.journalAgainSpec.post enc Tryd.prog Tryd.f9 false true false false W args v W' := by
  have hW' := hW
  have hT := table hL
  obtain ⟨p, q, hA0, hV, rfl, hfz, hnd⟩ := hW
  have hA := hA0
  rw [Tryd.params9] at hA hval
  obtain ⟨v0, vs0, d0, ds0, p0, q0, hargs, rfl, rfl, h0, r0⟩ := trodAll_cons hA
  obtain ⟨rfl, rfl, rfl⟩ := trodAll_nil r0
  obtain rfl : args = #[v0] := by cases args; simp_all
  have hA1 := hA0
  obtain ⟨rfl, rfl⟩ := trodVars_none hV
  obtain ⟨n0, h0⟩ := h0
  obtain ⟨y0, e0, g0, b0⟩ := (opens_bytes Tryd.underlying25 Tryd.underlying5 (by kernel_rfl)) H enc W n0 _ _ h0
  obtain rfl := one_cell (cells_slice Tryd.underlying25 (hval 0 25 v0 rfl rfl)) e0
  replace b0 : (y0.2.2.length + 1) ≤ Rows.uptoBulk d0 := b0
  have hb : Rows.uptoBulkAll ([d0] ++ []) ≤ 1048576 := of_decide_eq_true hk
  simp only [List.append_nil, Rows.uptoBulkAll] at hb
  refine (again_spec W hT y0.1 y0.2.1 y0.2.2 g0 (by omega)).mono fun e W' ⟨he, hg⟩ => ?_
  subst he
  exact ⟨_, rfl, post_of_kept (pv := []) hW' (fun _ _ _ => trodAll_cons_mk (shut_bool Tryd.underlying4 _) trodAll_mk0)
    (fun sp hsp => trodAll_stays laid (by rw [Tryd.params9]; exact (by decide +kernel : ∀ t ∈ [25], Tryd.prog.readableRec t = true ∧ t < Tryd.prog.types.size)) hA1 (fun x hx => hg.below.same (hW'.lt x (List.mem_append_left _ hx))) (fun x hx => hsp x (List.mem_append_left _ hx))) (fun _ _ => rfl) rfl hg
    (ok_one (by kernel_rfl) rfl (okWide_bool_mk Tryd.underlying4 _))⟩

def litV : DataW Unit → Value
  | .lit (.int k n) => .int k n
  | _ => .int .u8 0
def aggL : DataW Unit → List (DataW Unit)
  | .agg l => l
  | _ => []
def putL (g : Nat) (cs : List Value) (h : Array Obj) : Array Obj :=
  h.modify g fun
    | .cells _ t frozen => .cells cs.toArray t frozen
    | o => o
noncomputable def laidWorld (os : Os) : World :=
  { World.holding Tryd.prog os ⟨#[], #[], []⟩ with
    heap := putL 1 ((aggL Rows.laid_unicode_utf8_first).map litV) (putL 2 (((aggL Rows.laid_unicode_utf8_acceptRanges).flatMap aggL).map litV) (putL 0 (tab16.map fun x : Nat => Value.int .u32 (x : Int)) (World.holding Tryd.prog os ⟨#[], #[], []⟩).heap)) }
theorem laid_met (os : Os) : laidMet Tryd.prog Rows.journalAgainUptoRow.laid ((laidWorld os).forCall (fun _ _ => 0) ⟨#[], #[.slice none 0 0], []⟩).memory :=
  laidMet_of_run3 8 (by kernel_rfl) (by kernel_rfl) (by kernel_rfl)
theorem reads (os : Os) {H : Type} (enc : TypeId × Value → H) : ∃ places, DataW.whole enc Tryd.prog ((laidWorld os).forCall (fun _ _ => 0) ⟨#[], #[.slice none 0 0], []⟩).memory Tryd.f9.params.toList Rows.journalAgainSpec.vars false (#[.slice none 0 0] : Array Value).toList 8 = some ([.nil], [], places) :=
  ⟨[], by kernel_rfl⟩

set_option maxRecDepth 100000 in
theorem lifted (os : Os) (started : os.Started) (H : Type) (enc : TypeId × Value → H) (F : Stop.Interp) :
    ReturnsInHanded {} Tryd.checked os 9 .any ((Rows.OpenSpec.upto Rows.journalAgainSpec).preRow enc Tryd.prog Tryd.f9 Rows.journalAgainUptoRow.domain false Rows.journalAgainUptoRow.laid) (((Rows.OpenSpec.upto Rows.journalAgainSpec).at F).post enc Tryd.prog Tryd.f9 false true false false) := by
  obtain ⟨places, hx⟩ := reads os enc
  refine returnsInHanded_of_row (C := Tryd.checked) (s := Rows.OpenSpec.upto Rows.journalAgainSpec) own started (by kernel_rfl) Tryd.func9
    (witness_row_at (enc := enc) (C := Tryd.checked) false (laidWorld os) #[.slice none 0 0] rfl (by kernel_rfl) (by kernel_rfl) (by kernel_rfl)
      (OpenSpec.preRow_of_cond 8 hx (by kernel_rfl) (fun k hk => by cases hk; kernel_rfl) (by kernel_rfl) (laid_met os))) ?_
  intro W base args ds gs before hval hW _ hcond _ hL _ _
  exact contract H enc W base args ds gs before hval hW hL (hcond _ rfl)
theorem saidUpto : Rows.JournalAgainUptoSaid :=
  OpenClaim.holds_of_cond 9 Tryd.f9 rfl rfl rfl rfl rfl rfl rfl ⟨rfl, rfl, rfl, rfl, rfl⟩ rfl rfl rfl rfl rfl (by kernel_rfl) Tryd.func9 (by kernel_rfl)
    (of_decide_eq_true (by kernel_rfl)) (by unfold Func.isWrapper; first | (rw [if_pos (by decide +kernel)]; kernel_rfl) | (rw [if_neg (by decide +kernel)]; exact ⟨rfl, rfl⟩))
    (fun os started H enc _ F => by rw [OpenClaim.pre_eq_preRow]; exact lifted os started H enc F)
theorem plain (f : FuncId) (fn : Func) (hf : Tryd.pinned.checked.prog.funcNamed "valise/valiselaw14.JournalAgain" = some f) (hfn : Tryd.pinned.checked.prog.funcs[f]? = some fn) :
    false = Tryd.pinned.checked.prog.looks [] ∧ ∀ (j : Nat) t, fn.params[j]? = some t → Tryd.pinned.checked.prog.wantsStandIn t = false := by
  obtain rfl : f = 9 := Option.some.inj ((show Tryd.prog.funcNamed "valise/valiselaw14.JournalAgain" = some 9 by kernel_rfl).symm.trans hf) |>.symm
  obtain rfl : fn = Tryd.f9 := (Option.some.inj (Tryd.func9.symm.trans hfn)).symm
  refine ⟨by kernel_rfl, fun j t ht => ?_⟩
  rw [Tryd.params9] at ht
  have hm := Array.mem_of_getElem? ht
  exact (by decide +kernel : ∀ t ∈ (#[25] : Array Nat), Tryd.prog.wantsStandIn t = false) t hm
theorem proved : Rows.JournalAgainUptoCardSaid :=
  Claim7.holds_tied_plain_at .later [] _ _ _ _ saidUpto (fun _ h => by cases h) (by kernel_rfl) (fun _ h => by cases h) journalAgainUpto_row_tie rfl ⟨rfl, rfl⟩ (by kernel_rfl) rfl plain (by kernel_rfl)
end Go.Proofs.YtehakfbfjpolfaaDoor.journalAgain
