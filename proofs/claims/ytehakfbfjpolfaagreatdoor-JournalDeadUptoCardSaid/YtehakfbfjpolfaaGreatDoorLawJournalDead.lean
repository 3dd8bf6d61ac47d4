/-
THE LAW 'valise/valiselaw14.JournalDead', as a card: for every input of bulk at most 1048576, and with the listed variables as the program's text lays them, it returns true, and leaves what it was given as it was. What is proved: Rows.JournalDeadUptoCardSaid.
-/
import Derived.WalkKit
import Derived.ProofKit
import Derived.OpenShut
import Derived.JoinedCond
import Derived.LaidSub
import Derived.Deep.DeepLaidRun
import Derived.Test.YtehakfbfjpolfaaGreatDoorCards
import Derived.Test.YtehakfbfjpolfaaGreatDoorTie
import Derived.Deep.DeepHandedRow
import Derived.Lib.LaidTab
import Derived.Test.YtehakfbfjpolfaaGreatDoorDe1
import Derived.Test.YtehakfbfjpolfaaGreatDoorDe2
import Derived.Test.YtehakfbfjpolfaaGreatDoorDe3
import Derived.Test.YtehakfbfjpolfaaGreatDoorDe4
import Derived.Test.YtehakfbfjpolfaaGreatDoorDe5
import Derived.Test.YtehakfbfjpolfaaGreatDoorDe6
import Derived.Test.YtehakfbfjpolfaaGreatDoorDe7
import Derived.Test.YtehakfbfjpolfaaGreatDoorDe8
import Derived.Test.YtehakfbfjpolfaaGreatDoorDe9
import Derived.Test.YtehakfbfjpolfaaGreatDoorDe10
import Derived.Test.YtehakfbfjpolfaaGreatDoorDe11
import Derived.Test.YtehakfbfjpolfaaGreatDoorDe12
import Derived.Test.YtehakfbfjpolfaaGreatDoorDe13
import Derived.Test.YtehakfbfjpolfaaGreatDoorDe14
import Derived.Test.YtehakfbfjpolfaaGreatDoorDe15
import Derived.Test.YtehakfbfjpolfaaGreatDoorDe16
import Derived.Test.YtehakfbfjpolfaaGreatDoorDe17
set_option maxRecDepth 100000
set_option linter.all false
namespace Go.Proofs.YtehakfbfjpolfaaGreatDoor.journalDead
open Go Vw Go.ChangeShapes Go.WideShapes Go.ChangeAt Go.RowKit

theorem own : ownKnob Tryz.prog.godebug = none := by kernel_rfl
theorem gTab : Tryz.prog.globalNamed "valise/field.table" = some 0 := by kernel_rfl
theorem gTabType : (Tryz.prog.globals[0]?).map (·.type) = some 163 := by kernel_rfl
theorem cellsT : Tryz.prog.cellsOf 163 = 16 := by kernel_rfl
theorem cellsE : Tryz.prog.cellsOf 96 = 1 := by kernel_rfl
theorem table {W : World} (h : laidMetH Tryz.prog Rows.journalDeadUptoRow.laid W) : Tab 0 (hp W) := by
  have h1 : Lib.TabIs Tryz.prog W "valise/field.table" .u32 (tab16.map fun x : Nat => (x : Int)) := Lib.tabIs_of_head (rest := []) gTab gTabType Tryz.underlying163 Tryz.underlying96 cellsE cellsT (laidMetH.filter (fun x => x.1 == "valise/field.table") h : laidMetH Tryz.prog [("valise/field.table", Rows.laid_valise_field_table)] W)
  intro x hx
  have := h1.cell gTab x (by simpa using hx)
  rw [cell_hp] at this
  rw [this]
  simp [List.getD, hx]

theorem contract (H : Type) (enc : TypeId × Value → H) (W : World) (base : Nat) (args : Array Value) (ds gs : List (DataW H)) (before : List MemPlace)
    (hval : ∀ (j : Nat) t v, Tryz.f3.params[j]? = some t → args[j]? = some v → Value.okWide Tryz.prog W .any base t v)
    (hW : DataW.Whole enc Tryz.prog Tryz.f3.params.toList Rows.journalDeadSpec.vars false W args.toList ds gs before) (hL : laidMetH Tryz.prog Rows.journalDeadUptoRow.laid W)(hk : Rows.uptoSmall H (ds ++ gs) = true) :
    Calls Tryz.prog 3 args W fun e W' => ∃ v, e = .returned v ∧ Rows.journalDeadSpec.post enc Tryz.prog Tryz.f3 false true false false W args v W' := by
  have hW' := hW
  have hT := table hL
  obtain ⟨p, q, hA0, hV, rfl, hfz, hnd⟩ := hW
  have hA := hA0
  rw [Tryz.params3] at hA hval
  obtain ⟨v0, vs0, d0, ds0, p0, q0, hargs, rfl, rfl, h0, r0⟩ := trodAll_cons hA
  obtain ⟨v1, vs1, d1, ds1, p1, q1, rfl, rfl, rfl, h1, r1⟩ := trodAll_cons r0
  obtain ⟨v2, vs2, d2, ds2, p2, q2, rfl, rfl, rfl, h2, r2⟩ := trodAll_cons r1
  obtain ⟨v3, vs3, d3, ds3, p3, q3, rfl, rfl, rfl, h3, r3⟩ := trodAll_cons r2
  obtain ⟨rfl, rfl, rfl⟩ := trodAll_nil r3
  obtain rfl : args = #[v0, v1, v2, v3] := by cases args; simp_all
  have hA1 := hA0
  obtain ⟨rfl, rfl⟩ := trodVars_none hV
  obtain ⟨n0, h0⟩ := h0
  obtain ⟨y0, e0, g0, b0⟩ := (opens_bytes Tryz.underlying22 Tryz.underlying5 (by kernel_rfl)) H enc W n0 _ _ h0
  obtain rfl := one_cell (cells_slice Tryz.underlying22 (hval 0 22 v0 rfl rfl)) e0
  replace b0 : (y0.2.2.length + 1) ≤ Rows.uptoBulk d0 := b0
  obtain ⟨n1, h1⟩ := h1
  obtain ⟨y1, e1, g1, b1⟩ := (opens_i64 Tryz.underlying3) H enc W n1 _ _ h1
  obtain rfl := one_cell (cells_int Tryz.underlying3 (hval 1 3 v1 rfl rfl)) e1
  replace b1 : 1 ≤ Rows.uptoBulk d1 := b1
  obtain ⟨n2, h2⟩ := h2
  obtain ⟨y2, e2, g2, b2⟩ := (opens_i64 Tryz.underlying3) H enc W n2 _ _ h2
  obtain rfl := one_cell (cells_int Tryz.underlying3 (hval 2 3 v2 rfl rfl)) e2
  replace b2 : 1 ≤ Rows.uptoBulk d2 := b2
  obtain ⟨n3, h3⟩ := h3
  obtain ⟨y3, e3, g3, b3⟩ := (opens_slice (sz := 2) Tryz.underlying23 (by kernel_rfl) (by decide) (fun _ => rfl) opens_54) H enc W n3 _ _ h3
  obtain rfl := one_cell (cells_slice Tryz.underlying23 (hval 3 23 v3 rfl rfl)) e3
  replace b3 : ((y3.2.2.map (fun z : Int × Option Addr × Nat × List UInt8 => (1 + (z.2.2.2.length + 1) + 1))).sum + 1) ≤ Rows.uptoBulk d3 := b3
  have c3 := len_le_sum (bulk := fun z : Int × Option Addr × Nat × List UInt8 => (1 + (z.2.2.2.length + 1) + 1)) (fun z => by omega) y3.2.2
  have hb : Rows.uptoBulkAll ([d0, d1, d2, d3] ++ []) ≤ 1048576 := of_decide_eq_true hk
  simp only [List.append_nil, Rows.uptoBulkAll] at hb
  have c93 : (y3.2.2.map (fun z : Int × Option Addr × Nat × List UInt8 => 1 + (z.2.2.2.length + 1) + 1)).sum ≤ 1048576 := by omega
  refine (dead_spec W hT y0.1 y0.2.1 y0.2.2 g0 (by omega) y1 y2 y3.1 y3.2.1 y3.2.2 g3.1 (by omega) (fun z hz => ⟨(g3.2 z hz).2, by have h9 : 1 + (z.2.2.2.length + 1) + 1 ≤ 1048576 := Nat.le_trans (mem_sum (f := fun z : Wr => 1 + (z.2.2.2.length + 1) + 1) hz) c93; omega⟩)).mono fun e W' ⟨he, hg⟩ => ?_
  subst he
  exact ⟨_, rfl, post_of_kept (pv := []) hW' (fun _ _ _ => trodAll_cons_mk (shut_bool Tryz.underlying4 _) trodAll_mk0)
    (fun sp hsp => trodAll_stays laid (by rw [Tryz.params3]; exact (by decide +kernel : ∀ t ∈ [22, 3, 3, 23], Tryz.prog.readableRec t = true ∧ t < Tryz.prog.types.size)) hA1 (fun x hx => hg.below.same (hW'.lt x (List.mem_append_left _ hx))) (fun x hx => hsp x (List.mem_append_left _ hx))) (fun _ _ => rfl) rfl hg
    (ok_one (by kernel_rfl) rfl (okWide_bool_mk Tryz.underlying4 _))⟩

def litV : DataW Unit → Value
  | .lit (.int k n) => .int k n
  | _ => .int .u8 0
def aggL : DataW Unit → List (DataW Unit)
  | .agg l => l
  | _ => []
def putL (g : Nat) (cs : List Value) (h : Array Obj) : Array Obj :=
  h.modify g fun
    | .cells _ t frozen => .cells cs.toArray t frozen
    | o => o
noncomputable def laidWorld (os : Os) : World :=
  { World.holding Tryz.prog os ⟨#[], #[], []⟩ with
    heap := putL 1 ((aggL Rows.laid_unicode_utf8_first).map litV) (putL 2 (((aggL Rows.laid_unicode_utf8_acceptRanges).flatMap aggL).map litV) (putL 0 (tab16.map fun x : Nat => Value.int .u32 (x : Int)) (World.holding Tryz.prog os ⟨#[], #[], []⟩).heap)) }
theorem laid_met (os : Os) : laidMet Tryz.prog Rows.journalDeadUptoRow.laid ((laidWorld os).forCall (fun _ _ => 0) ⟨#[], #[.slice none 0 0, .int .i64 0, .int .i64 0, .slice none 0 0], []⟩).memory :=
  laidMet_of_run3 8 (by kernel_rfl) (by kernel_rfl) (by kernel_rfl)
theorem reads (os : Os) {H : Type} (enc : TypeId × Value → H) : ∃ places, DataW.whole enc Tryz.prog ((laidWorld os).forCall (fun _ _ => 0) ⟨#[], #[.slice none 0 0, .int .i64 0, .int .i64 0, .slice none 0 0], []⟩).memory Tryz.f3.params.toList Rows.journalDeadSpec.vars false (#[.slice none 0 0, .int .i64 0, .int .i64 0, .slice none 0 0] : Array Value).toList 8 = some ([.nil, .lit (.int .i64 0), .lit (.int .i64 0), .nil], [], places) :=
  ⟨[], by kernel_rfl⟩

set_option maxRecDepth 100000 in
theorem lifted (os : Os) (started : os.Started) (H : Type) (enc : TypeId × Value → H) (F : Stop.Interp) :
    ReturnsInHanded {} Tryz.checked os 3 .any ((Rows.OpenSpec.upto Rows.journalDeadSpec).preRow enc Tryz.prog Tryz.f3 Rows.journalDeadUptoRow.domain false Rows.journalDeadUptoRow.laid) (((Rows.OpenSpec.upto Rows.journalDeadSpec).at F).post enc Tryz.prog Tryz.f3 false true false false) := by
  obtain ⟨places, hx⟩ := reads os enc
  refine returnsInHanded_of_row (C := Tryz.checked) (s := Rows.OpenSpec.upto Rows.journalDeadSpec) own started (by kernel_rfl) Tryz.func3
    (witness_row_at (enc := enc) (C := Tryz.checked) false (laidWorld os) #[.slice none 0 0, .int .i64 0, .int .i64 0, .slice none 0 0] rfl (by kernel_rfl) (by kernel_rfl) (by kernel_rfl)
      (OpenSpec.preRow_of_cond 8 hx (by kernel_rfl) (fun k hk => by cases hk; kernel_rfl) (by kernel_rfl) (laid_met os))) ?_
  intro W base args ds gs before hval hW _ hcond _ hL _ _
  exact contract H enc W base args ds gs before hval hW hL (hcond _ rfl)
theorem saidUpto : Rows.JournalDeadUptoSaid :=
  OpenClaim.holds_of_cond 3 Tryz.f3 rfl rfl rfl rfl rfl rfl rfl ⟨rfl, rfl, rfl, rfl, rfl⟩ rfl rfl rfl rfl rfl (by kernel_rfl) Tryz.func3 (by kernel_rfl)
    (of_decide_eq_true (by kernel_rfl)) (by unfold Func.isWrapper; first | (rw [if_pos (by decide +kernel)]; kernel_rfl) | (rw [if_neg (by decide +kernel)]; exact ⟨rfl, rfl⟩))
    (fun os started H enc _ F => by rw [OpenClaim.pre_eq_preRow]; exact lifted os started H enc F)
theorem plain (f : FuncId) (fn : Func) (hf : Tryz.pinned.checked.prog.funcNamed "valise/valiselaw14.JournalDead" = some f) (hfn : Tryz.pinned.checked.prog.funcs[f]? = some fn) :
    false = Tryz.pinned.checked.prog.looks [] ∧ ∀ (j : Nat) t, fn.params[j]? = some t → Tryz.pinned.checked.prog.wantsStandIn t = false := by
  obtain rfl : f = 3 := Option.some.inj ((show Tryz.prog.funcNamed "valise/valiselaw14.JournalDead" = some 3 by kernel_rfl).symm.trans hf) |>.symm
  obtain rfl : fn = Tryz.f3 := (Option.some.inj (Tryz.func3.symm.trans hfn)).symm
  refine ⟨by kernel_rfl, fun j t ht => ?_⟩
  rw [Tryz.params3] at ht
  have hm := Array.mem_of_getElem? ht
  exact (by decide +kernel : ∀ t ∈ (#[22, 3, 3, 23] : Array Nat), Tryz.prog.wantsStandIn t = false) t hm
theorem proved : Rows.JournalDeadUptoCardSaid :=
  Claim7.holds_tied_plain_at .later [] _ _ _ _ saidUpto (fun _ h => by cases h) (by kernel_rfl) (fun _ h => by cases h) journalDeadUpto_row_tie rfl ⟨rfl, rfl⟩ (by kernel_rfl) rfl plain (by kernel_rfl)
end Go.Proofs.YtehakfbfjpolfaaGreatDoor.journalDead
