/-
THE LAW 'valise/valiselaw14.JournalUpdates', as a card: for every input of bulk at most 1048576, and with the listed variables as the program's text lays them, it returns true, and leaves what it was given as it was. What is proved: Rows.JournalUpdatesUptoCardSaid.
-/
import Derived.WalkKit
import Derived.ProofKit
import Derived.OpenShut
import Derived.JoinedCond
import Derived.LaidSub
import Derived.Deep.DeepLaidRun
import Derived.Test.YtehakfbfjpolfaaGreatDoorCards
import Derived.Test.YtehakfbfjpolfaaGreatDoorTie
import Derived.Deep.DeepHandedRow
import Derived.Lib.LaidTab
import Derived.Test.YtehakfbfjpolfaaGreatDoorUp1
import Derived.Test.YtehakfbfjpolfaaGreatDoorUp2
import Derived.Test.YtehakfbfjpolfaaGreatDoorUp3
import Derived.Test.YtehakfbfjpolfaaGreatDoorUp4
import Derived.Test.YtehakfbfjpolfaaGreatDoorUp5
import Derived.Test.YtehakfbfjpolfaaGreatDoorUp6
import Derived.Test.YtehakfbfjpolfaaGreatDoorUp7
import Derived.Test.YtehakfbfjpolfaaGreatDoorUp8
import Derived.Test.YtehakfbfjpolfaaGreatDoorUp9
import Derived.Test.YtehakfbfjpolfaaGreatDoorUp10
import Derived.Test.YtehakfbfjpolfaaGreatDoorUp11
import Derived.Test.YtehakfbfjpolfaaGreatDoorUp12
import Derived.Test.YtehakfbfjpolfaaGreatDoorUp13
import Derived.Test.YtehakfbfjpolfaaGreatDoorUp14
import Derived.Test.YtehakfbfjpolfaaGreatDoorUp15
import Derived.Test.YtehakfbfjpolfaaGreatDoorUp16
import Derived.Test.YtehakfbfjpolfaaGreatDoorUp17
set_option maxRecDepth 100000
set_option linter.all false
namespace Go.Proofs.YtehakfbfjpolfaaGreatDoor.journalUpdates
open Go Vw Go.ChangeShapes Go.WideShapes Go.ChangeAt Go.RowKit

theorem own : ownKnob Tryz.prog.godebug = none := by kernel_rfl
theorem gTab : Tryz.prog.globalNamed "valise/field.table" = some 0 := by kernel_rfl
theorem gTabType : (Tryz.prog.globals[0]?).map (·.type) = some 163 := by kernel_rfl
theorem cellsT : Tryz.prog.cellsOf 163 = 16 := by kernel_rfl
theorem cellsE : Tryz.prog.cellsOf 96 = 1 := by kernel_rfl
theorem table {W : World} (h : laidMetH Tryz.prog Rows.journalUpdatesUptoRow.laid W) : Tab 0 (hp W) := by
  have h1 : Lib.TabIs Tryz.prog W "valise/field.table" .u32 (tab16.map fun x : Nat => (x : Int)) := Lib.tabIs_of_head (rest := []) gTab gTabType Tryz.underlying163 Tryz.underlying96 cellsE cellsT (laidMetH.filter (fun x => x.1 == "valise/field.table") h : laidMetH Tryz.prog [("valise/field.table", Rows.laid_valise_field_table)] W)
  intro x hx
  have := h1.cell gTab x (by simpa using hx)
  rw [cell_hp] at this
  rw [this]
  simp [List.getD, hx]

theorem contract (H : Type) (enc : TypeId × Value → H) (W : World) (base : Nat) (args : Array Value) (ds gs : List (DataW H)) (before : List MemPlace)
    (hval : ∀ (j : Nat) t v, Tryz.f4.params[j]? = some t → args[j]? = some v → Value.okWide Tryz.prog W .any base t v)
    (hW : DataW.Whole enc Tryz.prog Tryz.f4.params.toList Rows.journalUpdatesSpec.vars false W args.toList ds gs before) (hL : laidMetH Tryz.prog Rows.journalUpdatesUptoRow.laid W)(hk : Rows.uptoSmall H (ds ++ gs) = true) :
    Calls Tryz.prog 4 args W fun e W' => ∃ v, e = .returned v ∧ Rows.journalUpdatesSpec.post enc Tryz.prog Tryz.f4 false true false false W args v W' := by
  have hW' := hW
  have hT := table hL
  obtain ⟨p, q, hA0, hV, rfl, hfz, hnd⟩ := hW
  have hA := hA0
  rw [Tryz.params4] at hA hval
  obtain ⟨v0, vs0, d0, ds0, p0, q0, hargs, rfl, rfl, h0, r0⟩ := trodAll_cons hA
  obtain ⟨v1, vs1, d1, ds1, p1, q1, rfl, rfl, rfl, h1, r1⟩ := trodAll_cons r0
  obtain ⟨v2, vs2, d2, ds2, p2, q2, rfl, rfl, rfl, h2, r2⟩ := trodAll_cons r1
  obtain ⟨v3, vs3, d3, ds3, p3, q3, rfl, rfl, rfl, h3, r3⟩ := trodAll_cons r2
  obtain ⟨v4, vs4, d4, ds4, p4, q4, rfl, rfl, rfl, h4, r4⟩ := trodAll_cons r3
  obtain ⟨v5, vs5, d5, ds5, p5, q5, rfl, rfl, rfl, h5, r5⟩ := trodAll_cons r4
  obtain ⟨v6, vs6, d6, ds6, p6, q6, rfl, rfl, rfl, h6, r6⟩ := trodAll_cons r5
  obtain ⟨rfl, rfl, rfl⟩ := trodAll_nil r6
  obtain rfl : args = #[v0, v1, v2, v3, v4, v5, v6] := by cases args; simp_all
  have hA1 := hA0
  obtain ⟨rfl, rfl⟩ := trodVars_none hV
  obtain ⟨n0, h0⟩ := h0
  obtain ⟨y0, e0, g0, b0⟩ := (opens_bytes Tryz.underlying22 Tryz.underlying5 (by kernel_rfl)) H enc W n0 _ _ h0
  obtain rfl := one_cell (cells_slice Tryz.underlying22 (hval 0 22 v0 rfl rfl)) e0
  replace b0 : (y0.2.2.length + 1) ≤ Rows.uptoBulk d0 := b0
  obtain ⟨n1, h1⟩ := h1
  obtain ⟨y1, e1, g1, b1⟩ := (opens_i64 Tryz.underlying3) H enc W n1 _ _ h1
  obtain rfl := one_cell (cells_int Tryz.underlying3 (hval 1 3 v1 rfl rfl)) e1
  replace b1 : 1 ≤ Rows.uptoBulk d1 := b1
  obtain ⟨n2, h2⟩ := h2
  obtain ⟨y2, e2, g2, b2⟩ := (opens_i64 Tryz.underlying3) H enc W n2 _ _ h2
  obtain rfl := one_cell (cells_int Tryz.underlying3 (hval 2 3 v2 rfl rfl)) e2
  replace b2 : 1 ≤ Rows.uptoBulk d2 := b2
  obtain ⟨n3, h3⟩ := h3
  obtain ⟨y3, e3, g3, b3⟩ := (opens_i64 Tryz.underlying3) H enc W n3 _ _ h3
  obtain rfl := one_cell (cells_int Tryz.underlying3 (hval 3 3 v3 rfl rfl)) e3
  replace b3 : 1 ≤ Rows.uptoBulk d3 := b3
  obtain ⟨n4, h4⟩ := h4
  obtain ⟨y4, e4, g4, b4⟩ := (opens_slice (sz := 2) Tryz.underlying23 (by kernel_rfl) (by decide) (fun _ => rfl) opens_54) H enc W n4 _ _ h4
  obtain rfl := one_cell (cells_slice Tryz.underlying23 (hval 4 23 v4 rfl rfl)) e4
  replace b4 : ((y4.2.2.map (fun z : Int × Option Addr × Nat × List UInt8 => (1 + (z.2.2.2.length + 1) + 1))).sum + 1) ≤ Rows.uptoBulk d4 := b4
  have c4 := len_le_sum (bulk := fun z : Int × Option Addr × Nat × List UInt8 => (1 + (z.2.2.2.length + 1) + 1)) (fun z => by omega) y4.2.2
  obtain ⟨n5, h5⟩ := h5
  obtain ⟨y5, e5, g5, b5⟩ := (opens_i64 Tryz.underlying3) H enc W n5 _ _ h5
  obtain rfl := one_cell (cells_int Tryz.underlying3 (hval 5 3 v5 rfl rfl)) e5
  replace b5 : 1 ≤ Rows.uptoBulk d5 := b5
  obtain ⟨n6, h6⟩ := h6
  obtain ⟨y6, e6, g6, b6⟩ := (opens_slice (sz := 3) Tryz.underlying46 (by kernel_rfl) (by decide) (fun _ => rfl) opens_64) H enc W n6 _ _ h6
  obtain rfl := one_cell (cells_slice Tryz.underlying46 (hval 6 46 v6 rfl rfl)) e6
  replace b6 : ((y6.2.2.map (fun z : Int × (Option Addr × Nat × List (Int)) × Int => (1 + ((z.2.1.2.2.map (fun z : Int => 1)).sum + 1) + 1 + 1))).sum + 1) ≤ Rows.uptoBulk d6 := b6
  have c6 := len_le_sum (bulk := fun z : Int × (Option Addr × Nat × List (Int)) × Int => (1 + ((z.2.1.2.2.map (fun z : Int => 1)).sum + 1) + 1 + 1)) (fun z => by omega) y6.2.2
  have hb : Rows.uptoBulkAll ([d0, d1, d2, d3, d4, d5, d6] ++ []) ≤ 1048576 := of_decide_eq_true hk
  simp only [List.append_nil, Rows.uptoBulkAll] at hb
  have c94 : (y4.2.2.map (fun z : Int × Option Addr × Nat × List UInt8 => 1 + (z.2.2.2.length + 1) + 1)).sum ≤ 1048576 := by omega
  have k6 : (y6.2.2.map (fun z : Int × (Option Addr × Nat × List (Int)) × Int => (1 + ((z.2.1.2.2.map (fun z : Int => 1)).sum + 1) + 1 + 1))).sum ≤ 1048576 := by omega
  have hcg6 : ∀ z ∈ y6.2.2, ChG (hp W) z := fun z hz => by
    have h9 := Nat.le_trans (mem_sum (f := fun z : Int × (Option Addr × Nat × List (Int)) × Int => (1 + ((z.2.1.2.2.map (fun z : Int => 1)).sum + 1) + 1 + 1)) hz) k6
    have h8 := len_le_sum (bulk := fun z : Int => 1) (fun z => Nat.le_refl 1) z.2.1.2.2
    have h7 := g6.2 z hz
    exact ⟨h7.2.1.1, by omega⟩
  have hcl6 : y6.2.2.length ≤ 1048576 := Nat.le_trans (len_le_sum (bulk := fun z : Int × (Option Addr × Nat × List (Int)) × Int => (1 + ((z.2.1.2.2.map (fun z : Int => 1)).sum + 1) + 1 + 1)) (fun z => by omega) y6.2.2) k6
  refine (updates_spec W hT y0.1 y0.2.1 y0.2.2 g0 (by omega) y1 y2 y3 y4.1 y4.2.1 y4.2.2 g4.1 (by omega) (fun z hz => ⟨(g4.2 z hz).2, by have h9 : 1 + (z.2.2.2.length + 1) + 1 ≤ 1048576 := Nat.le_trans (mem_sum (f := fun z : Wr => 1 + (z.2.2.2.length + 1) + 1) hz) c94; omega⟩) y5 g5.2 y6.1 y6.2.1 y6.2.2 g6.1 hcg6 hcl6).mono fun e W' ⟨he, hg⟩ => ?_
  subst he
  exact ⟨_, rfl, post_of_kept (pv := []) hW' (fun _ _ _ => trodAll_cons_mk (shut_bool Tryz.underlying4 _) trodAll_mk0)
    (fun sp hsp => trodAll_stays laid (by rw [Tryz.params4]; exact (by decide +kernel : ∀ t ∈ [22, 3, 3, 3, 23, 3, 46], Tryz.prog.readableRec t = true ∧ t < Tryz.prog.types.size)) hA1 (fun x hx => hg.below.same (hW'.lt x (List.mem_append_left _ hx))) (fun x hx => hsp x (List.mem_append_left _ hx))) (fun _ _ => rfl) rfl hg
    (ok_one (by kernel_rfl) rfl (okWide_bool_mk Tryz.underlying4 _))⟩

def litV : DataW Unit → Value
  | .lit (.int k n) => .int k n
  | _ => .int .u8 0
def aggL : DataW Unit → List (DataW Unit)
  | .agg l => l
  | _ => []
def putL (g : Nat) (cs : List Value) (h : Array Obj) : Array Obj :=
  h.modify g fun
    | .cells _ t frozen => .cells cs.toArray t frozen
    | o => o
noncomputable def laidWorld (os : Os) : World :=
  { World.holding Tryz.prog os ⟨#[], #[], []⟩ with
    heap := putL 1 ((aggL Rows.laid_unicode_utf8_first).map litV) (putL 2 (((aggL Rows.laid_unicode_utf8_acceptRanges).flatMap aggL).map litV) (putL 0 (tab16.map fun x : Nat => Value.int .u32 (x : Int)) (World.holding Tryz.prog os ⟨#[], #[], []⟩).heap)) }
theorem laid_met (os : Os) : laidMet Tryz.prog Rows.journalUpdatesUptoRow.laid ((laidWorld os).forCall (fun _ _ => 0) ⟨#[], #[.slice none 0 0, .int .i64 0, .int .i64 0, .int .i64 0, .slice none 0 0, .int .i64 0, .slice none 0 0], []⟩).memory :=
  laidMet_of_run3 8 (by kernel_rfl) (by kernel_rfl) (by kernel_rfl)
theorem reads (os : Os) {H : Type} (enc : TypeId × Value → H) : ∃ places, DataW.whole enc Tryz.prog ((laidWorld os).forCall (fun _ _ => 0) ⟨#[], #[.slice none 0 0, .int .i64 0, .int .i64 0, .int .i64 0, .slice none 0 0, .int .i64 0, .slice none 0 0], []⟩).memory Tryz.f4.params.toList Rows.journalUpdatesSpec.vars false (#[.slice none 0 0, .int .i64 0, .int .i64 0, .int .i64 0, .slice none 0 0, .int .i64 0, .slice none 0 0] : Array Value).toList 8 = some ([.nil, .lit (.int .i64 0), .lit (.int .i64 0), .lit (.int .i64 0), .nil, .lit (.int .i64 0), .nil], [], places) :=
  ⟨[], by kernel_rfl⟩

set_option maxRecDepth 100000 in
theorem lifted (os : Os) (started : os.Started) (H : Type) (enc : TypeId × Value → H) (F : Stop.Interp) :
    ReturnsInHanded {} Tryz.checked os 4 .any ((Rows.OpenSpec.upto Rows.journalUpdatesSpec).preRow enc Tryz.prog Tryz.f4 Rows.journalUpdatesUptoRow.domain false Rows.journalUpdatesUptoRow.laid) (((Rows.OpenSpec.upto Rows.journalUpdatesSpec).at F).post enc Tryz.prog Tryz.f4 false true false false) := by
  obtain ⟨places, hx⟩ := reads os enc
  refine returnsInHanded_of_row (C := Tryz.checked) (s := Rows.OpenSpec.upto Rows.journalUpdatesSpec) own started (by kernel_rfl) Tryz.func4
    (witness_row_at (enc := enc) (C := Tryz.checked) false (laidWorld os) #[.slice none 0 0, .int .i64 0, .int .i64 0, .int .i64 0, .slice none 0 0, .int .i64 0, .slice none 0 0] rfl (by kernel_rfl) (by kernel_rfl) (by kernel_rfl)
      (OpenSpec.preRow_of_cond 8 hx (by kernel_rfl) (fun k hk => by cases hk; kernel_rfl) (by kernel_rfl) (laid_met os))) ?_
  intro W base args ds gs before hval hW _ hcond _ hL _ _
  exact contract H enc W base args ds gs before hval hW hL (hcond _ rfl)
theorem saidUpto : Rows.JournalUpdatesUptoSaid :=
  OpenClaim.holds_of_cond 4 Tryz.f4 rfl rfl rfl rfl rfl rfl rfl ⟨rfl, rfl, rfl, rfl, rfl⟩ rfl rfl rfl rfl rfl (by kernel_rfl) Tryz.func4 (by kernel_rfl)
    (of_decide_eq_true (by kernel_rfl)) (by unfold Func.isWrapper; first | (rw [if_pos (by decide +kernel)]; kernel_rfl) | (rw [if_neg (by decide +kernel)]; exact ⟨rfl, rfl⟩))
    (fun os started H enc _ F => by rw [OpenClaim.pre_eq_preRow]; exact lifted os started H enc F)
theorem plain (f : FuncId) (fn : Func) (hf : Tryz.pinned.checked.prog.funcNamed "valise/valiselaw14.JournalUpdates" = some f) (hfn : Tryz.pinned.checked.prog.funcs[f]? = some fn) :
    false = Tryz.pinned.checked.prog.looks [] ∧ ∀ (j : Nat) t, fn.params[j]? = some t → Tryz.pinned.checked.prog.wantsStandIn t = false := by
  obtain rfl : f = 4 := Option.some.inj ((show Tryz.prog.funcNamed "valise/valiselaw14.JournalUpdates" = some 4 by kernel_rfl).symm.trans hf) |>.symm
  obtain rfl : fn = Tryz.f4 := (Option.some.inj (Tryz.func4.symm.trans hfn)).symm
  refine ⟨by kernel_rfl, fun j t ht => ?_⟩
  rw [Tryz.params4] at ht
  have hm := Array.mem_of_getElem? ht
  exact (by decide +kernel : ∀ t ∈ (#[22, 3, 3, 3, 23, 3, 46] : Array Nat), Tryz.prog.wantsStandIn t = false) t hm
theorem proved : Rows.JournalUpdatesUptoCardSaid :=
  Claim7.holds_tied_plain_at .later [] _ _ _ _ saidUpto (fun _ h => by cases h) (by kernel_rfl) (fun _ h => by cases h) journalUpdatesUpto_row_tie rfl ⟨rfl, rfl⟩ (by kernel_rfl) rfl plain (by kernel_rfl)
end Go.Proofs.YtehakfbfjpolfaaGreatDoor.journalUpdates
