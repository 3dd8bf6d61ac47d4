/-
THE LAW 'valise/valiselaw14.JournalApplies': for every input of bulk at most 1048576 it returns true, and leaves what it was given as it was. What is proved: Rows.JournalAppliesUptoSaid.
-/
import Derived.Test.YtehakfbfjpolfaaApl
import Derived.Test.YtehakfbfjpolfaaOpn
import Derived.WalkKit
import Derived.ProofKit
import Derived.OpenShut
import Derived.JoinedCond
set_option maxRecDepth 100000
set_option linter.all false
namespace Go.Proofs.Ytehakfbfjpolfaa.journalApplies
open Go Vw Go.ChangeShapes Go.WideShapes Go.ChangeAt Go.RowKit

theorem own : ownKnob Try.prog.godebug = none := by kernel_rfl
theorem contract (H : Type) (enc : TypeId × Value → H) (W : World) (base : Nat) (args : Array Value) (ds gs : List (DataW H)) (before : List MemPlace)
    (hval : ∀ (j : Nat) t v, Try.f3.params[j]? = some t → args[j]? = some v → Value.okWide Try.prog W .any base t v)
    (hW : DataW.Whole enc Try.prog Try.f3.params.toList Rows.journalAppliesSpec.vars false W args.toList ds gs before)(hk : Rows.uptoSmall H (ds ++ gs) = true) :
    Calls Try.prog 3 args W fun e W' => ∃ v, e = .returned v ∧ Rows.journalAppliesSpec.post enc Try.prog Try.f3 false true false false W args v W' := by
  have hW' := hW
  obtain ⟨p, q, hA0, hV, rfl, hfz, hnd⟩ := hW
  have hA := hA0
  rw [Try.params3] at hA hval
  obtain ⟨v0, vs0, d0, ds0, p0, q0, hargs, rfl, rfl, h0, r0⟩ := trodAll_cons hA
  obtain ⟨v1, vs1, d1, ds1, p1, q1, rfl, rfl, rfl, h1, r1⟩ := trodAll_cons r0
  obtain ⟨v2, vs2, d2, ds2, p2, q2, rfl, rfl, rfl, h2, r2⟩ := trodAll_cons r1
  obtain ⟨rfl, rfl, rfl⟩ := trodAll_nil r2
  obtain rfl : args = #[v0, v1, v2] := by cases args; simp_all
  have hA1 := hA0
  obtain ⟨rfl, rfl⟩ := trodVars_none hV
  obtain ⟨n0, h0⟩ := h0
  obtain ⟨y0, e0, g0, b0⟩ := (opens_bytes Try.underlying22 Try.underlying5 (by kernel_rfl)) H enc W n0 _ _ h0
  obtain rfl := one_cell (cells_slice Try.underlying22 (hval 0 22 v0 rfl rfl)) e0
  replace b0 : (y0.2.2.length + 1) ≤ Rows.uptoBulk d0 := b0
  obtain ⟨n1, h1⟩ := h1
  obtain ⟨y1, e1, g1, b1⟩ := (opens_i64 Try.underlying3) H enc W n1 _ _ h1
  obtain rfl := one_cell (cells_int Try.underlying3 (hval 1 3 v1 rfl rfl)) e1
  replace b1 : 1 ≤ Rows.uptoBulk d1 := b1
  obtain ⟨n2, h2⟩ := h2
  obtain ⟨y2, e2, g2, b2⟩ := (opens_slice (sz := 2) Try.underlying23 (by kernel_rfl) (by decide) (fun _ => rfl) opens_46) H enc W n2 _ _ h2
  obtain rfl := one_cell (cells_slice Try.underlying23 (hval 2 23 v2 rfl rfl)) e2
  replace b2 : ((y2.2.2.map (fun z : Int × Option Addr × Nat × List UInt8 => (1 + (z.2.2.2.length + 1) + 1))).sum + 1) ≤ Rows.uptoBulk d2 := b2
  have c2 := len_le_sum (bulk := fun z : Int × Option Addr × Nat × List UInt8 => (1 + (z.2.2.2.length + 1) + 1)) (fun z => by omega) y2.2.2
  have hb : Rows.uptoBulkAll ([d0, d1, d2] ++ []) ≤ 1048576 := of_decide_eq_true hk
  simp only [List.append_nil, Rows.uptoBulkAll] at hb
  have c9 : (y2.2.2.map (fun z : Int × Option Addr × Nat × List UInt8 => 1 + (z.2.2.2.length + 1) + 1)).sum ≤ 1048576 := by omega
  refine (applies_spec W y0.1 y0.2.1 y0.2.2 g0 (by omega) y1 y2.1 y2.2.1 y2.2.2 g2.1 (by omega) (fun z hz => ⟨(g2.2 z hz).2, by have h9 : 1 + (z.2.2.2.length + 1) + 1 ≤ 1048576 := Nat.le_trans (mem_sum (f := fun z : Wr => 1 + (z.2.2.2.length + 1) + 1) hz) c9; omega⟩)).mono fun e W' ⟨he, hg⟩ => ?_
  subst he
  exact ⟨_, rfl, post_of_kept (pv := []) hW' (fun _ _ _ => trodAll_cons_mk (shut_bool Try.underlying4 _) trodAll_mk0)
    (fun sp hsp => trodAll_stays laid (by rw [Try.params3]; exact (by decide +kernel : ∀ t ∈ [22, 3, 23], Try.prog.readableRec t = true ∧ t < Try.prog.types.size)) hA1 (fun x hx => hg.below.same (hW'.lt x (List.mem_append_left _ hx))) (fun x hx => hsp x (List.mem_append_left _ hx))) (fun _ _ => rfl) rfl hg
    (ok_one (by kernel_rfl) rfl (okWide_bool_mk Try.underlying4 _))⟩
set_option maxRecDepth 100000 in
theorem lifted (os : Os) (started : os.Started) (H : Type) (enc : TypeId × Value → H) (F : Stop.Interp) :
    ReturnsInHanded {} Try.checked os 3 .any ((Rows.OpenSpec.upto Rows.journalAppliesSpec).pre6 enc Try.prog Try.f3 Rows.journalAppliesUptoRow.domain false) (((Rows.OpenSpec.upto Rows.journalAppliesSpec).at F).post enc Try.prog Try.f3 false true false false) := by
  refine returnsInHanded_of_cond (C := Try.checked) (s := Rows.OpenSpec.upto Rows.journalAppliesSpec) (k := Rows.uptoSmall) rfl own started (by kernel_rfl) Try.func3
    (OpenSpec.witness (enc := enc) (C := Try.checked) (s := Rows.OpenSpec.upto Rows.journalAppliesSpec) (k := Rows.uptoSmall) rfl false ⟨#[], #[.slice none 0 0, .int .i64 0, .slice none 0 0], []⟩ 8 (by kernel_rfl) (by kernel_rfl) (by kernel_rfl)
      (x := ([.nil, .lit (.int .i64 0), .nil], [], [])) (by kernel_rfl) rfl (by kernel_rfl)) ?_
  intro W base args ds gs before hval hW _ hk _
  exact contract H enc W base args ds gs before hval hW hk
theorem proved : Rows.JournalAppliesUptoSaid :=
  OpenClaim.holds_of_cond 3 Try.f3 rfl rfl rfl rfl rfl rfl rfl ⟨rfl, rfl, rfl, rfl, rfl⟩ rfl rfl rfl rfl rfl (by kernel_rfl) Try.func3 (by kernel_rfl)
    (of_decide_eq_true (by kernel_rfl)) (by unfold Func.isWrapper; first | (rw [if_pos (by decide +kernel)]; kernel_rfl) | (rw [if_neg (by decide +kernel)]; exact ⟨rfl, rfl⟩))
    (fun os started H enc _ F => lifted os started H enc F)
end Go.Proofs.Ytehakfbfjpolfaa.journalApplies
