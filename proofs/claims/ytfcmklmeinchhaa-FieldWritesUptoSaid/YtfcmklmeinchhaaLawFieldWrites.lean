/-
THE LAW 'valise/valiselaw2.FieldWrites': for every input of bulk at most 1048576 it returns true, and leaves what it was given as it was. What is proved: Rows.FieldWritesUptoSaid.
-/
import Derived.Test.YtfcmklmeinchhaaFwr
import Derived.Test.YtfcmklmeinchhaaOpn
import Derived.WalkKit
import Derived.ProofKit
import Derived.OpenShut
import Derived.JoinedCond
set_option maxRecDepth 100000
set_option linter.all false
namespace Go.Proofs.Ytfcmklmeinchhaa.fieldWrites
open Go Vw Go.ChangeShapes Go.WideShapes Go.ChangeAt Go.RowKit

theorem own : ownKnob Try.prog.godebug = none := by kernel_rfl
theorem contract (H : Type) (enc : TypeId × Value → H) (W : World) (base : Nat) (args : Array Value) (ds gs : List (DataW H)) (before : List MemPlace)
    (hval : ∀ (j : Nat) t v, Try.f8.params[j]? = some t → args[j]? = some v → Value.okWide Try.prog W .any base t v)
    (hW : DataW.Whole enc Try.prog Try.f8.params.toList Rows.fieldWritesSpec.vars false W args.toList ds gs before)(hk : Rows.uptoSmall H (ds ++ gs) = true) :
    Calls Try.prog 8 args W fun e W' => ∃ v, e = .returned v ∧ Rows.fieldWritesSpec.post enc Try.prog Try.f8 false true false false W args v W' := by
  have hW' := hW
  obtain ⟨p, q, hA0, hV, rfl, hfz, hnd⟩ := hW
  have hA := hA0
  rw [Try.params8] at hA hval
  obtain ⟨v0, vs0, d0, ds0, p0, q0, hargs, rfl, rfl, h0, r0⟩ := trodAll_cons hA
  obtain ⟨v1, vs1, d1, ds1, p1, q1, rfl, rfl, rfl, h1, r1⟩ := trodAll_cons r0
  obtain ⟨rfl, rfl, rfl⟩ := trodAll_nil r1
  obtain rfl : args = #[v0, v1] := by cases args; simp_all
  have hA1 := hA0
  obtain ⟨rfl, rfl⟩ := trodVars_none hV
  obtain ⟨n0, h0⟩ := h0
  obtain ⟨y0, e0, g0, b0⟩ := (opens_i64 Try.underlying3) H enc W n0 _ _ h0
  obtain rfl := one_cell (cells_int Try.underlying3 (hval 0 3 v0 rfl rfl)) e0
  replace b0 : 1 ≤ Rows.uptoBulk d0 := b0
  obtain ⟨n1, h1⟩ := h1
  obtain ⟨y1, e1, g1, b1⟩ := (opens_slice (sz := 4) Try.underlying48 (by kernel_rfl) (by decide) (fun _ => rfl) opens_55) H enc W n1 _ _ h1
  obtain rfl := one_cell (cells_slice Try.underlying48 (hval 1 48 v1 rfl rfl)) e1
  replace b1 : ((y1.2.2.map (fun z : Int × Int × Int × List UInt8 => (1 + 1 + 1 + ((z.2.2.2).length + 1) + 1))).sum + 1) ≤ Rows.uptoBulk d1 := b1
  have c1 := len_le_sum (bulk := fun z : Int × Int × Int × List UInt8 => (1 + 1 + 1 + ((z.2.2.2).length + 1) + 1)) (fun z => by omega) y1.2.2
  have hb : Rows.uptoBulkAll ([d0, d1] ++ []) ≤ 1048576 := of_decide_eq_true hk
  simp only [List.append_nil, Rows.uptoBulkAll] at hb
  refine (fieldWrites_spec W y0 g0.2 y1.1 y1.2.1 y1.2.2 g1.1 (by omega) (fun o ho => (g1.2 o ho).2.2.1.2) (Nat.le_trans (tot_le (f := fun z => 1 + 1 + 1 + (z.2.2.2.length + 1) + 1) (fun z => by omega) y1.2.2) (by omega))).mono fun e W' ⟨he, hg⟩ => ?_
  subst he
  exact ⟨_, rfl, post_of_kept (pv := []) hW' (fun _ _ _ => trodAll_cons_mk (shut_bool Try.underlying4 _) trodAll_mk0)
    (fun sp hsp => trodAll_stays laid (by rw [Try.params8]; exact (by decide +kernel : ∀ t ∈ [3, 48], Try.prog.readableRec t = true ∧ t < Try.prog.types.size)) hA1 (fun x hx => hg.below.same (hW'.lt x (List.mem_append_left _ hx))) (fun x hx => hsp x (List.mem_append_left _ hx))) (fun _ _ => rfl) rfl hg
    (ok_one (by kernel_rfl) rfl (okWide_bool_mk Try.underlying4 _))⟩
set_option maxRecDepth 100000 in
theorem lifted (os : Os) (started : os.Started) (H : Type) (enc : TypeId × Value → H) (F : Stop.Interp) :
    ReturnsInHanded {} Try.checked os 8 .any ((Rows.OpenSpec.upto Rows.fieldWritesSpec).pre6 enc Try.prog Try.f8 Rows.fieldWritesUptoRow.domain false) (((Rows.OpenSpec.upto Rows.fieldWritesSpec).at F).post enc Try.prog Try.f8 false true false false) := by
  refine returnsInHanded_of_cond (C := Try.checked) (s := Rows.OpenSpec.upto Rows.fieldWritesSpec) (k := Rows.uptoSmall) rfl own started (by kernel_rfl) Try.func8
    (OpenSpec.witness (enc := enc) (C := Try.checked) (s := Rows.OpenSpec.upto Rows.fieldWritesSpec) (k := Rows.uptoSmall) rfl false ⟨#[], #[.int .i64 0, .slice none 0 0], []⟩ 8 (by kernel_rfl) (by kernel_rfl) (by kernel_rfl)
      (x := ([.lit (.int .i64 0), .nil], [], [])) (by kernel_rfl) rfl (by kernel_rfl)) ?_
  intro W base args ds gs before hval hW _ hk _
  exact contract H enc W base args ds gs before hval hW hk
theorem proved : Rows.FieldWritesUptoSaid :=
  OpenClaim.holds_of_cond 8 Try.f8 rfl rfl rfl rfl rfl rfl rfl ⟨rfl, rfl, rfl, rfl, rfl⟩ rfl rfl rfl rfl rfl (by kernel_rfl) Try.func8 (by kernel_rfl)
    (of_decide_eq_true (by kernel_rfl)) (by unfold Func.isWrapper; first | (rw [if_pos (by decide +kernel)]; kernel_rfl) | (rw [if_neg (by decide +kernel)]; exact ⟨rfl, rfl⟩))
    (fun os started H enc _ F => lifted os started H enc F)
end Go.Proofs.Ytfcmklmeinchhaa.fieldWrites
