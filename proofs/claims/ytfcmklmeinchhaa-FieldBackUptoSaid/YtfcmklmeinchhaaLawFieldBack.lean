/-
THE LAW 'valise/valiselaw2.FieldBack': for every input of bulk at most 1048576 it returns true, and leaves what it was given as it was. What is proved: Rows.FieldBackUptoSaid.
-/
import Derived.Test.YtfcmklmeinchhaaBck
import Derived.Test.YtfcmklmeinchhaaOpn
import Derived.WalkKit
import Derived.ProofKit
import Derived.OpenShut
import Derived.JoinedCond
set_option maxRecDepth 100000
set_option linter.all false
namespace Go.Proofs.Ytfcmklmeinchhaa.fieldBack
open Go Vw Go.ChangeShapes Go.WideShapes Go.ChangeAt Go.RowKit

theorem own : ownKnob Try.prog.godebug = none := by kernel_rfl
theorem contract (H : Type) (enc : TypeId × Value → H) (W : World) (base : Nat) (args : Array Value) (ds gs : List (DataW H)) (before : List MemPlace)
    (hval : ∀ (j : Nat) t v, Try.f10.params[j]? = some t → args[j]? = some v → Value.okWide Try.prog W .any base t v)
    (hW : DataW.Whole enc Try.prog Try.f10.params.toList Rows.fieldBackSpec.vars false W args.toList ds gs before)(hk : Rows.uptoSmall H (ds ++ gs) = true) :
    Calls Try.prog 10 args W fun e W' => ∃ v, e = .returned v ∧ Rows.fieldBackSpec.post enc Try.prog Try.f10 false true false false W args v W' := by
  have hW' := hW
  obtain ⟨p, q, hA0, hV, rfl, hfz, hnd⟩ := hW
  have hA := hA0
  rw [Try.params10] at hA hval
  obtain ⟨v0, vs0, d0, ds0, p0, q0, hargs, rfl, rfl, h0, r0⟩ := trodAll_cons hA
  obtain ⟨rfl, rfl, rfl⟩ := trodAll_nil r0
  obtain rfl : args = #[v0] := by cases args; simp_all
  have hA1 := hA0
  obtain ⟨rfl, rfl⟩ := trodVars_none hV
  obtain ⟨n0, h0⟩ := h0
  obtain ⟨y0, e0, g0, b0⟩ := (opens_slice (sz := 3) Try.underlying61 (by kernel_rfl) (by decide) (fun _ => rfl) opens_63) H enc W n0 _ _ h0
  obtain rfl := one_cell (cells_slice Try.underlying61 (hval 0 61 v0 rfl rfl)) e0
  replace b0 : ((y0.2.2.map (fun z : Int × Int × List UInt8 => (1 + 1 + ((z.2.2).length + 1) + 1))).sum + 1) ≤ Rows.uptoBulk d0 := b0
  have c0 := len_le_sum (bulk := fun z : Int × Int × List UInt8 => (1 + 1 + ((z.2.2).length + 1) + 1)) (fun z => by omega) y0.2.2
  have hb : Rows.uptoBulkAll ([d0] ++ []) ≤ 1048576 := of_decide_eq_true hk
  simp only [List.append_nil, Rows.uptoBulkAll] at hb
  have c9 : (y0.2.2.map (fun z : Int × Int × List UInt8 => 1 + 1 + (z.2.2.length + 1) + 1)).sum ≤ 1048576 := by omega
  refine (fieldBack_spec W y0.1 y0.2.1 y0.2.2 g0.1 (by omega) (fun o ho => (g0.2 o ho).2.1.1) (fun o ho => (g0.2 o ho).2.1.2) (fun o ho => by have h9 : 1 + 1 + (o.2.2.length + 1) + 1 ≤ 1048576 := Nat.le_trans (mem_sum (f := fun z : It => 1 + 1 + (z.2.2.length + 1) + 1) ho) c9; omega) (Nat.le_trans (encs_len _) (Nat.le_trans (sum_le_map (g := fun z : It => 1 + 1 + (z.2.2.length + 1) + 1) (fun z => by omega) _) c9))).mono fun e W' ⟨he, hg⟩ => ?_
  subst he
  exact ⟨_, rfl, post_of_kept (pv := []) hW' (fun _ _ _ => trodAll_cons_mk (shut_bool Try.underlying4 _) trodAll_mk0)
    (fun sp hsp => trodAll_stays laid (by rw [Try.params10]; exact (by decide +kernel : ∀ t ∈ [61], Try.prog.readableRec t = true ∧ t < Try.prog.types.size)) hA1 (fun x hx => hg.below.same (hW'.lt x (List.mem_append_left _ hx))) (fun x hx => hsp x (List.mem_append_left _ hx))) (fun _ _ => rfl) rfl hg
    (ok_one (by kernel_rfl) rfl (okWide_bool_mk Try.underlying4 _))⟩
set_option maxRecDepth 100000 in
theorem lifted (os : Os) (started : os.Started) (H : Type) (enc : TypeId × Value → H) (F : Stop.Interp) :
    ReturnsInHanded {} Try.checked os 10 .any ((Rows.OpenSpec.upto Rows.fieldBackSpec).pre6 enc Try.prog Try.f10 Rows.fieldBackUptoRow.domain false) (((Rows.OpenSpec.upto Rows.fieldBackSpec).at F).post enc Try.prog Try.f10 false true false false) := by
  refine returnsInHanded_of_cond (C := Try.checked) (s := Rows.OpenSpec.upto Rows.fieldBackSpec) (k := Rows.uptoSmall) rfl own started (by kernel_rfl) Try.func10
    (OpenSpec.witness (enc := enc) (C := Try.checked) (s := Rows.OpenSpec.upto Rows.fieldBackSpec) (k := Rows.uptoSmall) rfl false ⟨#[], #[.slice none 0 0], []⟩ 8 (by kernel_rfl) (by kernel_rfl) (by kernel_rfl)
      (x := ([.nil], [], [])) (by kernel_rfl) rfl (by kernel_rfl)) ?_
  intro W base args ds gs before hval hW _ hk _
  exact contract H enc W base args ds gs before hval hW hk
theorem proved : Rows.FieldBackUptoSaid :=
  OpenClaim.holds_of_cond 10 Try.f10 rfl rfl rfl rfl rfl rfl rfl ⟨rfl, rfl, rfl, rfl, rfl⟩ rfl rfl rfl rfl rfl (by kernel_rfl) Try.func10 (by kernel_rfl)
    (of_decide_eq_true (by kernel_rfl)) (by unfold Func.isWrapper; first | (rw [if_pos (by decide +kernel)]; kernel_rfl) | (rw [if_neg (by decide +kernel)]; exact ⟨rfl, rfl⟩))
    (fun os started H enc _ F => lifted os started H enc F)
end Go.Proofs.Ytfcmklmeinchhaa.fieldBack
