/- Texts 8 of 17 that the law rests on: the small library, contracts of functions, printed by a program. -/
import Derived.Deep.MidRow
import Derived.Test.YtehakfbfjpolfaaGreatDoorUp1
import Derived.Test.YtehakfbfjpolfaaGreatDoorUp2
import Derived.Test.YtehakfbfjpolfaaGreatDoorUp3
import Derived.Test.YtehakfbfjpolfaaGreatDoorUp4
import Derived.Test.YtehakfbfjpolfaaGreatDoorUp5
import Derived.Test.YtehakfbfjpolfaaGreatDoorUp6
import Derived.Test.YtehakfbfjpolfaaGreatDoorUp7
set_option maxRecDepth 100000
set_option linter.all false
namespace Vw
open Go
section
variable {P : Program} {ρ : Operand → Value} {K : Value → World → Prop} {w : World}
variable {d : Option Nat} {ty : TypeId} {pos : String} {after : Array Edge} {g : Option (Nat × Bool)}
variable {σ : Sig} {L L' R : List Asrt}
theorem St.setCells {b T : Nat} : ∀ (cs vs : List Value) (o : Nat) (w : World), St σ w (cb b T vs :: R) → o + cs.length ≤ vs.length → St σ (w.setCells b o cs) (cb b T (vs.take o ++ cs ++ vs.drop (o + cs.length)) :: R)
  | [], vs, o, w, hs, _ => by simpa [World.setCells] using hs
  | v :: cs, vs, o, w, hs, hl => by
    have hlt : o < vs.length := by simp at hl; omega
    have h1 : St σ (w.setCell ⟨b, o, none⟩ v) (cb b T (vs.set o v) :: R) := by
      have := setCell_wrote (k := o) hs.head v
      have := hs.wrote this
      simpa using this
    have := St.setCells cs (vs.set o v) (o + 1) _ h1 (by simp at hl ⊢; omega)
    have e : (vs.set o v).take (o + 1) ++ cs ++ (vs.set o v).drop (o + 1 + cs.length) = vs.take o ++ (v :: cs) ++ vs.drop (o + (v :: cs).length) := by
      rw [List.take_succ_eq_append_getElem (by simpa using hlt), List.getElem_set_self, List.take_set_of_le (Nat.le_refl _), List.drop_set_of_lt (by omega)]
      simp only [List.append_assoc, List.cons_append, List.nil_append, List.length_cons]
      rw [show o + 1 + cs.length = o + (cs.length + 1) by omega]
    rw [e] at this
    exact this
theorem y_storeAgg {t n : Nat} {x y : Operand} {b T : Nat} {cs vs : List Value} (hs : St σ w L) (ht : (P.info? t).map (·.size) = some n) (hx : ρ x = .pointer (some ⟨b, 0, none⟩)) (hy : ρ y = .agg cs.toArray)
    (h1 : ∀ v ∈ cs, v.oneCell' = true) (hn : cs.length = n) (hv : vs.length = n) (u : Up (cb b T vs) (cb b T cs) L L') (h : ∀ w', St σ w' L' → K undef w') :
    Does P ρ ⟨d, .store t x y, ty, pos, after, g⟩ w K := by
  obtain ⟨R, t1, t2⟩ := u.takes
  have hs1 := hs.take t1
  have hb := hs1.head
  have hthere : w.there b 0 cs.toArray.size := fun j hj => by
    have hj' : j < vs.length := by simp at hj; omega
    refine ⟨?_, frozen_of_row w b _ _ T hb⟩
    rw [cell_of_row w b _ _ T (0, 0) hb]
    simp [hj']
  refine .skip (w' := w.setCells b 0 cs) ?_ (h _ ?_)
  · have := run_storeAt_mid (P := P) w b 0 t cs.toArray hthere (by simpa [hn] using ht) (all_oneCell_toArray h1)
    simp only [execOp, hx, hy, Sem.run_bind, this, Result.andThen_ok, Sem.run_pure]
  · have := St.setCells cs vs 0 w hs1 (by omega)
    have e : vs.take 0 ++ cs ++ vs.drop (0 + cs.length) = cs := by simp; omega
    rw [e] at this
    exact this.give t2
theorem x_loadBlk {t n b T : Nat} {x : Operand} {vs : List Value} (hs : St σ w L) (ht : AgT P t n) (hx : ρ x = .pointer (some ⟨b, 0, none⟩)) (hn : vs.length = n) (tk : Take (cb b T vs) L R) :
    (execOp ρ ⟨d, .load t x, ty, pos, after, g⟩).run P w = .ok (.value (.agg vs.toArray)) w :=
  x_loadAgg ht hx hn fun j v hv => by
    have := hs.cell tk hv
    rwa [show (⟨b, 0, none⟩ : Addr).add j = ⟨b, j, none⟩ by unfold Addr.add; split <;> simp_all]
end
theorem r_1c {P : Program} {N : Nat} {a : Act} {w : World} {L : List (Nat × Value)} {fn : Func} {s t n b T : Nat} {vs : List Value} {σ : Sig} {L1 R1 : List Asrt} {R : Ending → World → Prop} (hf : Has N a L) (hr : fn.results = #[.cell s t])
    (hv : look L s = some (.pointer (some ⟨b, 0, none⟩))) (hs : St σ w L1) (ht : AgT P t n) (hn : vs.length = n) (tk : Take (cb b T vs) L1 R1) (h : R (.returned (.agg vs.toArray)) w) : bodyPost P fn R .ret a w := by
  refine bodyPost_ret ?_ hf.defers h
  have hl := run_loadCells_list (P := P) w ⟨b, 0, none⟩ vs (fun j v hv => by
    have := hs.cell tk hv
    rwa [show (⟨b, 0, none⟩ : Addr).add j = ⟨b, j, none⟩ by unfold Addr.add; split <;> simp_all])
  rw [hn] at hl
  unfold loadCells at hl
  simp [results, hr, hf.get s _ hv, asAddr, loadVar, go_sem, ht.agg, ht.size, hl]
def arrL (t : Nat) : List Value := (List.range 32).map fun i => Value.int .u32 ((mvN t (2 ^ i) : Nat) : Int)
def arrP (t i : Nat) : List Value := (arrL t).take i ++ List.replicate (32 - i) (.int .u32 0)
def top (a k : Nat) : Nat := a / 2 ^ (32 - k) * 2 ^ (32 - k)
end Vw
namespace Vw
open Go
def joinR (a b : Nat) (n : Int) : Nat := if n < 0 ∨ 16777216 < n then 0 else mvN (8 * n.toNat) a ^^^ b
def joinE (n : Int) : Int := if n < 0 ∨ 16777216 < n then 1 else 0
section
variable {P : Program}
theorem r_shr_i64 (t : TypeId) {yk : IntKind} {x j : Nat} (hj : j ≤ 64) (w : World) :
    (binOp .shr t (.int .i64 (x : Int)) (.int yk (j : Int))).run P w = .ok (.int .i64 ((x / 2 ^ j : Nat) : Int)) w := by
  rw [r_shr _ _ _ _ _ (by omega)]
  have e : (x : Int).fdiv (2 ^ (min (Int.toNat (j : Int)) IntKind.i64.bits)) = ((x / 2 ^ j : Nat) : Int) := by
    have e1 : min (Int.toNat (j : Int)) IntKind.i64.bits = j := by simp [IntKind.bits]; omega
    rw [e1, Int.fdiv_eq_ediv_of_nonneg _ (by exact_mod_cast Nat.zero_le (2 ^ j))]
    norm_cast
  rw [e]
end
end Vw
