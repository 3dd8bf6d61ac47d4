/- The small proof library: operations that make or write memory. -/
import Derived.Test.YtehakfbfjpolfaaDoorV6
set_option linter.all false
namespace Vw
open Go

section
variable {P : Program} {ρ : Operand → Value} {K : Value → World → Prop} {w : World}
variable {d : Option Nat} {ty : TypeId} {pos : String} {after : Array Edge} {g : Option (Nat × Bool)}
variable {σ : Sig} {L L' R : List Asrt}

/-- Stores a value of one cell into a block that is owned. -/
theorem y_store {t : Nat} {x y : Operand} {b k T : Nat} {v : Value} {vs : List Value} (hs : St σ w L) (ht : ScT P t) (hx : ρ x = .pointer (some ⟨b, k, none⟩)) (hy : ρ y = v)
    (h1 : v.oneCell' = true) (u : Up (cb b T vs) (cb b T (vs.set k v)) L L') (hk : k < vs.length) (h : ∀ w', St σ w' L' → K undef w') :
    Does P ρ ⟨d, .store t x y, ty, pos, after, g⟩ w K := by
  obtain ⟨R, t1, t2⟩ := u.takes
  have hb := hs.blk_at t1
  have hc : w.cell? ⟨b, k, none⟩ = some vs[k] := by rw [cell_of_row w b k _ T (0, 0) hb]; simp [hk]
  refine .skip (x_store ht hx hy h1 hc (frozen_of_row w b k _ T hb)) (h _ ?_)
  refine hs.wrote_at u ?_
  have := setCell_wrote (k := k) hb v
  simpa using this

theorem y_alloc {t : Nat} {z : Value} (hs : St σ w L) (hz : ∀ w, (zeroValue t).run P w = .ok z w)
    (h : ∀ b w', St σ w' (cb b t z.cells.toList :: L) → K (.pointer (some ⟨b, 0, none⟩)) w') : Does P ρ ⟨d, .alloc t, ty, pos, after, g⟩ w K := by
  refine .value (v := .pointer (some ⟨w.heap.size, 0, none⟩)) (w' := w.alloc (.cells z.cells t (0, 0))) ?_ (h _ _ ?_)
  · simp [execOp, Instr.alloc, newVar, newRow, go_sem, hz]
  · exact hs.alloc _

theorem y_box {t : Nat} {x : Operand} {v : Value} (hs : St σ w L) (hx : ρ x = v)
    (h : ∀ b w', St σ w' (cb b t v.cells.toList :: L) → K (.pointer (some ⟨b, 0, none⟩)) w') : Does P ρ ⟨d, .box t x, ty, pos, after, g⟩ w K := by
  refine .value (v := .pointer (some ⟨w.heap.size, 0, none⟩)) (w' := w.alloc (.cells v.cells t (0, 0))) ?_ (h _ _ ?_)
  · simp only [execOp, hx]
    simp [Instr.box, newVar, newRow, go_sem]
  · exact hs.alloc _

theorem y_makeSlice {t e sz by_ : Nat} {z : Value} {x y : Operand} {k k' : IntKind} {m c : Int} (hs : St σ w L) (ht : SlT P t e sz by_ z)
    (hx : ρ x = .int k m) (hy : ρ y = .int k' c) (h0 : 0 ≤ m) (h1 : m ≤ c) (h2 : c * by_ ≤ 281474976710656) (h3 : c ≤ 9223372036854775807)
    (h : ∀ b w', St σ w' (cb b e (madeCells z.cells (c.toNat * sz)).toList :: L) → K (.slice (some ⟨b, 0, none⟩) m.toNat c.toNat) w') :
    Does P ρ ⟨d, .makeSlice t x y, ty, pos, after, g⟩ w K := by
  obtain ⟨inf, h4, h5, h6, h7⟩ := ht.info
  refine .value (v := .slice (some ⟨w.heap.size, 0, none⟩) m.toNat c.toNat) (w' := w.alloc (.cells (madeCells z.cells (c.toNat * sz)) e (0, 0))) ?_ (h _ _ ?_)
  · have hm : IntKind.i64.wrap m = m := wrap_i64 (by omega) (by omega)
    have hc : IntKind.i64.wrap c = c := wrap_i64 (by omega) (by omega)
    have h8 : ¬ (281474976710656 : Int) < by_ * c := by rw [Int.mul_comm]; omega
    have h9 : ¬ c < 0 := by omega
    have h10 : ¬ m < 0 := by omega
    have h11 : ¬ c < m := by omega
    simp only [execOp, hx, hy]
    by_cases hn : c.toNat * sz = 0
    · simp [Instr.makeSlice, asInt, asIntOf, go_sem, run_underlying ht.und, typeInfo, h4, h5, h6, hm, hc, h8, h9, h10, h11, newRow, Go.sizeOf, hn, madeCells]
    · simp [Instr.makeSlice, asInt, asIntOf, go_sem, run_underlying ht.und, typeInfo, h4, h5, h6, hm, hc, h8, h9, h10, h11, newRow, Go.sizeOf, hn, madeCells, zeroValue, h7]
  · exact hs.alloc _
end
end Vw
