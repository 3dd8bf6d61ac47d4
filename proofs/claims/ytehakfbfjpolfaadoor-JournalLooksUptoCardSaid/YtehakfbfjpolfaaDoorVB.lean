/- The small proof library: lists of bytes. -/
import Derived.Test.YtehakfbfjpolfaaDoorVA
set_option linter.all false
namespace Vw
open Go

/-- An owned slice of bytes, with room behind it. -/
def slB (T : Nat) (v : Value) (l : List UInt8) : Asrt := sl T 1 v l.length (l.map u8v)
/-- A block of bytes. -/
abbrev bb (b T : Nat) (l : List UInt8) : Asrt := cb b T (l.map u8v)

theorem slB_rd {T : Nat} {v : Value} {l : List UInt8} {h : Heaplet} (hh : slB T v l h) : RdB h v l := sl_rd hh

theorem slB_nil (T : Nat) (h : Heaplet) : slB T (.slice none 0 0) [] h := ⟨by simp, .inl ⟨rfl, rfl⟩⟩

theorem slB_of_bb {b T n : Nat} {l : List UInt8} {h : Heaplet} (hn : n ≤ l.length) (hm : l.length ≤ maxLen) (hb : bb b T l h) : slB T (.slice (some ⟨b, 0, none⟩) n l.length) (l.take n) h := by
  have e : (l.take n).length = n := by simp; omega
  refine ⟨by simp, .inr ⟨b, l.length, l.map u8v, by rw [e], by rw [e]; exact hn, hm, by simp, ?_, hb⟩⟩
  rw [e]
  simp [List.map_take]

theorem rdB_of_bb {b T : Nat} {l : List UInt8} {h : Heaplet} (hb : bb b T l h) {n c : Nat} (hn : n ≤ l.length) (hc : n ≤ c) : RdB h (.slice (some ⟨b, 0, none⟩) n c) (l.take n) := by
  have e : (l.take n).length = n := by simp; omega
  refine ⟨by simp, .inr ⟨_, c, by rw [e], by rw [e]; exact hc, fun j u hu => ?_⟩⟩
  have hadd : (⟨b, 0, none⟩ : Addr).add j = ⟨b, j, none⟩ := by unfold Addr.add; split <;> simp_all
  rw [hadd]
  have hb' : h b = some (.cells (l.map u8v).toArray T (0, 0)) := hb
  simp only [cellH, hb']
  rw [List.map_take, List.getElem?_take] at hu
  split at hu
  · simpa using hu
  · cases hu

/-- A list with another one written over it from a place on. -/
def spl {α : Type} (l : List α) (o : Nat) (s : List α) : List α := l.take o ++ s ++ l.drop (o + s.length)
theorem spl_length {α : Type} (l : List α) (o : Nat) (s : List α) (h : o + s.length ≤ l.length) : (spl l o s).length = l.length := by
  simp [spl]; omega

theorem madeCells_u8 (n : Nat) : (madeCells (Value.int .u8 0).cells n).toList = (List.replicate n (0 : UInt8)).map u8v := by
  apply List.ext_getElem?
  intro i
  simp only [madeCells, List.map_replicate]
  rw [List.getElem?_replicate]
  by_cases h : i < n
  · simp [h, Value.cells, u8v, Nat.mod_one]
  · simp [h]

section
variable {P : Program} {ρ : Operand → Value} {K : Value → World → Prop} {w : World}
variable {d : Option Nat} {ty : TypeId} {pos : String} {after : Array Edge} {g : Option (Nat × Bool)}
variable {σ : Sig} {L L' R : List Asrt}

theorem y_makeB {t e m c : Nat} {x y : Operand} {k k' : IntKind} {mi ci : Int} (hs : St σ w L) (ht : SlT P t e 1 1 (.int .u8 0))
    (hx : ρ x = .int k mi) (hy : ρ y = .int k' ci) (hm : mi = m) (hc : ci = c) (h1 : m ≤ c) (h2 : c ≤ 281474976710656)
    (h : ∀ b w', St σ w' (bb b e (List.replicate c 0) :: L) → K (.slice (some ⟨b, 0, none⟩) m c) w') :
    Does P ρ ⟨d, .makeSlice t x y, ty, pos, after, g⟩ w K := by
  subst hm hc
  refine y_makeSlice hs ht hx hy (by omega) (by omega) (by omega) (by omega) fun b w' hs' => ?_
  rw [madeCells_u8] at hs'
  simp only [Nat.mul_one, Int.toNat_natCast] at hs' ⊢
  exact h b w' hs'

theorem y_copyB {t u e by_ sn dn dc : Nat} {z : Value} {x y : Operand} {p : Addr} {b o T : Nat} {cur cur' src : List UInt8} {sv : Value} (hs : St σ w L) (ht : SlT P t e 1 by_ z)
    (hx : ρ x = .slice (some p) dn dc) (hy : ρ y = sv) (hpd : dn ≠ 0 → p = ⟨b, o, none⟩) (hr : RdB (hp w) sv src) (hsn : src.length = sn)
    (up : Up (bb b T cur) (bb b T cur') L L') (hcur : cur' = spl cur o (src.take (min sn dn))) (hfit : o + dn ≤ cur.length)
    (h : ∀ w', St σ w' L' → K (.int .i64 (min sn dn : Nat)) w') :
    Does P ρ ⟨d, .call ⟨.builtin .copy, #[x, y], #[t, u]⟩, ty, pos, after, g⟩ w K := by
  subst hsn
  refine y_copy (T := T) (vs := cur.map u8v) (xs := src.map u8v) hs ht hx hy hpd hr (oneCell_of_bytes _) ?_ (by simpa using hfit) h
  have e : (cur.map u8v).take o ++ (src.map u8v).take (min src.length dn) ++ (cur.map u8v).drop (o + min src.length dn) = cur'.map u8v := by
    rw [hcur]
    have : (src.take (min src.length dn)).length = min src.length dn := by simp
    simp [spl, List.map_take, List.map_drop]
  rw [e]
  exact up

theorem y_appendB {t e by_ : Nat} {z : Value} {x y : Operand} {v sv : Value} {l s : List UInt8} (hs : St σ w L) (ht : SlT P t e 1 by_ z) (hb1 : by_ = 1)
    (hx : ρ x = v) (hy : ρ y = sv) (tk : Take (slB e v l) L R) (hr : RdB (hp w) sv s) (hb : l.length + s.length ≤ 140737488355328)
    (h : ∀ v' w', St σ w' (slB e v' (l ++ s) :: R) → (v' = .slice none 0 0 ↔ v = .slice none 0 0 ∧ s = []) → K v' w') :
    Does P ρ ⟨d, .call ⟨.builtin .append, #[x, y], #[t, t]⟩, ty, pos, after, g⟩ w K := by
  subst hb1
  refine y_append (xs := l.map u8v) (ys := s.map u8v) hs ht hx hy tk hr (oneCell_of_bytes _) (by omega) (by rw [maxLen_eq]; omega) fun v' w' hs' hv => h v' w' ?_ ?_
  · unfold slB
    simpa using hs'
  · rw [hv]; simp

theorem getB {h : Heaplet} {a : Addr} {n c : Nat} {l : List UInt8} (hr : RdB h (.slice (some a) n c) l) {i : Nat} (hi : i < l.length) : cellH h (a.add i) = some (u8v l[i]) := by
  rcases hr.2 with ⟨c', e, hn⟩ | ⟨a', c', e, _, hc⟩
  · cases e
  · cases e
    exact hc i _ (by simp [hi])

/-- A byte of a list that is read: the address as indexAddr gives it. -/
theorem x_loadB {t : Nat} {x : Operand} {a : Addr} {n c : Nat} {l : List UInt8} {i : Int} (ht : ScT P t) (hr : RdB (hp w) (.slice (some a) n c) l) (hx : ρ x = .pointer (some (a.add (i.toNat * 1)))) (hi : i.toNat < l.length) :
    (execOp ρ ⟨d, .load t x, ty, pos, after, g⟩).run P w = .ok (.value (u8v l[i.toNat])) w :=
  x_load ht hx (by rw [Nat.mul_one, cell_hp]; exact getB hr hi)

/-- A byte written into a block of bytes. -/
theorem y_storeB {t : Nat} {x y : Operand} {b k T : Nat} {v : Value} {l : List UInt8} {u : UInt8} (hs : St σ w L) (ht : ScT P t) (hx : ρ x = .pointer (some ⟨b, k, none⟩)) (hy : ρ y = v) (hv : v = u8v u)
    (up : Up (bb b T l) (bb b T (l.set k u)) L L') (hk : k < l.length) (h : ∀ w', St σ w' L' → K undef w') :
    Does P ρ ⟨d, .store t x y, ty, pos, after, g⟩ w K := by
  subst hv
  refine y_store (T := T) (vs := l.map u8v) hs ht hx hy rfl ?_ (by simpa using hk) h
  rw [← List.map_set]
  exact up
end
end Vw
namespace Vw
theorem St.lose {σ : Sig} {w : Go.World} {L R : List Asrt} {A : Asrt} (hs : St σ w L) (t : Take A L R) : St σ w R := (hs.take t).drop
end Vw
