/- The small proof library: a buffer's bytes read back. -/
import Derived.Test.YtehakfbfjpolfaaDoorVG
set_option linter.all false
namespace Vw
open Go
theorem rdS_plain {α : Type} {f : α → List Value} {sz n c : Nat} {h : Heaplet} {a : Addr} {l : List α} (hf : ∀ x, (f x).length = sz) (h0 : 0 < sz) (r : RdS f sz h (.slice (some a) n c) l) (hl : 0 < l.length) : ∃ b o, a = ⟨b, o, none⟩ := by
  rcases r.2 with ⟨c', e, hn⟩ | ⟨a', c', e, _, hc⟩
  · omega
  · cases e
    have h1 : 0 < (l.flatMap f).length := by rw [r.1]; exact Nat.mul_pos hl h0
    have := hc 0 _ (List.getElem?_eq_getElem h1)
    have e0 : a.add 0 = a := by unfold Addr.add; simp
    rw [e0] at this
    obtain ⟨b, o, s⟩ := a
    cases s with
    | none => exact ⟨b, o, rfl⟩
    | some s =>
      exfalso
      unfold cellH at this
      split at this
      · simp at this
      · cases this
theorem rdS_cellAt {α : Type} {f : α → List Value} {sz n c b o : Nat} {w : World} {l : List α} (hf : ∀ x, (f x).length = sz) (r : RdS f sz (hp w) (.slice (some ⟨b, o, none⟩) n c) l) {i k : Nat} (hi : i < l.length) {v : Value} (hk : (f l[i])[k]? = some v) :
    w.cell? ⟨b, o + i * sz + k, none⟩ = some v := by
  rcases r.2 with ⟨c', e, hn⟩ | ⟨a', c', e, _, hc⟩
  · omega
  · cases e
    have hks : k < sz := by have := (List.getElem?_eq_some_iff.1 hk).1; rwa [hf] at this
    have := hc (i * sz + k) v (by rw [flatMap_get hf l i k hi hks]; exact hk)
    rw [cell_hp]
    have e : (⟨b, o, none⟩ : Addr).add (i * sz + k) = ⟨b, o + i * sz + k, none⟩ := by unfold Addr.add; split <;> simp_all <;> omega
    rwa [e] at this
theorem addr_add (b o k : Nat) : (⟨b, o, none⟩ : Addr).add k = ⟨b, o + k, none⟩ := by unfold Addr.add; split <;> simp_all
section
variable {P : Program} {ρ : Operand → Value} {w : World}
variable {d : Option Nat} {ty : TypeId} {pos : String} {after : Array Edge} {g : Option (Nat × Bool)}
theorem x_neg {t : TypeId} {x : Operand} {m : Int} (hx : ρ x = .int .i64 m) (h0 : -9223372036854775807 ≤ m) (h1 : m ≤ 9223372036854775807) (w : World) :
    (execOp ρ ⟨d, .unOp .neg t x, ty, pos, after, g⟩).run P w = .ok (.value (.int .i64 (-m))) w := by
  have e : IntKind.i64.wrap (0 - m) = -m := by rw [wrap_i64 (by omega) (by omega)]; omega
  have e2 : (Op.unary UnOp.neg (Value.int IntKind.i64 m)).run P w = .ok (.int .i64 (-m)) w := by
    simp [Op.unary, Op.intArith, go_sem]
    first | exact e | simpa using e
  simp only [execOp, hx, Sem.run_bind, e2, Result.andThen_ok, Sem.run_pure]
end
abbrev It := Int × Int × List UInt8
def itF (o : It) : List Value := [.int .i64 o.1, .int .i64 o.2.1, .string ⟨o.2.2.toArray⟩]
def fitV (n : Int) : Nat := (if n < 0 then -(n + 1) else n).toNat
def fitN (k n : Int) : Nat := if k = 1 then fitV n % 256 else if k = 2 then fitV n % 65536 else fitV n % 4294967296
def encI (o : It) : List UInt8 := if o.1 = 1 then leB 1 (fitN o.1 o.2.1) else if o.1 = 2 then leB 2 (fitN o.1 o.2.1) else if o.1 = 4 then leB 4 (fitN o.1 o.2.1) else o.2.2
def putB (data : List UInt8) (lim bad : Int) (o : It) : List UInt8 × Int :=
  if o.1 = 1 then numB data lim bad (fitN o.1 o.2.1) 1 else if o.1 = 2 then numB data lim bad (fitN o.1 o.2.1) 2 else if o.1 = 4 then numB data lim bad (fitN o.1 o.2.1) 4 else txtB data lim bad o.2.2
theorem numB_ok (data : List UInt8) (lim bad : Int) (V n : Nat) (h : V < 256 ^ n) : numB data lim bad V n = (if bad ≠ 0 then (data, bad) else if lim - data.length < (leB n V).length then (data, 22) else (data ++ leB n V, 0)) := by
  unfold numB
  have h2 : ¬ ((V : Int) < 0 ∨ ((256 ^ n : Nat) : Int) ≤ V) := by
    intro h3; rcases h3 with h3 | h3
    · omega
    · have := Int.ofNat_le.1 h3; omega
  by_cases hb : bad ≠ 0
  · rw [if_pos hb, if_pos hb]
  · rw [if_neg hb, if_neg hb, if_neg h2, leB_len, Int.toNat_natCast]
theorem putB_eq (data : List UInt8) (lim bad : Int) (o : It) : putB data lim bad o = (if bad ≠ 0 then (data, bad) else if lim - data.length < (encI o).length then (data, 22) else (data ++ encI o, 0)) := by
  unfold putB encI
  by_cases h1 : o.1 = 1
  · simp only [if_pos h1]; exact numB_ok _ _ _ _ _ (by unfold fitN; rw [if_pos h1]; omega)
  · simp only [if_neg h1]
    by_cases h2 : o.1 = 2
    · simp only [if_pos h2]; exact numB_ok _ _ _ _ _ (by unfold fitN; rw [if_neg h1, if_pos h2]; omega)
    · simp only [if_neg h2]
      by_cases h4 : o.1 = 4
      · simp only [if_pos h4]; exact numB_ok _ _ _ _ _ (by unfold fitN; rw [if_neg h1, if_neg h2]; omega)
      · simp only [if_neg h4]; rfl
theorem encI_w {o : It} (h : o.1 = 1 ∨ o.1 = 2 ∨ o.1 = 4) : ((encI o).length : Int) = o.1 := by
  unfold encI
  rcases h with h | h | h <;> rw [h] <;> simp [leB_len]
theorem encI_s {o : It} (h1 : o.1 ≠ 1) (h2 : o.1 ≠ 2) (h4 : o.1 ≠ 4) : encI o = o.2.2 := by
  unfold encI; rw [if_neg h1, if_neg h2, if_neg h4]
theorem encI_le (o : It) : (encI o).length ≤ o.2.2.length + 4 := by
  unfold encI; split; simp [leB_len]; split; simp [leB_len]; split; simp [leB_len]; omega
def encs (l : List It) : List UInt8 := l.flatMap encI
theorem encs_succ {l : List It} {i : Nat} (h : i < l.length) : encs (l.take (i + 1)) = encs (l.take i) ++ encI l[i] := by
  unfold encs; rw [List.take_succ_eq_append_getElem h, List.flatMap_append]; simp
theorem encs_split (l : List It) (i : Nat) : encs l = encs (l.take i) ++ encs (l.drop i) := by
  conv => lhs; rw [← List.take_append_drop i l]
  unfold encs; rw [List.flatMap_append]
theorem encs_len (l : List It) : (encs l).length ≤ (l.map fun o => o.2.2.length + 4).sum := by
  induction l with
  | nil => simp [encs]
  | cons o l ih =>
    have := encI_le o
    unfold encs at ih ⊢
    simp only [List.flatMap_cons, List.length_append, List.map_cons, List.sum_cons]
    omega
theorem encs_le (l : List It) (i : Nat) : (encs (l.take i)).length ≤ (encs l).length := by rw [encs_split l i, List.length_append]; omega
theorem leN_leB : ∀ (n v : Nat), v < 256 ^ n → leN (leB n v) = v
  | 0, v, h => by have : v = 0 := by simpa using h
                  subst this; rfl
  | n + 1, v, h => by
    have h2 : v / 256 < 256 ^ n := by rw [Nat.pow_succ] at h; omega
    have e : (UInt8.ofNat (v % 256)).toNat = v % 256 := by simp [UInt8.toNat_ofNat]
    simp only [leB, leN, leN_leB n _ h2, e]
    omega
theorem nextC_ok {len at_ n : Nat} (h : at_ + n ≤ len) : nextC len at_ 0 n = (at_ + n, 0, n) := by
  unfold nextC
  simp only [ne_eq, not_true_eq_false, if_false]
  rw [if_neg (by omega), if_neg (by omega)]; rfl
theorem encs_at {l : List It} {i : Nat} (h : i < l.length) : ((encs l).drop (encs (l.take i)).length).take (encI l[i]).length = encI l[i] ∧ (encs (l.take i)).length + (encI l[i]).length ≤ (encs l).length := by
  have e := encs_split l (i + 1)
  rw [encs_succ h] at e
  constructor
  · rw [e, List.append_assoc, List.drop_left, List.take_left]
  · rw [e]; simp
end Vw
namespace Vw
theorem putB_inv {d2 : List UInt8} {lim b2 : Int} {pre : Nat} (o : It) (hb2 : b2 = 0 → d2.length = pre ∧ (d2.length : Int) ≤ lim) (hd : d2.length ≤ pre) :
    ((putB d2 lim b2 o).2 = 0 → (putB d2 lim b2 o).1.length = pre + (encI o).length ∧ ((putB d2 lim b2 o).1.length : Int) ≤ lim) ∧ (putB d2 lim b2 o).1.length ≤ pre + (encI o).length := by
  rw [putB_eq]
  by_cases c1 : b2 = 0
  · obtain ⟨e1, e2⟩ := hb2 c1
    rw [if_neg (by simpa using c1)]
    by_cases c2 : lim - d2.length < (encI o).length
    · rw [if_pos c2]
      exact ⟨fun h => by simp at h, by simp; omega⟩
    · rw [if_neg c2]
      exact ⟨fun _ => ⟨by simp; omega, by simp; omega⟩, by simp; omega⟩
  · rw [if_pos c1]
    exact ⟨fun h => absurd h c1, by simp; omega⟩
theorem mem_sum {α : Type} {f : α → Nat} {o : α} : ∀ {l : List α}, o ∈ l → f o ≤ (l.map f).sum
  | x :: l, h => by
    rcases List.mem_cons.1 h with rfl | h
    · simp
    · have := mem_sum (f := f) h; simp only [List.map_cons, List.sum_cons]; omega
end Vw
