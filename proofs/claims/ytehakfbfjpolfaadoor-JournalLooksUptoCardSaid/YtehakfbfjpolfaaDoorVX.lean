/- The small proof library: what a file's tail says. -/
import Derived.Test.YtehakfbfjpolfaaDoorVW
set_option linter.all false
namespace Vw
open Go
/-- How many zeros at the end. -/
def zt (l : List UInt8) : Nat := (l.reverse.takeWhile (· == 0)).length
theorem zt_nil : zt [] = 0 := rfl
theorem zt_zero (l : List UInt8) : zt (l ++ [0]) = zt l + 1 := by unfold zt; simp
theorem zt_other (l : List UInt8) {x : UInt8} (h : x ≠ 0) : zt (l ++ [x]) = 0 := by unfold zt; simp [h]
theorem zt_le (l : List UInt8) : zt l ≤ l.length := by
  unfold zt
  have := (List.takeWhile_sublist (p := (· == (0 : UInt8))) (l := l.reverse)).length_le
  simpa using this
theorem zt_take0 {l : List UInt8} {n : Nat} (h : n < l.length) (h0 : l[n] = 0) : zt (l.take (n + 1)) = zt (l.take n) + 1 := by
  rw [List.take_succ_eq_append_getElem h, h0, zt_zero]
theorem zt_take1 {l : List UInt8} {n : Nat} (h : n < l.length) (h0 : l[n] ≠ 0) : zt (l.take (n + 1)) = 0 := by
  rw [List.take_succ_eq_append_getElem h, zt_other _ h0]
/-! The spans of a body. -/
def spA (body : List UInt8) (i : Nat) : Nat := rd32 body (8 * i)
def spN (body : List UInt8) (i : Nat) : Nat := rd32 body (8 * i + 4)
def wlk (old : Int) (body : List UInt8) : Nat → Option (Nat × Nat)
  | 0 => some (0, 0)
  | k + 1 => match wlk old body k with
    | none => none
    | some (e, t) => if spN body k < 1 ∨ spA body k < e ∨ old < ((spA body k + spN body k : Nat) : Int) then none else some (spA body k + spN body k, t + spN body k)
theorem wlk_bad {old : Int} {body : List UInt8} {k e t : Nat} (h : wlk old body k = some (e, t)) (hb : spN body k < 1 ∨ spA body k < e ∨ old < ((spA body k + spN body k : Nat) : Int)) : wlk old body (k + 1) = none := by
  simp only [wlk, h]; rw [if_pos hb]
theorem wlk_good {old : Int} {body : List UInt8} {k e t : Nat} (h : wlk old body k = some (e, t)) (hb : ¬ (spN body k < 1 ∨ spA body k < e ∨ old < ((spA body k + spN body k : Nat) : Int))) : wlk old body (k + 1) = some (spA body k + spN body k, t + spN body k) := by
  simp only [wlk, h]; rw [if_neg hb]
theorem wlk_none {old : Int} {body : List UInt8} {k : Nat} (h : wlk old body k = none) : ∀ n, wlk old body (k + n) = none
  | 0 => h
  | n + 1 => by
    have h1 := wlk_none h n
    show wlk old body ((k + n) + 1) = none
    simp only [wlk, h1]
theorem wlk_le {old : Int} {body : List UInt8} (h0 : 0 ≤ old) : ∀ {k e t : Nat}, wlk old body k = some (e, t) → t ≤ e ∧ (e : Int) ≤ old
  | 0, e, t, h => by
    injection h with h; injection h with h1 h2
    subst h1 h2; exact ⟨Nat.le_refl _, by simpa using h0⟩
  | k + 1, e, t, h => by
    cases hw : wlk old body k with
    | none => have := wlk_none hw 1; rw [this] at h; cases h
    | some p =>
      obtain ⟨e1, t1⟩ := p
      have ih := wlk_le h0 hw
      by_cases hb : spN body k < 1 ∨ spA body k < e1 ∨ old < ((spA body k + spN body k : Nat) : Int)
      · rw [wlk_bad hw hb] at h; cases h
      · rw [wlk_good hw hb] at h
        injection h with h; injection h with h1 h2
        omega
def bkOk (s : Sl) (body : List UInt8) : Bool := decide (crcU 0 body = s.2.2.2.2.2.2) && decide (8 * s.2.2.2.2.1 ≤ (body.length : Int)) && (match wlk s.2.2.1 body s.2.2.2.2.1.toNat with | none => false | some (_, t) => decide (8 * s.2.2.2.2.1.toNat + t = body.length))
def totB (old : Int) (body : List UInt8) (k : Nat) : Nat := match wlk old body k with | none => 0 | some (_, t) => t
def bkL (s : Sl) (body : List UInt8) (k : Nat) : List Pc := (List.range k).map fun i => (spA body i, (body.drop (8 * s.2.2.2.2.1.toNat + totB s.2.2.1 body i)).take (spN body i))
theorem bkL_succ (s : Sl) (body : List UInt8) (k : Nat) : bkL s body (k + 1) = bkL s body k ++ [(spA body k, (body.drop (8 * s.2.2.2.2.1.toNat + totB s.2.2.1 body k)).take (spN body k))] := by
  unfold bkL; rw [List.range_succ, List.map_append]; rfl
def spL (body : List UInt8) (k : Nat) : List (Int × Int) := (List.range k).map fun i => ((spA body i : Int), ((spA body i + spN body i : Nat) : Int))
theorem spL_succ (body : List UInt8) (k : Nat) : spL body (k + 1) = spL body k ++ [((spA body k : Int), ((spA body k + spN body k : Nat) : Int))] := by
  unfold spL; rw [List.range_succ, List.map_append]; rfl
end Vw
