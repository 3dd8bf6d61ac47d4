/- The small proof library: what a file's bytes say. -/
import Derived.Test.YtehakfbfjpolfaaDoorVY
set_option maxRecDepth 100000
set_option linter.all false
namespace Vw
open Go
def seAt (n : Nat) : Nat := n / 512 * 512 - 512
def segS (l : List UInt8) : List UInt8 := (l.drop (seAt l.length)).take 512
def sdS (l : List UInt8) : Sl := dsF (segS l)
theorem seAt_le {n : Nat} (h : 512 ≤ n) : seAt n + 512 ≤ n := by unfold seAt; omega
theorem segS_len {l : List UInt8} (h : 512 ≤ l.length) : (segS l).length = 512 := by
  have := seAt_le h
  unfold segS; rw [List.length_take, List.length_drop]; omega
def seOk (l : List UInt8) : Bool := decide (512 ≤ l.length) && decOk (segS l) && decide ((sdS l).2.2.1 ≤ 16777216) && decide ((sdS l).2.2.2.1 ≤ 16777216) && decide (filZ (sdS l).2.2.1 (sdS l).2.2.2.1 (sdS l).2.2.2.2.2.1 = (l.length : Int)) && decide ((zt (l.drop (seAt l.length + 512)) : Int) = (l.length : Int) - (seAt l.length : Int) - 512)
def bodyS (l : List UInt8) : List UInt8 := (l.drop (upZ (max (sdS l).2.2.1 (sdS l).2.2.2.1)).toNat).take (sdS l).2.2.2.2.2.1.toNat
def putPs (l : List UInt8) (ps : List Pc) : List UInt8 := ps.foldl putP l
theorem putPs_len : ∀ (ps : List Pc) (l : List UInt8), (putPs l ps).length = l.length
  | [], _ => rfl
  | p :: ps, l => by
    show (putPs (putP l p) ps).length = _
    rw [putPs_len ps, putP_len]
theorem putPs_snoc (l : List UInt8) (ps : List Pc) (p : Pc) : putPs l (ps ++ [p]) = putP (putPs l ps) p := by
  unfold putPs; rw [List.foldl_append]; rfl
def lkB (l : List UInt8) : List UInt8 := putPs (l.take (sdS l).2.2.1.toNat) (bkL (sdS l) (bodyS l) (sdS l).2.2.2.2.1.toNat)
/-- The verdict and the content. -/
def lkV (l : List UInt8) : (Int × Int × Int) × List UInt8 :=
  if 1024 ≤ zt l then ((1, 0, ((l.length - zt l / 1024 * 1024 : Nat) : Int)), l.take (l.length - zt l / 1024 * 1024))
  else if seOk l = false then ((0, 0, (l.length : Int)), l)
  else if (sdS l).1 = 2 then ((2, (sdS l).2.1, (sdS l).2.2.1), l.take (sdS l).2.2.1.toNat)
  else if (sdS l).1 = 4 then ((4, (sdS l).2.1, (sdS l).2.2.2.1), l.take (sdS l).2.2.2.1.toNat)
  else if bkOk (sdS l) (bodyS l) = false then ((0, 0, (l.length : Int)), l)
  else ((3, (sdS l).2.1, (sdS l).2.2.1), lkB l)
structure SeGood (l : List UInt8) : Prop where
  st : 2 ≤ (sdS l).1 ∧ (sdS l).1 ≤ 4
  flds : (0 ≤ (sdS l).2.1 ∧ (sdS l).2.1 ≤ 4294967295) ∧ (0 ≤ (sdS l).2.2.1 ∧ (sdS l).2.2.1 ≤ 16777216) ∧ (0 ≤ (sdS l).2.2.2.1 ∧ (sdS l).2.2.2.1 ≤ 16777216) ∧ (0 ≤ (sdS l).2.2.2.2.1 ∧ (sdS l).2.2.2.2.1 ≤ 4294967295) ∧ (0 ≤ (sdS l).2.2.2.2.2.1 ∧ (sdS l).2.2.2.2.2.1 ≤ 4294967295)
  sum : (sdS l).2.2.2.2.2.2 < 4294967296
  body : max (sdS l).2.2.1 (sdS l).2.2.2.1 ≤ upZ (max (sdS l).2.2.1 (sdS l).2.2.2.1) ∧ upZ (max (sdS l).2.2.1 (sdS l).2.2.2.1) + (sdS l).2.2.2.2.2.1 ≤ (l.length : Int)
theorem seGood {l : List UInt8} (h : seOk l = true) : SeGood l := by
  unfold seOk at h
  simp only [Bool.and_eq_true, decide_eq_true_eq] at h
  obtain ⟨⟨⟨⟨⟨h1, h2⟩, h3⟩, h4⟩, h5⟩, h6⟩ := h
  have hs : slOk (sdS l) = true := by
    unfold decOk at h2
    simp only [Bool.and_eq_true, decide_eq_true_eq] at h2
    exact h2.1.2
  have hst : 2 ≤ (sdS l).1 ∧ (sdS l).1 ≤ 4 := by
    unfold slOk at hs
    simp only [Bool.and_eq_true, decide_eq_true_eq] at hs
    exact hs.1.1.1.1.1
  have hin : (0 ≤ (sdS l).2.1 ∧ (sdS l).2.1 ≤ 4294967295) ∧ (0 ≤ (sdS l).2.2.1 ∧ (sdS l).2.2.1 ≤ 4294967295) ∧ (0 ≤ (sdS l).2.2.2.1 ∧ (sdS l).2.2.2.1 ≤ 4294967295) ∧ (0 ≤ (sdS l).2.2.2.2.1 ∧ (sdS l).2.2.2.2.1 ≤ 4294967295) ∧ (0 ≤ (sdS l).2.2.2.2.2.1 ∧ (sdS l).2.2.2.2.2.1 ≤ 4294967295) := by
    unfold slOk inF at hs
    simp only [Bool.and_eq_true, decide_eq_true_eq] at hs
    exact ⟨hs.1.1.1.1.2, hs.1.1.1.2, hs.1.1.2, hs.1.2, hs.2⟩
  obtain ⟨i1, i2, i3, i4, i5⟩ := hin
  refine ⟨hst, ⟨i1, ⟨i2.1, h3⟩, ⟨i3.1, h4⟩, i4, i5⟩, ?_, ?_⟩
  · have e9 : (sdS l).2.2.2.2.2.2 = rd32 (segS l) 32 := rfl
    rw [e9]
    exact rd32_lt _ _
  have h9 : max (sdS l).2.2.1 (sdS l).2.2.2.1 ≤ upZ (max (sdS l).2.2.1 (sdS l).2.2.2.1) ∧ upZ (max (sdS l).2.2.1 (sdS l).2.2.2.1) + (sdS l).2.2.2.2.2.1 ≤ filZ (sdS l).2.2.1 (sdS l).2.2.2.1 (sdS l).2.2.2.2.2.1 := by
    generalize (sdS l).2.2.1 = a at *
    generalize (sdS l).2.2.2.1 = b at *
    generalize (sdS l).2.2.2.2.2.1 = c at *
    unfold filZ upZ
    omega
  rw [h5] at h9
  exact h9
end Vw
namespace Vw
open Go
def vdF (v : Int × Int × Int) : List Value := [.int .i64 v.1, .int .i64 v.2.1, .int .i64 v.2.2]
theorem wlk_mono {old : Int} {body : List UInt8} : ∀ {N e t : Nat}, wlk old body N = some (e, t) → ∀ i, i ≤ N → ∃ e' t', wlk old body i = some (e', t') ∧ t' ≤ t
  | 0, e, t, h, i, hi => by
    obtain rfl : i = 0 := by omega
    exact ⟨e, t, h, Nat.le_refl _⟩
  | N + 1, e, t, h, i, hi => by
    by_cases hi9 : i = N + 1
    · subst hi9; exact ⟨e, t, h, Nat.le_refl _⟩
    · cases hw : wlk old body N with
      | none => have := wlk_none hw 1; rw [this] at h; cases h
      | some p =>
        obtain ⟨e1, t1⟩ := p
        obtain ⟨e', t', h1, h2⟩ := wlk_mono hw i (by omega)
        have ht : t1 ≤ t := by
          by_cases hb : spN body N < 1 ∨ spA body N < e1 ∨ old < ((spA body N + spN body N : Nat) : Int)
          · rw [wlk_bad hw hb] at h; cases h
          · rw [wlk_good hw hb] at h
            injection h with h; injection h with h1 h2; omega
        exact ⟨e', t', h1, by omega⟩
/-- What a right body tells of its span number i. -/
theorem bk_span {s : Sl} {body : List UInt8} (h : bkOk s body = true) {N : Nat} (hN : s.2.2.2.2.1 = (N : Int)) {i : Nat} (hi : i < N) :
    1 ≤ spN body i ∧ ((spA body i + spN body i : Nat) : Int) ≤ s.2.2.1 ∧ 8 * N + totB s.2.2.1 body i + spN body i ≤ body.length ∧ totB s.2.2.1 body (i + 1) = totB s.2.2.1 body i + spN body i := by
  have hNt : s.2.2.2.2.1.toNat = N := by omega
  unfold bkOk at h
  rw [hNt] at h
  cases hw : wlk s.2.2.1 body N with
  | none => rw [hw] at h; simp at h
  | some p =>
    obtain ⟨e, t⟩ := p
    rw [hw] at h
    simp only [Bool.and_eq_true, decide_eq_true_eq] at h
    obtain ⟨e1, t1, h1, h2⟩ := wlk_mono hw i (by omega)
    obtain ⟨e2, t2, h3, h4⟩ := wlk_mono hw (i + 1) (by omega)
    have ha : totB s.2.2.1 body i = t1 := by unfold totB; rw [h1]
    have hb9 : totB s.2.2.1 body (i + 1) = t2 := by unfold totB; rw [h3]
    by_cases hb : spN body i < 1 ∨ spA body i < e1 ∨ s.2.2.1 < ((spA body i + spN body i : Nat) : Int)
    · rw [wlk_bad h1 hb] at h3; cases h3
    · rw [wlk_good h1 hb] at h3
      injection h3 with h3; injection h3 with h5 h6
      rw [ha, hb9]
      omega
theorem bk_cnt {s : Sl} {body : List UInt8} (h : bkOk s body = true) : 8 * s.2.2.2.2.1 ≤ (body.length : Int) := by
  unfold bkOk at h
  simp only [Bool.and_eq_true, decide_eq_true_eq] at h
  exact h.1.2
end Vw
namespace Vw
open Go
def lkOk (l : List UInt8) : Bool := seOk l && (!(decide ((sdS l).1 = 3)) || bkOk (sdS l) (bodyS l))
def lkZ (l : List UInt8) : Int := if (sdS l).1 = 4 then (sdS l).2.2.2.1 else (sdS l).2.2.1
def lkP (l : List UInt8) : List Pc := if (sdS l).1 = 3 then bkL (sdS l) (bodyS l) (sdS l).2.2.2.2.1.toNat else []
theorem lk_of {l : List UInt8} (h0 : zt l < 1024) (h : lkOk l = true) : lkV l = (((sdS l).1, (sdS l).2.1, lkZ l), putPs (l.take (lkZ l).toNat) (lkP l)) := by
  unfold lkOk at h
  simp only [Bool.and_eq_true] at h
  obtain ⟨h1, h2⟩ := h
  have hst := (seGood h1).st
  unfold lkV lkZ lkP
  rw [if_neg (by omega), if_neg (by rw [h1]; simp)]
  by_cases c2 : (sdS l).1 = 2
  · rw [if_pos c2, if_neg (show ¬ (sdS l).1 = 4 by omega), if_neg (show ¬ (sdS l).1 = 3 by omega), c2]; rfl
  · by_cases c4 : (sdS l).1 = 4
    · rw [if_neg c2, if_pos c4, if_pos c4, if_neg (show ¬ (sdS l).1 = 3 by omega), c4]; rfl
    · have c3 : (sdS l).1 = 3 := by omega
      rw [c3] at h2
      have hb : bkOk (sdS l) (bodyS l) = true := by simpa using h2
      rw [if_neg c2, if_neg c4, if_neg (by rw [hb]; simp), if_neg c4, if_pos c3, c3]; rfl
theorem lk_no {l : List UInt8} (h0 : zt l < 1024) (h : lkOk l = false) : lkV l = ((0, 0, (l.length : Int)), l) := by
  unfold lkV
  rw [if_neg (by omega)]
  by_cases h1 : seOk l = false
  · rw [if_pos h1]
  · have h1' : seOk l = true := by simpa using h1
    unfold lkOk at h
    rw [h1'] at h
    by_cases c3 : (sdS l).1 = 3
    · rw [c3] at h
      have hb : bkOk (sdS l) (bodyS l) = false := by simpa using h
      rw [if_neg h1, if_neg (show ¬ (sdS l).1 = 2 by omega), if_neg (show ¬ (sdS l).1 = 4 by omega), if_pos hb]
    · simp [c3] at h
theorem bk_mem {s : Sl} {body : List UInt8} (h : bkOk s body = true) {N : Nat} (hN : s.2.2.2.2.1 = (N : Int)) : ∀ p ∈ bkL s body N, 1 ≤ p.2.length ∧ ((p.1 + p.2.length : Nat) : Int) ≤ s.2.2.1 := by
  intro p hp
  obtain ⟨i, hi, rfl⟩ := List.mem_map.1 hp
  have hiN := List.mem_range.1 hi
  obtain ⟨b1, b2, b3, b4⟩ := bk_span h hN hiN
  have hNt : s.2.2.2.2.1.toNat = N := by omega
  have hdl : ((body.drop (8 * s.2.2.2.2.1.toNat + totB s.2.2.1 body i)).take (spN body i)).length = spN body i := by
    rw [hNt, List.length_take, List.length_drop]; omega
  simp only [hdl]
  exact ⟨b1, b2⟩
theorem lk_mem {l : List UInt8} (h : lkOk l = true) : ∀ p ∈ lkP l, 1 ≤ p.2.length ∧ ((p.1 + p.2.length : Nat) : Int) ≤ lkZ l := by
  unfold lkOk at h
  simp only [Bool.and_eq_true] at h
  have hg := seGood h.1
  have hf := hg.flds.2.2.2.1
  have h2 := h.2
  clear hg
  unfold lkP lkZ
  revert h2 hf
  generalize sdS l = s
  generalize bodyS l = b
  intro hf h2
  by_cases c3 : s.1 = 3
  · rw [if_pos c3, if_neg (show ¬ s.1 = 4 by omega)]
    rw [c3] at h2
    exact bk_mem (by simpa using h2) (by omega)
  · rw [if_neg c3]
    intro p hp
    cases hp
end Vw
