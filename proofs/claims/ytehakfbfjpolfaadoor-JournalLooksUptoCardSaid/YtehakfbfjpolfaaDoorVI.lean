/- The small proof library: turned bits and the register. -/
import Derived.Test.YtehakfbfjpolfaaDoorVH
set_option linter.all false
namespace Vw
open Go
theorem upd_xor : ∀ (l : List UInt8) (r s : Nat), upd (r ^^^ s) l = upd r l ^^^ mvN (8 * l.length) s
  | [], r, s => rfl
  | x :: l, r, s => by
    simp only [upd, List.length_cons]
    have e : r ^^^ s ^^^ x.toNat = (r ^^^ x.toNat) ^^^ s := by ac_rfl
    rw [e, mvN_xor, upd_xor l, ← mvN_add, show 8 + 8 * l.length = 8 * (l.length + 1) by omega]
theorem upd_set : ∀ (l : List UInt8) (q : Nat) (h : q < l.length) (y : UInt8) (r : Nat), upd r (l.set q (l[q] ^^^ y)) = upd r l ^^^ mvN (8 * (l.length - q)) y.toNat
  | x :: l, 0, _, y, r => by
    simp only [List.set_cons_zero, List.getElem_cons_zero, upd, List.length_cons, UInt8.toNat_xor]
    rw [← Nat.xor_assoc, mvN_xor, upd_xor l, ← mvN_add, show 8 + 8 * l.length = 8 * (l.length + 1 - 0) by omega]
  | x :: l, q + 1, h, y, r => by
    have h' : q < l.length := by simpa using h
    simp only [List.set_cons_succ, List.getElem_cons_succ, upd, List.length_cons]
    rw [upd_set l q h' y, show l.length + 1 - (q + 1) = l.length - q by omega]
/-- A bit of a text, as moves of one bit of a register. -/
theorem bit_moves {len q b at_ k : Nat} (hq : q < len) (hb : b < 8) (hk : k < 32) (ha : at_ ≤ 8 * len) (e : at_ + k = 8 * q + b) : mvN (8 * (len - q)) (2 ^ b) = mvN (8 * len - at_) (2 ^ k) := by
  have e1 := mvN_one ⟨31 - b, by omega⟩
  have e2 := mvN_one ⟨31 - k, by omega⟩
  simp only at e1 e2
  rw [show 31 - (31 - b) = b by omega] at e1
  rw [show 31 - (31 - k) = k by omega] at e2
  rw [← e1, ← e2, ← mvN_add, ← mvN_add]
  congr 1
  omega
theorem mv_inj0 {x : Nat} (hx : x < 4294967296) (h : mv x = 0) : x = 0 := by
  unfold mv at h
  by_cases ho : x % 2 = 1
  · rw [if_pos ho] at h
    have h2 : x / 2 = 3988292384 := by
      have := congrArg (· ^^^ 3988292384) h
      simp only [Nat.xor_assoc, Nat.xor_self, Nat.xor_zero, Nat.zero_xor] at this
      exact this
    omega
  · rw [if_neg ho, Nat.xor_zero] at h
    omega
theorem mvN_inj0 : ∀ (n : Nat) {x : Nat}, x < 4294967296 → mvN n x = 0 → x = 0
  | 0, _, _, h => h
  | n + 1, x, hx, h => mv_inj0 hx (mvN_inj0 n (mv_lt hx) h)
theorem crc_ne {l l' : List UInt8} {T S : Nat} (h : ∀ r, upd r l' = upd r l ^^^ mvN T S) (hS : S < 4294967296) (h0 : S ≠ 0) : crcU 0 l ≠ crcU 0 l' := by
  intro e
  unfold crcU at e
  rw [h] at e
  generalize upd _ l = u at e
  generalize hD : mvN T S = D at e
  have e2 : u ^^^ (4294967295 ^^^ (4294967295 ^^^ u)) = u ^^^ (4294967295 ^^^ (4294967295 ^^^ (u ^^^ D))) := congrArg (fun z => u ^^^ (4294967295 ^^^ z)) e
  have a1 : u ^^^ (4294967295 ^^^ (4294967295 ^^^ u)) = (4294967295 ^^^ 4294967295) ^^^ (u ^^^ u) := by ac_rfl
  have a2 : u ^^^ (4294967295 ^^^ (4294967295 ^^^ (u ^^^ D))) = (4294967295 ^^^ 4294967295) ^^^ (u ^^^ u) ^^^ D := by ac_rfl
  rw [a1, a2, Nat.xor_self, Nat.xor_self] at e2
  simp at e2
  exact h0 (mvN_inj0 T hS (by rw [hD]; first | exact e2 | exact e2.symm))
theorem bit8 {b : Nat} (hb : b < 8) : (UInt8.ofNat (2 ^ b)).toNat = 2 ^ b := by
  have : 2 ^ b < 256 := Nat.pow_lt_pow_right (n := 8) (by omega) hb
  simp [UInt8.toNat_ofNat]
  omega
theorem r_shl1_u8 {P : Program} (t : TypeId) {yk : IntKind} {i : Nat} (hi : i < 8) (w : World) : (binOp .shl t (.int .u8 1) (.int yk (i : Int))).run P w = .ok (u8v (UInt8.ofNat (2 ^ i))) w := by
  have h : i = 0 ∨ i = 1 ∨ i = 2 ∨ i = 3 ∨ i = 4 ∨ i = 5 ∨ i = 6 ∨ i = 7 := by omega
  rcases h with rfl | rfl | rfl | rfl | rfl | rfl | rfl | rfl <;> (rw [r_shl _ _ _ _ _ (by omega)]; rfl)
/-- One more bit turned. -/
theorem turn_step {data l : List UInt8} {T S at_ k q b : Nat} (hl : l.length = data.length) (hu : ∀ r, upd r l = upd r data ^^^ mvN T S) (hT : T = 8 * data.length - at_) (ha : at_ ≤ 8 * data.length)
    (hq : q < l.length) (hb : b < 8) (hk : k < 32) (e : at_ + k = 8 * q + b) (hS : S < 2 ^ k) :
    (∀ r, upd r (l.set q (l[q] ^^^ UInt8.ofNat (2 ^ b))) = upd r data ^^^ mvN T (2 ^ k ^^^ S)) ∧ 2 ^ k ^^^ S < 2 ^ (k + 1) ∧ 2 ^ k ^^^ S ≠ 0 := by
  have hx := xor_add k 1 S hS
  rw [Nat.one_mul] at hx
  refine ⟨fun r => ?_, ?_, ?_⟩
  · rw [upd_set l q hq, hu, bit8 hb, hl, bit_moves (by omega) hb hk ha e, ← hT, Nat.xor_assoc, ← mvN_xor, Nat.xor_comm S]
  · rw [hx, Nat.pow_succ]; omega
  · rw [hx]; have := Nat.two_pow_pos k; omega
end Vw
