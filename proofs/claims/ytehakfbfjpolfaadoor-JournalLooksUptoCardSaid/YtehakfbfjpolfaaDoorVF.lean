/- The small proof library: arrays as values, and the register's moves as maps. -/
import Derived.Test.YtehakfbfjpolfaaDoorVE
import Derived.Deep.MidRow
set_option linter.all false
namespace Vw
open Go
section
variable {P : Program} {ρ : Operand → Value} {K : Value → World → Prop} {w : World}
variable {d : Option Nat} {ty : TypeId} {pos : String} {after : Array Edge} {g : Option (Nat × Bool)}
variable {σ : Sig} {L L' R : List Asrt}

theorem St.setCells {b T : Nat} : ∀ (cs vs : List Value) (o : Nat) (w : World), St σ w (cb b T vs :: R) → o + cs.length ≤ vs.length → St σ (w.setCells b o cs) (cb b T (vs.take o ++ cs ++ vs.drop (o + cs.length)) :: R)
  | [], vs, o, w, hs, _ => by simpa [World.setCells] using hs
  | v :: cs, vs, o, w, hs, hl => by
    have hlt : o < vs.length := by simp at hl; omega
    have h1 : St σ (w.setCell ⟨b, o, none⟩ v) (cb b T (vs.set o v) :: R) := by
      have := setCell_wrote (k := o) hs.head v
      have := hs.wrote this
      simpa using this
    have := St.setCells cs (vs.set o v) (o + 1) _ h1 (by simp at hl ⊢; omega)
    have e : (vs.set o v).take (o + 1) ++ cs ++ (vs.set o v).drop (o + 1 + cs.length) = vs.take o ++ (v :: cs) ++ vs.drop (o + (v :: cs).length) := by
      rw [List.take_succ_eq_append_getElem (by simpa using hlt), List.getElem_set_self, List.take_set_of_le (Nat.le_refl _), List.drop_set_of_lt (by omega)]
      simp only [List.append_assoc, List.cons_append, List.nil_append, List.length_cons]
      rw [show o + 1 + cs.length = o + (cs.length + 1) by omega]
    rw [e] at this
    exact this

/-- Stores a value of many cells over a whole block that is owned. -/
theorem y_storeAgg {t n : Nat} {x y : Operand} {b T : Nat} {cs vs : List Value} (hs : St σ w L) (ht : (P.info? t).map (·.size) = some n) (hx : ρ x = .pointer (some ⟨b, 0, none⟩)) (hy : ρ y = .agg cs.toArray)
    (h1 : ∀ v ∈ cs, v.oneCell' = true) (hn : cs.length = n) (hv : vs.length = n) (u : Up (cb b T vs) (cb b T cs) L L') (h : ∀ w', St σ w' L' → K undef w') :
    Does P ρ ⟨d, .store t x y, ty, pos, after, g⟩ w K := by
  obtain ⟨R, t1, t2⟩ := u.takes
  have hs1 := hs.take t1
  have hb := hs1.head
  have hthere : w.there b 0 cs.toArray.size := fun j hj => by
    have hj' : j < vs.length := by simp at hj; omega
    refine ⟨?_, frozen_of_row w b _ _ T hb⟩
    rw [cell_of_row w b _ _ T (0, 0) hb]
    simp [hj']
  refine .skip (w' := w.setCells b 0 cs) ?_ (h _ ?_)
  · have := run_storeAt_mid (P := P) w b 0 t cs.toArray hthere (by simpa [hn] using ht) (all_oneCell_toArray h1)
    simp only [execOp, hx, hy, Sem.run_bind, this, Result.andThen_ok, Sem.run_pure]
  · have := St.setCells cs vs 0 w hs1 (by omega)
    have e : vs.take 0 ++ cs ++ vs.drop (0 + cs.length) = cs := by simp; omega
    rw [e] at this
    exact this.give t2

theorem x_loadBlk {t n b T : Nat} {x : Operand} {vs : List Value} (hs : St σ w L) (ht : AgT P t n) (hx : ρ x = .pointer (some ⟨b, 0, none⟩)) (hn : vs.length = n) (tk : Take (cb b T vs) L R) :
    (execOp ρ ⟨d, .load t x, ty, pos, after, g⟩).run P w = .ok (.value (.agg vs.toArray)) w :=
  x_loadAgg ht hx hn fun j v hv => by
    have := hs.cell tk hv
    rwa [show (⟨b, 0, none⟩ : Addr).add j = ⟨b, j, none⟩ by unfold Addr.add; split <;> simp_all]
end
theorem r_1c {P : Program} {N : Nat} {a : Act} {w : World} {L : List (Nat × Value)} {fn : Func} {s t n b T : Nat} {vs : List Value} {σ : Sig} {L1 R1 : List Asrt} {R : Ending → World → Prop} (hf : Has N a L) (hr : fn.results = #[.cell s t])
    (hv : look L s = some (.pointer (some ⟨b, 0, none⟩))) (hs : St σ w L1) (ht : AgT P t n) (hn : vs.length = n) (tk : Take (cb b T vs) L1 R1) (h : R (.returned (.agg vs.toArray)) w) : bodyPost P fn R .ret a w := by
  refine bodyPost_ret ?_ hf.defers h
  have hl := run_loadCells_list (P := P) w ⟨b, 0, none⟩ vs (fun j v hv => by
    have := hs.cell tk hv
    rwa [show (⟨b, 0, none⟩ : Addr).add j = ⟨b, j, none⟩ by unfold Addr.add; split <;> simp_all])
  rw [hn] at hl
  unfold loadCells at hl
  simp [results, hr, hf.get s _ hv, asAddr, loadVar, go_sem, ht.agg, ht.size, hl]

/-! ### The moves as a map -/
theorem xor_add : ∀ (n q x : Nat), x < 2 ^ n → (q * 2 ^ n) ^^^ x = q * 2 ^ n + x
  | 0, q, x, h => by have : x = 0 := by simpa using h
                     subst this; simp
  | n + 1, q, x, h => by
    have e1 : q * 2 ^ (n + 1) = 2 * (q * 2 ^ n) := by rw [Nat.pow_succ, ← Nat.mul_assoc, Nat.mul_comm]
    have hx : x / 2 < 2 ^ n := by rw [Nat.pow_succ] at h; omega
    have ih := xor_add n q (x / 2) hx
    refine nat_ext2 ?_ ?_
    · rw [xor_div2, e1]
      have : 2 * (q * 2 ^ n) / 2 = q * 2 ^ n := by omega
      rw [this, ih]
      omega
    · rw [xor_mod2, e1]; omega

/-- The cells of what t moves make of each bit. -/
def arrL (t : Nat) : List Value := (List.range 32).map fun i => Value.int .u32 ((mvN t (2 ^ i) : Nat) : Int)
theorem arrL_len (t : Nat) : (arrL t).length = 32 := by simp [arrL]
theorem arrL_get (t : Nat) {i : Nat} (h : i < 32) : (arrL t)[i]? = some (.int .u32 ((mvN t (2 ^ i) : Nat) : Int)) := by simp [arrL, h]
theorem arrL_one (t : Nat) : ∀ v ∈ arrL t, v.oneCell' = true := by
  intro v hv
  obtain ⟨i, _, rfl⟩ := List.mem_map.1 hv
  rfl
/-- Half filled. -/
def arrP (t i : Nat) : List Value := (arrL t).take i ++ List.replicate (32 - i) (.int .u32 0)
theorem arrP_len (t : Nat) {i : Nat} (h : i ≤ 32) : (arrP t i).length = 32 := by simp [arrP, arrL]; omega
theorem arrP_set (t : Nat) {i : Nat} (h : i < 32) : (arrP t i).set i (.int .u32 ((mvN t (2 ^ i) : Nat) : Int)) = arrP t (i + 1) := by
  unfold arrP
  have e1 : ((arrL t).take i).length = i := by simp [arrL]; omega
  have hl := arrL_len t
  rw [List.set_append_right _ _ (by omega), e1, Nat.sub_self]
  obtain ⟨k, hk⟩ : ∃ k, 32 - i = k + 1 := ⟨32 - i - 1, by omega⟩
  rw [hk, List.replicate_succ, List.set_cons_zero, List.take_succ_eq_append_getElem (by omega), show 32 - (i + 1) = k by omega, List.append_assoc]
  have : (arrL t)[i]'(by omega) = .int .u32 ((mvN t (2 ^ i) : Nat) : Int) := by
    have := arrL_get t h
    rw [List.getElem?_eq_getElem (by omega)] at this
    exact Option.some.inj this
  rw [this]
  rfl
theorem arrP_0 (t : Nat) : arrP t 0 = List.replicate 32 (.int .u32 0) := rfl
theorem arrP_32 (t : Nat) : arrP t 32 = arrL t := by
  unfold arrP
  rw [List.take_of_length_le (by rw [arrL_len]; omega)]
  simp

theorem bit_step (r i : Nat) : r % 2 ^ (i + 1) = (if r / 2 ^ i % 2 = 1 then 2 ^ i ^^^ r % 2 ^ i else r % 2 ^ i) := by
  have h := Nat.mod_mul (x := r) (a := 2 ^ i) (b := 2)
  rw [← Nat.pow_succ] at h
  have hb : r / 2 ^ i % 2 = 0 ∨ r / 2 ^ i % 2 = 1 := by omega
  rcases hb with hb | hb
  · rw [if_neg (by omega), h, hb]; simp
  · rw [if_pos hb, h, hb]
    have := xor_add i 1 (r % 2 ^ i) (Nat.mod_lt _ (Nat.two_pow_pos i))
    rw [Nat.one_mul] at this
    rw [this]
    first | done | omega

/-! ### The product -/
/-- The highest k bits. -/
def top (a k : Nat) : Nat := a / 2 ^ (32 - k) * 2 ^ (32 - k)
theorem top_0 {a : Nat} (h : a < 4294967296) : top a 0 = 0 := by
  unfold top
  rw [Nat.div_eq_of_lt (by simpa using h), Nat.zero_mul]
theorem top_32 (a : Nat) : top a 32 = a := by simp [top]
theorem shl_bit (a : Nat) {k : Nat} (h : k < 32) : (2147483648 ≤ a * 2 ^ k % 4294967296 ↔ a / 2 ^ (31 - k) % 2 = 1) := by
  have e1 : 4294967296 = 2 ^ (31 - k) * 2 * 2 ^ k := by rw [← Nat.pow_succ, ← Nat.pow_add, show 31 - k + 1 + k = 32 by omega]
  have e2 : 2147483648 = 2 ^ (31 - k) * 2 ^ k := by rw [← Nat.pow_add, show 31 - k + k = 31 by omega]
  rw [e1, e2, Nat.mul_mod_mul_right, Nat.mul_le_mul_right_iff (Nat.two_pow_pos k), Nat.mod_mul]
  have h1 := Nat.mod_lt a (Nat.two_pow_pos (31 - k))
  have hb : a / 2 ^ (31 - k) % 2 = 0 ∨ a / 2 ^ (31 - k) % 2 = 1 := by omega
  rcases hb with hb | hb <;> rw [hb] <;> simp <;> omega
theorem top_step (a : Nat) {k : Nat} (h : k < 32) : top a (k + 1) = (if a / 2 ^ (31 - k) % 2 = 1 then top a k ^^^ 2 ^ (31 - k) else top a k) := by
  have e1 : 32 - (k + 1) = 31 - k := by omega
  have e2 : 32 - k = (31 - k) + 1 := by omega
  unfold top
  rw [e1, e2]
  generalize 31 - k = j
  have hd : a / 2 ^ (j + 1) = a / 2 ^ j / 2 := by rw [Nat.pow_succ, Nat.div_div_eq_div_mul]
  have hb : a / 2 ^ j % 2 = 0 ∨ a / 2 ^ j % 2 = 1 := by omega
  rw [hd]
  generalize a / 2 ^ j = q at *
  have e3 : q / 2 * 2 ^ (j + 1) = (q / 2 * 2) * 2 ^ j := by rw [Nat.pow_succ, Nat.mul_comm (2 ^ j) 2, Nat.mul_assoc]
  rcases hb with hb | hb
  · rw [if_neg (by omega), e3]
    congr 1; omega
  · rw [if_pos hb, xor_add (j + 1) (q / 2) (2 ^ j) (by rw [Nat.pow_succ]; have := Nat.two_pow_pos j; omega), e3, ← Nat.succ_mul]
    congr 1; omega
theorem mvN_one : ∀ k : Fin 32, mvN k.val 2147483648 = 2 ^ (31 - k.val) := by decide
theorem mvN_comm (m n r : Nat) : mvN m (mvN n r) = mvN n (mvN m r) := by rw [← mvN_add, ← mvN_add, Nat.add_comm]
/-- A step of the product by m moves of the one. -/
theorem prod_step (a m : Nat) {k : Nat} (h : k < 32) :
    mvN m (top a (k + 1)) = (if 2147483648 ≤ a * 2 ^ k % 4294967296 then mvN m (top a k) ^^^ mvN k (mvN m 2147483648) else mvN m (top a k)) := by
  rw [top_step a h]
  have := mvN_one ⟨k, h⟩
  simp only at this
  by_cases hb : a / 2 ^ (31 - k) % 2 = 1
  · rw [if_pos hb, if_pos ((shl_bit a h).2 hb), mvN_xor, mvN_comm k m, this]
  · rw [if_neg hb, if_neg (fun x => hb ((shl_bit a h).1 x))]
theorem shl_step (a k : Nat) : a * 2 ^ k % 4294967296 * 2 % 4294967296 = a * 2 ^ (k + 1) % 4294967296 := by
  rw [Nat.mod_mul_mod, Nat.pow_succ, Nat.mul_assoc]
end Vw
namespace Vw
open Go
theorem pw_odd {i j h c : Nat} (h1 : h % 2 = 1) (e : i + j * h = c) : (i + j) + (j + j) * (h / 2) = c := by
  obtain ⟨q, rfl⟩ : ∃ q, h = 2 * q + 1 := ⟨h / 2, by omega⟩
  rw [show (2 * q + 1) / 2 = q by omega, ← e]
  simp only [Nat.mul_add, Nat.add_mul, Nat.mul_one]
  rw [show j * (2 * q) = 2 * (j * q) by rw [Nat.mul_left_comm]]
  omega
theorem pw_even {i j h c : Nat} (h1 : ¬ h % 2 = 1) (e : i + j * h = c) : i + (j + j) * (h / 2) = c := by
  obtain ⟨q, rfl⟩ : ∃ q, h = 2 * q := ⟨h / 2, by omega⟩
  rw [show 2 * q / 2 = q by omega, ← e]
  simp only [Nat.add_mul]
  rw [show j * (2 * q) = 2 * (j * q) by rw [Nat.mul_left_comm]]
  omega
def joinR (a b : Nat) (n : Int) : Nat := if n < 0 ∨ 16777216 < n then 0 else mvN (8 * n.toNat) a ^^^ b
def joinE (n : Int) : Int := if n < 0 ∨ 16777216 < n then 1 else 0
theorem joinR_lt {a b : Nat} (ha : a < 4294967296) (hb : b < 4294967296) (n : Int) : joinR a b n < 4294967296 := by
  unfold joinR; split
  · decide
  · exact Nat.xor_lt_two_pow (n := 32) (mvN_lt _ ha) hb
section
variable {P : Program}
theorem r_shl1_u32 (t : TypeId) {yk : IntKind} {i : Nat} (hi : i < 32) (w : World) : (binOp .shl t (.int .u32 1) (.int yk (i : Int))).run P w = .ok (.int .u32 ((2 ^ i : Nat) : Int)) w := by
  rw [r_shl _ _ _ _ _ (by omega), wrap_u32]
  have e1 : min (Int.toNat (i : Int)) IntKind.u32.bits = i := by simp [IntKind.bits]; omega
  have e2 : (1 : Int) * 2 ^ i = ((2 ^ i : Nat) : Int) := by rw [Int.one_mul]; norm_cast
  have e3 : 2 ^ i < 4294967296 := Nat.pow_lt_pow_right (n := 32) (by omega) hi
  rw [e1, e2]
  generalize 2 ^ i = z at e3 ⊢
  rw [Int.emod_eq_of_lt (by omega) (by omega)]
theorem r_and1_i64 (t : TypeId) {h : Nat} (hh : h < 9223372036854775808) (w : World) : (binOp .and t (.int .i64 (h : Int)) (.int .i64 1)).run P w = .ok (.int .i64 ((h % 2 : Nat) : Int)) w := by
  have := bits_and (P := P) .i64 (x := h) (y := 1) (by simp only [IntKind.bits]; omega) (by simp only [IntKind.bits]; omega) w
  rw [and1, wrap_i64 (by omega) (by omega)] at this
  exact r_bits t .i64 _ _ _ this (.inl rfl)
theorem r_shr_i64 (t : TypeId) {yk : IntKind} {x j : Nat} (hj : j ≤ 64) (w : World) :
    (binOp .shr t (.int .i64 (x : Int)) (.int yk (j : Int))).run P w = .ok (.int .i64 ((x / 2 ^ j : Nat) : Int)) w := by
  rw [r_shr _ _ _ _ _ (by omega)]
  have e : (x : Int).fdiv (2 ^ (min (Int.toNat (j : Int)) IntKind.i64.bits)) = ((x / 2 ^ j : Nat) : Int) := by
    have e1 : min (Int.toNat (j : Int)) IntKind.i64.bits = j := by simp [IntKind.bits]; omega
    rw [e1, Int.fdiv_eq_ediv_of_nonneg _ (by exact_mod_cast Nat.zero_le (2 ^ j))]
    norm_cast
  rw [e]
end
theorem join_chain (a b c : Nat) (n m : Nat) : mvN (8 * m) (mvN (8 * n) a ^^^ b) ^^^ c = mvN (8 * (n + m)) a ^^^ (mvN (8 * m) b ^^^ c) := by
  rw [mvN_xor, ← mvN_add, ← Nat.mul_add, Nat.xor_assoc]
end Vw
