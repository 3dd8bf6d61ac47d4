/- The small proof library: bits, conversions, strings; a cursor and a buffer in memory. -/
import Derived.Test.YtehakfbfjpolfaaDoorVC
import Derived.Laws.BytesArg
import Derived.Laws.IdiomStrings
set_option linter.all false
namespace Vw
open Go

theorem wrap_u8 (n : Int) : IntKind.u8.wrap n = n % 256 := by simp [IntKind.wrap, IntKind.bits, IntKind.signed]
theorem wrap_u32 (n : Int) : IntKind.u32.wrap n = n % 4294967296 := by simp [IntKind.wrap, IntKind.bits, IntKind.signed]
theorem wrap_byte (x : UInt8) : IntKind.i64.wrap (x.toNat : Int) = x.toNat := wrap_i64 (by omega) (by have := x.toNat_lt; omega)

section
variable {P : Program} {ρ : Operand → Value} {K : Value → World → Prop} {w : World}
variable {d : Option Nat} {ty : TypeId} {pos : String} {after : Array Edge} {g : Option (Nat × Bool)}
variable {σ : Sig} {L L' R : List Asrt}

/-- A conversion between integer kinds, its result told. -/
theorem x_convr {s t : TypeId} {x : Operand} {k k' : IntKind} {n m : Int} {sd : TypeDesc} (h1 : P.underlying s = some sd) (h2 : P.underlying t = some (.int k)) (hx : ρ x = .int k' n) (hm : k.wrap n = m) (w : World) :
    (execOp ρ ⟨d, .convert s t x, ty, pos, after, g⟩).run P w = .ok (.value (.int k m)) w := by
  subst hm; exact x_conv h1 h2 hx w

theorem r_shl (t : TypeId) (k yk : IntKind) (m n : Int) (hn : 0 ≤ n) (w : World) : (binOp .shl t (.int k m) (.int yk n)).run P w = .ok (.int k (k.wrap (m * 2 ^ (min n.toNat k.bits)))) w := by
  have h : ¬ n < 0 := by omega
  simp [binOp, Op.shift, go_sem, h]
theorem r_shr (t : TypeId) (k yk : IntKind) (m n : Int) (hn : 0 ≤ n) (w : World) : (binOp .shr t (.int k m) (.int yk n)).run P w = .ok (.int k (m.fdiv (2 ^ (min n.toNat k.bits)))) w := by
  have h : ¬ n < 0 := by omega
  simp [binOp, Op.shift, go_sem, h]

/-- 'v << 8' of a number that bears it. -/
theorem r_shl8 (t : TypeId) {yk : IntKind} {m : Int} (h0 : 0 ≤ m) (h1 : m < 36028797018963968) (w : World) : (binOp .shl t (.int .i64 m) (.int yk 8)).run P w = .ok (.int .i64 (m * 256)) w := by
  rw [r_shl _ _ _ _ _ (by omega)]
  simp only [IntKind.bits]
  rw [show ((2 : Int) ^ (min (Int.toNat 8) 64)) = 256 by decide, wrap_i64 (by omega) (by omega)]

theorem r_bits {bo : BinOp} (t : TypeId) (k : IntKind) (m n r : Int) (hb : (Op.intBits bo k m n).run P w = .ok (.int k r) w) (ho : bo = .and ∨ bo = .or ∨ bo = .xor) : (binOp bo t (.int k m) (.int k n)).run P w = .ok (.int k r) w := by
  rcases ho with rfl | rfl | rfl <;> simpa [binOp] using hb

theorem bv_ofInt_nat (n x : Nat) : BitVec.ofInt n (x : Int) = BitVec.ofNat n x := by
  apply BitVec.eq_of_toNat_eq
  simp [BitVec.toNat_ofInt]

theorem bits_or (k : IntKind) {x y : Nat} (hx : x < 2 ^ k.bits) (hy : y < 2 ^ k.bits) (w : World) : (Op.intBits .or k x y).run P w = .ok (.int k (k.wrap ((x ||| y : Nat) : Int))) w := by
  simp only [Op.intBits, bv_ofInt_nat, BitVec.toNat_or, BitVec.toNat_ofNat, Nat.mod_eq_of_lt hx, Nat.mod_eq_of_lt hy]
  rfl
theorem bits_xor (k : IntKind) {x y : Nat} (hx : x < 2 ^ k.bits) (hy : y < 2 ^ k.bits) (w : World) : (Op.intBits .xor k x y).run P w = .ok (.int k (k.wrap ((x ^^^ y : Nat) : Int))) w := by
  simp only [Op.intBits, bv_ofInt_nat, BitVec.toNat_xor, BitVec.toNat_ofNat, Nat.mod_eq_of_lt hx, Nat.mod_eq_of_lt hy]
  rfl
theorem bits_and (k : IntKind) {x y : Nat} (hx : x < 2 ^ k.bits) (hy : y < 2 ^ k.bits) (w : World) : (Op.intBits .and k x y).run P w = .ok (.int k (k.wrap ((x &&& y : Nat) : Int))) w := by
  simp only [Op.intBits, bv_ofInt_nat, BitVec.toNat_and, BitVec.toNat_ofNat, Nat.mod_eq_of_lt hx, Nat.mod_eq_of_lt hy]
  rfl

/-- or of two naturals below 2^63. -/
theorem r_or_i64 (t : TypeId) {x y : Nat} (hx : x < 9223372036854775808) (hy : y < 9223372036854775808) (w : World) :
    (binOp .or t (.int .i64 (x : Int)) (.int .i64 (y : Int))).run P w = .ok (.int .i64 ((x ||| y : Nat) : Int)) w := by
  have h : x ||| y < 2 ^ 63 := Nat.or_lt_two_pow (by omega) (by omega)
  have := bits_or (P := P) .i64 (x := x) (y := y) (by simp only [IntKind.bits]; omega) (by simp only [IntKind.bits]; omega) w
  rw [wrap_i64 (by omega) (by omega)] at this
  exact r_bits t .i64 _ _ _ this (.inr (.inl rfl))

theorem or_256 (x b : Nat) (hb : b < 256) : (x * 256) ||| b = x * 256 + b := by
  rw [show x * 256 = x <<< 8 by rw [Nat.shiftLeft_eq], Nat.shiftLeft_add_eq_or_of_lt (by omega)]

/-- and, or, xor of naturals of 32 bits. -/
theorem r_xor_u32 (t : TypeId) {x y : Nat} (hx : x < 4294967296) (hy : y < 4294967296) (w : World) :
    (binOp .xor t (.int .u32 (x : Int)) (.int .u32 (y : Int))).run P w = .ok (.int .u32 ((x ^^^ y : Nat) : Int)) w := by
  have h : x ^^^ y < 2 ^ 32 := Nat.xor_lt_two_pow (by omega) (by omega)
  have := bits_xor (P := P) .u32 (x := x) (y := y) (by simp only [IntKind.bits]; omega) (by simp only [IntKind.bits]; omega) w
  rw [wrap_u32, Int.emod_eq_of_lt (by omega) (by omega)] at this
  exact r_bits t .u32 _ _ _ this (.inr (.inr rfl))
theorem r_and_u32 (t : TypeId) {x y : Nat} (hx : x < 4294967296) (hy : y < 4294967296) (w : World) :
    (binOp .and t (.int .u32 (x : Int)) (.int .u32 (y : Int))).run P w = .ok (.int .u32 ((x &&& y : Nat) : Int)) w := by
  have h : x &&& y < 2 ^ 32 := Nat.and_lt_two_pow _ (by omega)
  have := bits_and (P := P) .u32 (x := x) (y := y) (by simp only [IntKind.bits]; omega) (by simp only [IntKind.bits]; omega) w
  rw [wrap_u32, Int.emod_eq_of_lt (by omega) (by omega)] at this
  exact r_bits t .u32 _ _ _ this (.inl rfl)

/-- string(list of bytes) -/
theorem x_bytesStr {s t e : TypeId} {x : Operand} {a : Option Addr} {n c : Nat} {l : List UInt8} {w : World} (h1 : P.underlying s = some (.slice e)) (h2 : P.underlying t = some .string) (h3 : P.underlying e = some (.int .u8))
    (hx : ρ x = .slice a n c) (hr : RdB (hp w) (.slice a n c) l) :
    (execOp ρ ⟨d, .convert s t x, ty, pos, after, g⟩).run P w = .ok (.value (.string ⟨l.toArray⟩)) w := by
  have key : (convert s t (.slice a n c)).run P w = .ok (.string ⟨l.toArray⟩) w := by
    rcases hr.2 with ⟨c', e', hn⟩ | ⟨a', c', e', _, hc⟩
    · cases e'
      have : l = [] := List.eq_nil_of_length_eq_zero hn
      subst this
      exact run_convert_bytes_nil (w := w) s e h1 h3 _ _ t h2
    · cases e'
      exact run_convert_bytes_back w s t e a' c l h1 h3 h2 (fun j hj => hc j _ (by simp [hj, u8v]))
  simp only [execOp, hx, Sem.run_bind, key, Result.andThen_ok, Sem.run_pure]

theorem x_minI {x y : Operand} {k k' : IntKind} {m n : Int} {ts : Array TypeId} (hx : ρ x = .int k m) (hy : ρ y = .int k' n) (w : World) :
    (execOp ρ ⟨d, .call ⟨.builtin .min, #[x, y], ts⟩, ty, pos, after, g⟩).run P w = .ok (.value (.int k (min m n))) w := by
  have : (if n < m then n else m) = min m n := by omega
  simp [execOp, resolve, invoke, builtin, Builtin.min_, Builtin.min2, go_sem, hx, hy, this]
theorem x_maxI {x y : Operand} {k k' : IntKind} {m n : Int} {ts : Array TypeId} (hx : ρ x = .int k m) (hy : ρ y = .int k' n) (w : World) :
    (execOp ρ ⟨d, .call ⟨.builtin .max, #[x, y], ts⟩, ty, pos, after, g⟩).run P w = .ok (.value (.int k (max m n))) w := by
  have : (if m < n then n else m) = max m n := by omega
  simp [execOp, resolve, invoke, builtin, Builtin.max_, Builtin.max2, go_sem, hx, hy, this]
end

/-! ### A cursor in memory: its list, its place, its error -/

def curA (T E p : Nat) (data : List UInt8) (at_ : Nat) (bad : Int) : Asrt :=
  ex fun v => star (cb p T [v, .int .i64 at_, .int .i64 bad]) (slB E v data)

theorem curA_open {σ : Sig} {w : World} {R : List Asrt} {T E p : Nat} {data : List UInt8} {at_ : Nat} {bad : Int} (hs : St σ w (curA T E p data at_ bad :: R)) :
    ∃ v, St σ w (cb p T [v, .int .i64 at_, .int .i64 bad] :: slB E v data :: R) := by
  obtain ⟨v, hs⟩ := hs.ex
  exact ⟨v, hs.star⟩

theorem curA_close {σ : Sig} {w : World} {R : List Asrt} {T E p : Nat} {data : List UInt8} {at_ : Nat} {bad : Int} {v : Value} (hs : St σ w (cb p T [v, .int .i64 at_, .int .i64 bad] :: slB E v data :: R)) :
    St σ w (curA T E p data at_ bad :: R) := hs.unstar.imp fun h hh => ⟨v, hh⟩

/-- An owned slice's value, laid open. -/
theorem slB_shape {σ : Sig} {w : World} {R : List Asrt} {T : Nat} {v : Value} {l : List UInt8} (hs : St σ w (slB T v l :: R)) :
    ∃ a c, v = .slice a l.length c ∧ l.length ≤ c := by
  refine hs.see (p := ∃ a c, v = .slice a l.length c ∧ l.length ≤ c) fun h _ hh => ?_
  rcases hh.2 with ⟨e, hn⟩ | ⟨b, cap, cur, e, hnc, _⟩
  · exact ⟨none, 0, by rw [e, hn], by omega⟩
  · exact ⟨_, cap, e, hnc⟩

/-- What a cursor's call of n bytes does: the place, the error, how many bytes are told. -/
def nextC (len at_ : Nat) (bad n : Int) : Nat × Int × Nat :=
  if bad ≠ 0 then (at_, bad, 0) else if n < 0 then (at_, 1, 0) else if (len : Int) - at_ < n then (at_, 20, 0) else (at_ + n.toNat, 0, n.toNat)

/-- Bytes as a number, the lowest first. -/
def leN : List UInt8 → Nat
  | [] => 0
  | x :: r => x.toNat + 256 * leN r

theorem leN_lt : ∀ l : List UInt8, leN l < 256 ^ l.length
  | [] => by simp [leN]
  | x :: r => by
    have h1 := leN_lt r
    have h2 := x.toNat_lt
    simp only [leN, List.length_cons, Nat.pow_succ]
    omega
end Vw
namespace Vw
open Go
theorem St.emp {σ : Sig} {w : World} {L : List Asrt} {A : Asrt} (hs : St σ w L) (hA : ∀ h, A h) : St σ w (A :: L) := by
  obtain ⟨h, hh, hb⟩ := hs.has
  refine ⟨hs.kept, h, hh, fun _ => none, h, fun _ => .inl rfl, ?_, hle.refl _, hA _, hb⟩
  intro k o e
  cases e
theorem rdB_nil {h : Heaplet} {c : Nat} {l : List UInt8} (e : l = []) : RdB h (.slice none 0 c) l := by
  subst e; exact ⟨rfl, .inl ⟨c, rfl, rfl⟩⟩
theorem RdB.shape {h : Heaplet} {v : Value} {l : List UInt8} (r : RdB h v l) : ∃ a c, v = .slice a l.length c := by
  rcases r.2 with ⟨c, e, hn⟩ | ⟨a, c, e, _⟩
  · exact ⟨none, c, by rw [e, hn]⟩
  · exact ⟨_, c, e⟩
end Vw
namespace Vw
open Go
theorem RdB.some {h : Heaplet} {a : Option Addr} {n c : Nat} {l : List UInt8} (r : RdB h (.slice a n c) l) (hl : 0 < l.length) : ∃ a', a = some a' := by
  rcases r.2 with ⟨c', e, hn⟩ | ⟨a', c', e, _⟩
  · omega
  · cases e; exact ⟨a', rfl⟩
theorem leN_lt4 {l : List UInt8} (h : l.length ≤ 4) : leN l < 4294967296 := by
  have h1 := leN_lt l
  have h2 : 256 ^ l.length ≤ 256 ^ 4 := Nat.pow_le_pow_right (by omega) h
  omega
theorem leN_lt3 {l : List UInt8} (h : l.length ≤ 3) : leN l < 16777216 := by
  have h1 := leN_lt l
  have h2 : 256 ^ l.length ≤ 256 ^ 3 := Nat.pow_le_pow_right (by omega) h
  omega
theorem leN_drop {l : List UInt8} {k : Nat} (h : k < l.length) : leN (l.drop k) = l[k].toNat + 256 * leN (l.drop (k + 1)) := by
  rw [List.drop_eq_getElem_cons h]; rfl
theorem leN_append : ∀ (l r : List UInt8), leN (l ++ r) = leN l + 256 ^ l.length * leN r
  | [], r => by simp [leN]
  | x :: l, r => by
    simp only [List.cons_append, leN, leN_append l r, List.length_cons, Nat.pow_succ, Nat.mul_add]
    rw [show 256 ^ l.length * 256 * leN r = 256 * (256 ^ l.length * leN r) by rw [Nat.mul_comm (256 ^ l.length) 256, Nat.mul_assoc]]
    omega
theorem leN_take_succ {l : List UInt8} {k : Nat} (h : k < l.length) : leN (l.take (k + 1)) = leN (l.take k) + 256 ^ k * l[k].toNat := by
  rw [List.take_succ_eq_append_getElem h, leN_append]
  simp [leN, Nat.min_eq_left (Nat.le_of_lt h)]
theorem toNat_lt (x : UInt8) : x.toNat < 256 := x.toNat_lt
/-- Seek. -/
def seekC (len at_ : Nat) (bad n : Int) : Nat × Int :=
  if bad ≠ 0 then (at_, bad) else if n < 0 ∨ (len : Int) < n then (at_, 1) else (n.toNat, 0)
theorem nextC_le {len at_ : Nat} (bad n : Int) (h : at_ ≤ len) : (nextC len at_ bad n).1 ≤ len := by
  unfold nextC; split; exact h; split; exact h; split; exact h; simp; omega
theorem nextC_take {len at_ : Nat} (bad : Int) (n k : Nat) (h : n ≤ k) : (nextC len at_ bad n).2.2 ≤ k := by
  unfold nextC; split; exact Nat.zero_le _; split; exact Nat.zero_le _; split; exact Nat.zero_le _; simpa using h
theorem seekC_le {len at_ : Nat} (bad n : Int) (h : at_ ≤ len) : (seekC len at_ bad n).1 ≤ len := by
  unfold seekC; split; exact h; split; exact h; simp; omega
end Vw
namespace Vw
open Go
section
variable {P : Program} {ρ : Operand → Value} {K : Value → World → Prop} {w : World}
variable {d : Option Nat} {ty : TypeId} {pos : String} {after : Array Edge} {g : Option (Nat × Bool)}
variable {σ : Sig} {L L' R : List Asrt}

/-- A store into an owned slice of one-cell elements. -/
theorem St.setSl {T n c i : Nat} {a : Addr} {xs : List Value} {v : Value} (hs : St σ w (sl T 1 (.slice (some a) n c) n xs :: R)) (hi : i < n) :
    ∃ b cur, a = ⟨b, 0, none⟩ ∧ i < cur.length ∧ St σ w (cb b T cur :: R) ∧ ∀ w', St σ w' (cb b T (cur.set i v) :: R) → St σ w' (sl T 1 (.slice (some a) n c) n (xs.set i v) :: R) := by
  obtain ⟨hh, hhp, A0, r0, d0, la, lr, ha, hr0⟩ := hs.has
  obtain ⟨hlen, hc⟩ := ha
  rcases hc with ⟨e, _⟩ | ⟨b, cap, cur, e, e2, e3, e4, e5, e6⟩
  · cases e
  · cases e
    refine ⟨b, cur, rfl, by omega, ⟨hs.kept, hh, hhp, A0, r0, d0, la, lr, e6, hr0⟩, fun w' hs' => hs'.imp fun h hb => ⟨by simpa using hlen, .inr ⟨b, c, cur.set i v, rfl, e2, e3, by simpa using e4, ?_, hb⟩⟩⟩
    rw [← e5, List.take_set]

theorem y_storeSl {t T n c i : Nat} {x y : Operand} {a : Addr} {xs : List Value} {v : Value} (hs : St σ w L) (ht : ScT P t) (hx : ρ x = .pointer (some (a.add (i * 1)))) (hy : ρ y = v) (h1 : v.oneCell' = true)
    (up : Up (sl T 1 (.slice (some a) n c) n xs) (sl T 1 (.slice (some a) n c) n (xs.set i v)) L L') (hi : i < n) (h : ∀ w', St σ w' L' → K undef w') :
    Does P ρ ⟨d, .store t x y, ty, pos, after, g⟩ w K := by
  obtain ⟨R, t1, t2⟩ := up.takes
  obtain ⟨b, cur, rfl, hlt, hs', back⟩ := (hs.take t1).setSl (v := v) hi
  have hadd : (⟨b, 0, none⟩ : Addr).add (i * 1) = ⟨b, i, none⟩ := by rw [Nat.mul_one]; unfold Addr.add; split <;> simp_all
  rw [hadd] at hx
  exact y_store hs' ht hx hy h1 (.here _) hlt fun w' hs'' => h w' ((back w' hs'').give t2)

theorem slB_rd' {T : Nat} {v : Value} {l : List UInt8} {h : Heaplet} (hh : slB T v l h) : RdB h v l := slB_rd hh
end
end Vw
namespace Vw
open Go
/-- An owned slice that isn't empty: its block. -/
theorem slB_block {σ : Sig} {w : World} {R : List Asrt} {T : Nat} {v : Value} {l : List UInt8} (hs : St σ w (slB T v l :: R)) (hl : 0 < l.length) :
    ∃ b c, v = .slice (some ⟨b, 0, none⟩) l.length c ∧ l.length ≤ c := by
  refine hs.see (p := ∃ b c, v = .slice (some ⟨b, 0, none⟩) l.length c ∧ l.length ≤ c) fun h _ hh => ?_
  rcases hh.2 with ⟨e, hn⟩ | ⟨b, cap, cur, e, hnc, _⟩
  · omega
  · exact ⟨b, cap, e, hnc⟩
end Vw
namespace Vw
open Go
theorem mark_at (l ms : List UInt8) {i k : Nat} (hi : i = l.length + k) (h : i < (l ++ ms).length) (hk : k < ms.length) : (l ++ ms)[i] = ms[k] := by
  subst hi; simp
theorem mark_left (l ms : List UInt8) {i : Nat} (hi : i < l.length) (h : i < (l ++ ms).length) : (l ++ ms)[i] = l[i] := List.getElem_append_left hi
end Vw
namespace Vw
open Go
theorem sl_shape {σ : Sig} {w : World} {R : List Asrt} {T sz n : Nat} {v : Value} {xs : List Value} (hs : St σ w (sl T sz v n xs :: R)) : ∃ a c, v = .slice a n c := by
  refine hs.see (p := ∃ a c, v = .slice a n c) fun h _ hh => ?_
  rcases hh.2 with ⟨e, hn⟩ | ⟨b, cap, cur, e, _⟩
  · exact ⟨none, 0, by rw [e, hn]⟩
  · exact ⟨_, cap, e⟩
theorem sl_some {σ : Sig} {w : World} {R : List Asrt} {T sz n c : Nat} {a : Option Addr} {xs : List Value} (hs : St σ w (sl T sz (.slice a n c) n xs :: R)) (hn : 0 < n) : ∃ a', a = some a' := by
  refine hs.see (p := ∃ a', a = some a') fun h _ hh => ?_
  rcases hh.2 with ⟨e, hn⟩ | ⟨b, cap, cur, e, _⟩
  · omega
  · cases e; exact ⟨_, rfl⟩
/-- A new row, read. -/
theorem rd_row {b T n : Nat} {vs : List Value} {h : Heaplet} (hb : cb b T vs h) (hn : vs.length = n) : RdC h (.slice (some ⟨b, 0, none⟩) n n) 1 n vs := by
  refine ⟨by omega, .inr ⟨_, n, rfl, Nat.le_refl _, fun j u hu => ?_⟩⟩
  have hadd : (⟨b, 0, none⟩ : Addr).add j = ⟨b, j, none⟩ := by unfold Addr.add; split <;> simp_all
  rw [hadd]
  have hb' : h b = some (.cells vs.toArray T (0, 0)) := hb
  simp [cellH, hb', hu]
end Vw
namespace Vw
open Go
/-- A slice of structs, each told by its cells. -/
def RdS {α : Type} (f : α → List Value) (sz : Nat) (h : Heaplet) (v : Value) (l : List α) : Prop := RdC h v sz l.length (l.flatMap f)

theorem flatMap_get {α : Type} {f : α → List Value} {sz : Nat} (hf : ∀ x, (f x).length = sz) : ∀ (l : List α) (i j : Nat) (hi : i < l.length), j < sz → (l.flatMap f)[i * sz + j]? = (f l[i])[j]?
  | [], i, j, hi, _ => absurd hi (by simp)
  | x :: l, 0, j, _, hj => by
    simp only [List.flatMap_cons, Nat.zero_mul, Nat.zero_add, List.getElem_cons_zero]
    rw [List.getElem?_append_left (by rw [hf]; exact hj)]
  | x :: l, i + 1, j, hi, hj => by
    simp only [List.flatMap_cons, List.getElem_cons_succ]
    rw [List.getElem?_append_right (by rw [hf, Nat.succ_mul]; omega), hf, show (i + 1) * sz + j - sz = i * sz + j by rw [Nat.succ_mul]; omega]
    exact flatMap_get hf l i j (by simpa using hi) hj

theorem RdS.some {α : Type} {f : α → List Value} {sz : Nat} {h : Heaplet} {a : Option Addr} {n c : Nat} {l : List α} (r : RdS f sz h (.slice a n c) l) (hl : 0 < l.length) : ∃ a', a = some a' := by
  rcases r.2 with ⟨c', e, hn⟩ | ⟨a', c', e, _⟩
  · omega
  · cases e; exact ⟨a', rfl⟩

section
variable {P : Program} {ρ : Operand → Value} {w : World}
variable {d : Option Nat} {ty : TypeId} {pos : String} {after : Array Edge} {g : Option (Nat × Bool)}
theorem x_loadS {α : Type} {f : α → List Value} {sz t n c : Nat} {x : Operand} {a : Addr} {l : List α} {i : Int} (ht : AgT P t sz) (hf : ∀ x, (f x).length = sz) (hr : RdS f sz (hp w) (.slice (some a) n c) l)
    (hx : ρ x = .pointer (some (a.add (i.toNat * sz)))) (hi : i.toNat < l.length) :
    (execOp ρ ⟨d, .load t x, ty, pos, after, g⟩).run P w = .ok (.value (.agg (f l[i.toNat]).toArray)) w := by
  refine x_loadAgg ht hx (hf _) fun j v hj => ?_
  rcases hr.2 with ⟨c', e, hn⟩ | ⟨a', c', e, _, hc⟩
  · omega
  · cases e
    rw [Addr_add_add, cell_hp]
    refine hc _ _ ?_
    rw [flatMap_get hf l _ _ hi (by have := (List.getElem?_eq_some_iff.1 hj).1; rw [hf] at this; exact this)]
    exact hj
end
/-- A cursor's step. -/
def stepCur (len at_ : Nat) (bad kind n : Int) : Nat × Int :=
  let p (x : Nat × Int × Nat) : Nat × Int := (x.1, x.2.1)
  if kind = 1 then p (nextC len at_ bad 1) else if kind = 2 then p (nextC len at_ bad 2) else if kind = 3 then p (nextC len at_ bad 4)
  else if kind = 4 then p (nextC len at_ bad n) else if kind = 5 then p (nextC len at_ bad n) else if kind = 6 then seekC len at_ bad n else (at_, bad)
theorem stepCur_le {len at_ : Nat} (bad kind n : Int) (h : at_ ≤ len) : (stepCur len at_ bad kind n).1 ≤ len := by
  unfold stepCur
  repeat' (first | split | exact nextC_le _ _ h | exact seekC_le _ _ h | exact h)
end Vw
namespace Vw
open Go
theorem slB_take {T n c m : Nat} {a : Option Addr} {l : List UInt8} {h : Heaplet} (hh : slB T (.slice a n c) l h) (hm : m ≤ l.length) : slB T (.slice a m c) (l.take m) h := by
  have hl : (l.take m).length = m := by simp; omega
  obtain ⟨h1, h2⟩ := hh
  refine ⟨by simp, ?_⟩
  rw [hl]
  rcases h2 with ⟨e, hn⟩ | ⟨b, cap, cur, e, hnc, e3, e4, e5, e6⟩
  · cases e
    have hm0 : m = 0 := by omega
    subst hm0
    exact .inl ⟨rfl, rfl⟩
  · cases e
    refine .inr ⟨b, c, cur, rfl, by omega, e3, e4, ?_, e6⟩
    simp only [Nat.mul_one] at e5 ⊢
    rw [List.map_take, ← e5, List.take_take, Nat.min_eq_left hm]
end Vw
