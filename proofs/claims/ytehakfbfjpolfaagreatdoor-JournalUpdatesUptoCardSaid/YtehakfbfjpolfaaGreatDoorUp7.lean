/- Texts 7 of 17 that the law rests on: the small library, contracts of functions, printed by a program. -/
import Derived.Laws.BytesArg
import Derived.Laws.IdiomStrings
import Derived.Test.YtehakfbfjpolfaaGreatDoorUp1
import Derived.Test.YtehakfbfjpolfaaGreatDoorUp2
import Derived.Test.YtehakfbfjpolfaaGreatDoorUp3
import Derived.Test.YtehakfbfjpolfaaGreatDoorUp4
import Derived.Test.YtehakfbfjpolfaaGreatDoorUp5
import Derived.Test.YtehakfbfjpolfaaGreatDoorUp6
set_option maxRecDepth 100000
set_option linter.all false
namespace Vw
open Go
theorem wrap_u32 (n : Int) : IntKind.u32.wrap n = n % 4294967296 := by simp [IntKind.wrap, IntKind.bits, IntKind.signed]
theorem wrap_byte (x : UInt8) : IntKind.i64.wrap (x.toNat : Int) = x.toNat := wrap_i64 (by omega) (by have := x.toNat_lt; omega)
section
variable {P : Program} {ρ : Operand → Value} {K : Value → World → Prop} {w : World}
variable {d : Option Nat} {ty : TypeId} {pos : String} {after : Array Edge} {g : Option (Nat × Bool)}
variable {σ : Sig} {L L' R : List Asrt}
theorem x_convr {s t : TypeId} {x : Operand} {k k' : IntKind} {n m : Int} {sd : TypeDesc} (h1 : P.underlying s = some sd) (h2 : P.underlying t = some (.int k)) (hx : ρ x = .int k' n) (hm : k.wrap n = m) (w : World) :
    (execOp ρ ⟨d, .convert s t x, ty, pos, after, g⟩).run P w = .ok (.value (.int k m)) w := by
  subst hm; exact x_conv h1 h2 hx w
theorem r_shl (t : TypeId) (k yk : IntKind) (m n : Int) (hn : 0 ≤ n) (w : World) : (binOp .shl t (.int k m) (.int yk n)).run P w = .ok (.int k (k.wrap (m * 2 ^ (min n.toNat k.bits)))) w := by
  have h : ¬ n < 0 := by omega
  simp [binOp, Op.shift, go_sem, h]
theorem r_shr (t : TypeId) (k yk : IntKind) (m n : Int) (hn : 0 ≤ n) (w : World) : (binOp .shr t (.int k m) (.int yk n)).run P w = .ok (.int k (m.fdiv (2 ^ (min n.toNat k.bits)))) w := by
  have h : ¬ n < 0 := by omega
  simp [binOp, Op.shift, go_sem, h]
theorem r_shl8 (t : TypeId) {yk : IntKind} {m : Int} (h0 : 0 ≤ m) (h1 : m < 36028797018963968) (w : World) : (binOp .shl t (.int .i64 m) (.int yk 8)).run P w = .ok (.int .i64 (m * 256)) w := by
  rw [r_shl _ _ _ _ _ (by omega)]
  simp only [IntKind.bits]
  rw [show ((2 : Int) ^ (min (Int.toNat 8) 64)) = 256 by decide, wrap_i64 (by omega) (by omega)]
theorem r_bits {bo : BinOp} (t : TypeId) (k : IntKind) (m n r : Int) (hb : (Op.intBits bo k m n).run P w = .ok (.int k r) w) (ho : bo = .and ∨ bo = .or ∨ bo = .xor) : (binOp bo t (.int k m) (.int k n)).run P w = .ok (.int k r) w := by
  rcases ho with rfl | rfl | rfl <;> simpa [binOp] using hb
theorem bv_ofInt_nat (n x : Nat) : BitVec.ofInt n (x : Int) = BitVec.ofNat n x := by
  apply BitVec.eq_of_toNat_eq
  simp [BitVec.toNat_ofInt]
theorem bits_or (k : IntKind) {x y : Nat} (hx : x < 2 ^ k.bits) (hy : y < 2 ^ k.bits) (w : World) : (Op.intBits .or k x y).run P w = .ok (.int k (k.wrap ((x ||| y : Nat) : Int))) w := by
  simp only [Op.intBits, bv_ofInt_nat, BitVec.toNat_or, BitVec.toNat_ofNat, Nat.mod_eq_of_lt hx, Nat.mod_eq_of_lt hy]
  rfl
theorem bits_xor (k : IntKind) {x y : Nat} (hx : x < 2 ^ k.bits) (hy : y < 2 ^ k.bits) (w : World) : (Op.intBits .xor k x y).run P w = .ok (.int k (k.wrap ((x ^^^ y : Nat) : Int))) w := by
  simp only [Op.intBits, bv_ofInt_nat, BitVec.toNat_xor, BitVec.toNat_ofNat, Nat.mod_eq_of_lt hx, Nat.mod_eq_of_lt hy]
  rfl
theorem bits_and (k : IntKind) {x y : Nat} (hx : x < 2 ^ k.bits) (hy : y < 2 ^ k.bits) (w : World) : (Op.intBits .and k x y).run P w = .ok (.int k (k.wrap ((x &&& y : Nat) : Int))) w := by
  simp only [Op.intBits, bv_ofInt_nat, BitVec.toNat_and, BitVec.toNat_ofNat, Nat.mod_eq_of_lt hx, Nat.mod_eq_of_lt hy]
  rfl
theorem r_or_i64 (t : TypeId) {x y : Nat} (hx : x < 9223372036854775808) (hy : y < 9223372036854775808) (w : World) :
    (binOp .or t (.int .i64 (x : Int)) (.int .i64 (y : Int))).run P w = .ok (.int .i64 ((x ||| y : Nat) : Int)) w := by
  have h : x ||| y < 2 ^ 63 := Nat.or_lt_two_pow (by omega) (by omega)
  have := bits_or (P := P) .i64 (x := x) (y := y) (by simp only [IntKind.bits]; omega) (by simp only [IntKind.bits]; omega) w
  rw [wrap_i64 (by omega) (by omega)] at this
  exact r_bits t .i64 _ _ _ this (.inr (.inl rfl))
theorem or_256 (x b : Nat) (hb : b < 256) : (x * 256) ||| b = x * 256 + b := by
  rw [show x * 256 = x <<< 8 by rw [Nat.shiftLeft_eq], Nat.shiftLeft_add_eq_or_of_lt (by omega)]
theorem r_xor_u32 (t : TypeId) {x y : Nat} (hx : x < 4294967296) (hy : y < 4294967296) (w : World) :
    (binOp .xor t (.int .u32 (x : Int)) (.int .u32 (y : Int))).run P w = .ok (.int .u32 ((x ^^^ y : Nat) : Int)) w := by
  have h : x ^^^ y < 2 ^ 32 := Nat.xor_lt_two_pow (by omega) (by omega)
  have := bits_xor (P := P) .u32 (x := x) (y := y) (by simp only [IntKind.bits]; omega) (by simp only [IntKind.bits]; omega) w
  rw [wrap_u32, Int.emod_eq_of_lt (by omega) (by omega)] at this
  exact r_bits t .u32 _ _ _ this (.inr (.inr rfl))
theorem r_and_u32 (t : TypeId) {x y : Nat} (hx : x < 4294967296) (hy : y < 4294967296) (w : World) :
    (binOp .and t (.int .u32 (x : Int)) (.int .u32 (y : Int))).run P w = .ok (.int .u32 ((x &&& y : Nat) : Int)) w := by
  have h : x &&& y < 2 ^ 32 := Nat.and_lt_two_pow _ (by omega)
  have := bits_and (P := P) .u32 (x := x) (y := y) (by simp only [IntKind.bits]; omega) (by simp only [IntKind.bits]; omega) w
  rw [wrap_u32, Int.emod_eq_of_lt (by omega) (by omega)] at this
  exact r_bits t .u32 _ _ _ this (.inl rfl)
theorem x_bytesStr {s t e : TypeId} {x : Operand} {a : Option Addr} {n c : Nat} {l : List UInt8} {w : World} (h1 : P.underlying s = some (.slice e)) (h2 : P.underlying t = some .string) (h3 : P.underlying e = some (.int .u8))
    (hx : ρ x = .slice a n c) (hr : RdB (hp w) (.slice a n c) l) :
    (execOp ρ ⟨d, .convert s t x, ty, pos, after, g⟩).run P w = .ok (.value (.string ⟨l.toArray⟩)) w := by
  have key : (convert s t (.slice a n c)).run P w = .ok (.string ⟨l.toArray⟩) w := by
    rcases hr.2 with ⟨c', e', hn⟩ | ⟨a', c', e', _, hc⟩
    · cases e'
      have : l = [] := List.eq_nil_of_length_eq_zero hn
      subst this
      exact run_convert_bytes_nil (w := w) s e h1 h3 _ _ t h2
    · cases e'
      exact run_convert_bytes_back w s t e a' c l h1 h3 h2 (fun j hj => hc j _ (by simp [hj, u8v]))
  simp only [execOp, hx, Sem.run_bind, key, Result.andThen_ok, Sem.run_pure]
theorem x_minI {x y : Operand} {k k' : IntKind} {m n : Int} {ts : Array TypeId} (hx : ρ x = .int k m) (hy : ρ y = .int k' n) (w : World) :
    (execOp ρ ⟨d, .call ⟨.builtin .min, #[x, y], ts⟩, ty, pos, after, g⟩).run P w = .ok (.value (.int k (min m n))) w := by
  have : (if n < m then n else m) = min m n := by omega
  simp [execOp, resolve, invoke, builtin, Builtin.min_, Builtin.min2, go_sem, hx, hy, this]
theorem x_maxI {x y : Operand} {k k' : IntKind} {m n : Int} {ts : Array TypeId} (hx : ρ x = .int k m) (hy : ρ y = .int k' n) (w : World) :
    (execOp ρ ⟨d, .call ⟨.builtin .max, #[x, y], ts⟩, ty, pos, after, g⟩).run P w = .ok (.value (.int k (max m n))) w := by
  have : (if m < n then n else m) = max m n := by omega
  simp [execOp, resolve, invoke, builtin, Builtin.max_, Builtin.max2, go_sem, hx, hy, this]
end
def curA (T E p : Nat) (data : List UInt8) (at_ : Nat) (bad : Int) : Asrt :=
  ex fun v => star (cb p T [v, .int .i64 at_, .int .i64 bad]) (slB E v data)
theorem curA_open {σ : Sig} {w : World} {R : List Asrt} {T E p : Nat} {data : List UInt8} {at_ : Nat} {bad : Int} (hs : St σ w (curA T E p data at_ bad :: R)) :
    ∃ v, St σ w (cb p T [v, .int .i64 at_, .int .i64 bad] :: slB E v data :: R) := by
  obtain ⟨v, hs⟩ := hs.ex
  exact ⟨v, hs.star⟩
theorem curA_close {σ : Sig} {w : World} {R : List Asrt} {T E p : Nat} {data : List UInt8} {at_ : Nat} {bad : Int} {v : Value} (hs : St σ w (cb p T [v, .int .i64 at_, .int .i64 bad] :: slB E v data :: R)) :
    St σ w (curA T E p data at_ bad :: R) := hs.unstar.imp fun h hh => ⟨v, hh⟩
theorem slB_shape {σ : Sig} {w : World} {R : List Asrt} {T : Nat} {v : Value} {l : List UInt8} (hs : St σ w (slB T v l :: R)) :
    ∃ a c, v = .slice a l.length c ∧ l.length ≤ c := by
  refine hs.see (p := ∃ a c, v = .slice a l.length c ∧ l.length ≤ c) fun h _ hh => ?_
  rcases hh.2 with ⟨e, hn⟩ | ⟨b, cap, cur, e, hnc, _⟩
  · exact ⟨none, 0, by rw [e, hn], by omega⟩
  · exact ⟨_, cap, e, hnc⟩
def nextC (len at_ : Nat) (bad n : Int) : Nat × Int × Nat :=
  if bad ≠ 0 then (at_, bad, 0) else if n < 0 then (at_, 1, 0) else if (len : Int) - at_ < n then (at_, 20, 0) else (at_ + n.toNat, 0, n.toNat)
def leN : List UInt8 → Nat
  | [] => 0
  | x :: r => x.toNat + 256 * leN r
theorem leN_lt : ∀ l : List UInt8, leN l < 256 ^ l.length
  | [] => by simp [leN]
  | x :: r => by
    have h1 := leN_lt r
    have h2 := x.toNat_lt
    simp only [leN, List.length_cons, Nat.pow_succ]
    omega
end Vw
namespace Vw
open Go
theorem St.emp {σ : Sig} {w : World} {L : List Asrt} {A : Asrt} (hs : St σ w L) (hA : ∀ h, A h) : St σ w (A :: L) := by
  obtain ⟨h, hh, hb⟩ := hs.has
  refine ⟨hs.kept, h, hh, fun _ => none, h, fun _ => .inl rfl, ?_, hle.refl _, hA _, hb⟩
  intro k o e
  cases e
theorem rdB_nil {h : Heaplet} {c : Nat} {l : List UInt8} (e : l = []) : RdB h (.slice none 0 c) l := by
  subst e; exact ⟨rfl, .inl ⟨c, rfl, rfl⟩⟩
theorem RdB.shape {h : Heaplet} {v : Value} {l : List UInt8} (r : RdB h v l) : ∃ a c, v = .slice a l.length c := by
  rcases r.2 with ⟨c, e, hn⟩ | ⟨a, c, e, _⟩
  · exact ⟨none, c, by rw [e, hn]⟩
  · exact ⟨_, c, e⟩
end Vw
namespace Vw
open Go
theorem RdB.some {h : Heaplet} {a : Option Addr} {n c : Nat} {l : List UInt8} (r : RdB h (.slice a n c) l) (hl : 0 < l.length) : ∃ a', a = some a' := by
  rcases r.2 with ⟨c', e, hn⟩ | ⟨a', c', e, _⟩
  · omega
  · cases e; exact ⟨a', rfl⟩
theorem leN_lt4 {l : List UInt8} (h : l.length ≤ 4) : leN l < 4294967296 := by
  have h1 := leN_lt l
  have h2 : 256 ^ l.length ≤ 256 ^ 4 := Nat.pow_le_pow_right (by omega) h
  omega
theorem leN_lt3 {l : List UInt8} (h : l.length ≤ 3) : leN l < 16777216 := by
  have h1 := leN_lt l
  have h2 : 256 ^ l.length ≤ 256 ^ 3 := Nat.pow_le_pow_right (by omega) h
  omega
theorem leN_drop {l : List UInt8} {k : Nat} (h : k < l.length) : leN (l.drop k) = l[k].toNat + 256 * leN (l.drop (k + 1)) := by
  rw [List.drop_eq_getElem_cons h]; rfl
theorem toNat_lt (x : UInt8) : x.toNat < 256 := x.toNat_lt
def seekC (len at_ : Nat) (bad n : Int) : Nat × Int :=
  if bad ≠ 0 then (at_, bad) else if n < 0 ∨ (len : Int) < n then (at_, 1) else (n.toNat, 0)
theorem nextC_take {len at_ : Nat} (bad : Int) (n k : Nat) (h : n ≤ k) : (nextC len at_ bad n).2.2 ≤ k := by
  unfold nextC; split; exact Nat.zero_le _; split; exact Nat.zero_le _; split; exact Nat.zero_le _; simpa using h
end Vw
namespace Vw
open Go
section
variable {P : Program} {ρ : Operand → Value} {K : Value → World → Prop} {w : World}
variable {d : Option Nat} {ty : TypeId} {pos : String} {after : Array Edge} {g : Option (Nat × Bool)}
variable {σ : Sig} {L L' R : List Asrt}
theorem St.setSl {T n c i : Nat} {a : Addr} {xs : List Value} {v : Value} (hs : St σ w (sl T 1 (.slice (some a) n c) n xs :: R)) (hi : i < n) :
    ∃ b cur, a = ⟨b, 0, none⟩ ∧ i < cur.length ∧ St σ w (cb b T cur :: R) ∧ ∀ w', St σ w' (cb b T (cur.set i v) :: R) → St σ w' (sl T 1 (.slice (some a) n c) n (xs.set i v) :: R) := by
  obtain ⟨hh, hhp, A0, r0, d0, la, lr, ha, hr0⟩ := hs.has
  obtain ⟨hlen, hc⟩ := ha
  rcases hc with ⟨e, _⟩ | ⟨b, cap, cur, e, e2, e3, e4, e5, e6⟩
  · cases e
  · cases e
    refine ⟨b, cur, rfl, by omega, ⟨hs.kept, hh, hhp, A0, r0, d0, la, lr, e6, hr0⟩, fun w' hs' => hs'.imp fun h hb => ⟨by simpa using hlen, .inr ⟨b, c, cur.set i v, rfl, e2, e3, by simpa using e4, ?_, hb⟩⟩⟩
    rw [← e5, List.take_set]
theorem y_storeSl {t T n c i : Nat} {x y : Operand} {a : Addr} {xs : List Value} {v : Value} (hs : St σ w L) (ht : ScT P t) (hx : ρ x = .pointer (some (a.add (i * 1)))) (hy : ρ y = v) (h1 : v.oneCell' = true)
    (up : Up (sl T 1 (.slice (some a) n c) n xs) (sl T 1 (.slice (some a) n c) n (xs.set i v)) L L') (hi : i < n) (h : ∀ w', St σ w' L' → K undef w') :
    Does P ρ ⟨d, .store t x y, ty, pos, after, g⟩ w K := by
  obtain ⟨R, t1, t2⟩ := up.takes
  obtain ⟨b, cur, rfl, hlt, hs', back⟩ := (hs.take t1).setSl (v := v) hi
  have hadd : (⟨b, 0, none⟩ : Addr).add (i * 1) = ⟨b, i, none⟩ := by rw [Nat.mul_one]; unfold Addr.add; split <;> simp_all
  rw [hadd] at hx
  exact y_store hs' ht hx hy h1 (.here _) hlt fun w' hs'' => h w' ((back w' hs'').give t2)
end
end Vw
namespace Vw
open Go
theorem slB_block {σ : Sig} {w : World} {R : List Asrt} {T : Nat} {v : Value} {l : List UInt8} (hs : St σ w (slB T v l :: R)) (hl : 0 < l.length) :
    ∃ b c, v = .slice (some ⟨b, 0, none⟩) l.length c ∧ l.length ≤ c := by
  refine hs.see (p := ∃ b c, v = .slice (some ⟨b, 0, none⟩) l.length c ∧ l.length ≤ c) fun h _ hh => ?_
  rcases hh.2 with ⟨e, hn⟩ | ⟨b, cap, cur, e, hnc, _⟩
  · omega
  · exact ⟨b, cap, e, hnc⟩
end Vw
namespace Vw
open Go
theorem mark_at (l ms : List UInt8) {i k : Nat} (hi : i = l.length + k) (h : i < (l ++ ms).length) (hk : k < ms.length) : (l ++ ms)[i] = ms[k] := by
  subst hi; simp
theorem mark_left (l ms : List UInt8) {i : Nat} (hi : i < l.length) (h : i < (l ++ ms).length) : (l ++ ms)[i] = l[i] := List.getElem_append_left hi
end Vw
namespace Vw
open Go
theorem sl_shape {σ : Sig} {w : World} {R : List Asrt} {T sz n : Nat} {v : Value} {xs : List Value} (hs : St σ w (sl T sz v n xs :: R)) : ∃ a c, v = .slice a n c := by
  refine hs.see (p := ∃ a c, v = .slice a n c) fun h _ hh => ?_
  rcases hh.2 with ⟨e, hn⟩ | ⟨b, cap, cur, e, _⟩
  · exact ⟨none, 0, by rw [e, hn]⟩
  · exact ⟨_, cap, e⟩
theorem sl_some {σ : Sig} {w : World} {R : List Asrt} {T sz n c : Nat} {a : Option Addr} {xs : List Value} (hs : St σ w (sl T sz (.slice a n c) n xs :: R)) (hn : 0 < n) : ∃ a', a = some a' := by
  refine hs.see (p := ∃ a', a = some a') fun h _ hh => ?_
  rcases hh.2 with ⟨e, hn⟩ | ⟨b, cap, cur, e, _⟩
  · omega
  · cases e; exact ⟨_, rfl⟩
theorem rd_row {b T n : Nat} {vs : List Value} {h : Heaplet} (hb : cb b T vs h) (hn : vs.length = n) : RdC h (.slice (some ⟨b, 0, none⟩) n n) 1 n vs := by
  refine ⟨by omega, .inr ⟨_, n, rfl, Nat.le_refl _, fun j u hu => ?_⟩⟩
  have hadd : (⟨b, 0, none⟩ : Addr).add j = ⟨b, j, none⟩ := by unfold Addr.add; split <;> simp_all
  rw [hadd]
  have hb' : h b = some (.cells vs.toArray T (0, 0)) := hb
  simp [cellH, hb', hu]
end Vw
namespace Vw
open Go
def RdS {α : Type} (f : α → List Value) (sz : Nat) (h : Heaplet) (v : Value) (l : List α) : Prop := RdC h v sz l.length (l.flatMap f)
theorem flatMap_get {α : Type} {f : α → List Value} {sz : Nat} (hf : ∀ x, (f x).length = sz) : ∀ (l : List α) (i j : Nat) (hi : i < l.length), j < sz → (l.flatMap f)[i * sz + j]? = (f l[i])[j]?
  | [], i, j, hi, _ => absurd hi (by simp)
  | x :: l, 0, j, _, hj => by
    simp only [List.flatMap_cons, Nat.zero_mul, Nat.zero_add, List.getElem_cons_zero]
    rw [List.getElem?_append_left (by rw [hf]; exact hj)]
  | x :: l, i + 1, j, hi, hj => by
    simp only [List.flatMap_cons, List.getElem_cons_succ]
    rw [List.getElem?_append_right (by rw [hf, Nat.succ_mul]; omega), hf, show (i + 1) * sz + j - sz = i * sz + j by rw [Nat.succ_mul]; omega]
    exact flatMap_get hf l i j (by simpa using hi) hj
theorem RdS.some {α : Type} {f : α → List Value} {sz : Nat} {h : Heaplet} {a : Option Addr} {n c : Nat} {l : List α} (r : RdS f sz h (.slice a n c) l) (hl : 0 < l.length) : ∃ a', a = some a' := by
  rcases r.2 with ⟨c', e, hn⟩ | ⟨a', c', e, _⟩
  · omega
  · cases e; exact ⟨a', rfl⟩
section
variable {P : Program} {ρ : Operand → Value} {w : World}
variable {d : Option Nat} {ty : TypeId} {pos : String} {after : Array Edge} {g : Option (Nat × Bool)}
theorem x_loadS {α : Type} {f : α → List Value} {sz t n c : Nat} {x : Operand} {a : Addr} {l : List α} {i : Int} (ht : AgT P t sz) (hf : ∀ x, (f x).length = sz) (hr : RdS f sz (hp w) (.slice (some a) n c) l)
    (hx : ρ x = .pointer (some (a.add (i.toNat * sz)))) (hi : i.toNat < l.length) :
    (execOp ρ ⟨d, .load t x, ty, pos, after, g⟩).run P w = .ok (.value (.agg (f l[i.toNat]).toArray)) w := by
  refine x_loadAgg ht hx (hf _) fun j v hj => ?_
  rcases hr.2 with ⟨c', e, hn⟩ | ⟨a', c', e, _, hc⟩
  · omega
  · cases e
    rw [Addr_add_add, cell_hp]
    refine hc _ _ ?_
    rw [flatMap_get hf l _ _ hi (by have := (List.getElem?_eq_some_iff.1 hj).1; rw [hf] at this; exact this)]
    exact hj
end
def stepCur (len at_ : Nat) (bad kind n : Int) : Nat × Int :=
  let p (x : Nat × Int × Nat) : Nat × Int := (x.1, x.2.1)
  if kind = 1 then p (nextC len at_ bad 1) else if kind = 2 then p (nextC len at_ bad 2) else if kind = 3 then p (nextC len at_ bad 4)
  else if kind = 4 then p (nextC len at_ bad n) else if kind = 5 then p (nextC len at_ bad n) else if kind = 6 then seekC len at_ bad n else (at_, bad)
end Vw
namespace Vw
open Go
theorem slB_take {T n c m : Nat} {a : Option Addr} {l : List UInt8} {h : Heaplet} (hh : slB T (.slice a n c) l h) (hm : m ≤ l.length) : slB T (.slice a m c) (l.take m) h := by
  have hl : (l.take m).length = m := by simp; omega
  obtain ⟨h1, h2⟩ := hh
  refine ⟨by simp, ?_⟩
  rw [hl]
  rcases h2 with ⟨e, hn⟩ | ⟨b, cap, cur, e, hnc, e3, e4, e5, e6⟩
  · cases e
    have hm0 : m = 0 := by omega
    subst hm0
    exact .inl ⟨rfl, rfl⟩
  · cases e
    refine .inr ⟨b, c, cur, rfl, by omega, e3, e4, ?_, e6⟩
    simp only [Nat.mul_one] at e5 ⊢
    rw [List.map_take, ← e5, List.take_take, Nat.min_eq_left hm]
end Vw

namespace Vw
open Go
def mv (r : Nat) : Nat := (r / 2) ^^^ (if r % 2 = 1 then 3988292384 else 0)
def mvN : Nat → Nat → Nat
  | 0, r => r
  | n + 1, r => mvN n (mv r)
theorem xor_div2 (a b : Nat) : (a ^^^ b) / 2 = a / 2 ^^^ b / 2 := by
  have := @Nat.xor_div_two_pow a b 1
  simpa using this
theorem xor_mod2 (a b : Nat) : (a ^^^ b) % 2 = (a % 2 + b % 2) % 2 := by
  have h := @Nat.xor_mod_two_pow a b 1
  simp only [Nat.pow_one] at h
  rw [h]
  have ha : a % 2 = 0 ∨ a % 2 = 1 := by omega
  have hb : b % 2 = 0 ∨ b % 2 = 1 := by omega
  rcases ha with ha | ha <;> rcases hb with hb | hb <;> rw [ha, hb] <;> rfl
theorem mv_lt {r : Nat} (h : r < 4294967296) : mv r < 4294967296 := by
  unfold mv
  exact Nat.xor_lt_two_pow (n := 32) (by omega) (by split <;> decide)
theorem mv_xor (a b : Nat) : mv (a ^^^ b) = mv a ^^^ mv b := by
  unfold mv
  rw [xor_div2, xor_mod2]
  have ha : a % 2 = 0 ∨ a % 2 = 1 := by omega
  have hb : b % 2 = 0 ∨ b % 2 = 1 := by omega
  have e : ∀ x y z : Nat, x ^^^ y ^^^ z = (x ^^^ z) ^^^ y := fun x y z => by rw [Nat.xor_assoc, Nat.xor_comm y z, ← Nat.xor_assoc]
  rcases ha with ha | ha <;> rcases hb with hb | hb <;> simp only [ha, hb, Nat.add_zero, Nat.zero_add, Nat.reduceMod, Nat.reduceAdd, if_true, if_false, Nat.xor_zero, reduceCtorEq, Nat.zero_ne_one, Nat.zero_mod, Nat.reduceEqDiff]
  · rw [Nat.xor_assoc]
  · rw [e]
  · rw [Nat.xor_assoc (a / 2) 3988292384, ← Nat.xor_assoc 3988292384, Nat.xor_comm 3988292384 (b / 2), Nat.xor_assoc (b / 2), Nat.xor_self, Nat.xor_zero]
theorem mvN_xor : ∀ (n a b : Nat), mvN n (a ^^^ b) = mvN n a ^^^ mvN n b
  | 0, _, _ => rfl
  | n + 1, a, b => by simp only [mvN, mv_xor, mvN_xor n]
theorem mvN_lt : ∀ (n : Nat) {r : Nat}, r < 4294967296 → mvN n r < 4294967296
  | 0, _, h => h
  | n + 1, _, h => mvN_lt n (mv_lt h)
theorem mvN_add : ∀ (m n r : Nat), mvN (m + n) r = mvN n (mvN m r)
  | 0, n, r => by simp [mvN]
  | m + 1, n, r => by rw [Nat.succ_add]; simp only [mvN]; exact mvN_add m n _
theorem mvN_succ' (n r : Nat) : mvN (n + 1) r = mv (mvN n r) := mvN_add n 1 r
theorem mvN_split : ∀ (j q x : Nat), x < 2 ^ j → mvN j (q * 2 ^ j + x) = q ^^^ mvN j x
  | 0, q, x, h => by
    have : x = 0 := by simpa using h
    subst this; simp [mvN]
  | j + 1, q, x, h => by
    have e1 : (q * 2 ^ (j + 1) + x) / 2 = q * 2 ^ j + x / 2 := by rw [Nat.pow_succ, ← Nat.mul_assoc]; omega
    have e2 : (q * 2 ^ (j + 1) + x) % 2 = x % 2 := by rw [Nat.pow_succ, ← Nat.mul_assoc]; omega
    have e3 : x / 2 < 2 ^ j := by rw [Nat.pow_succ] at h; omega
    simp only [mvN]
    unfold mv
    rw [e1, e2, mvN_xor, mvN_split j q _ e3, Nat.xor_assoc, ← mvN_xor]
def tab16 : List Nat := [0x00000000, 0x1db71064, 0x3b6e20c8, 0x26d930ac, 0x76dc4190, 0x6b6b51f4, 0x4db26158, 0x5005713c, 0xedb88320, 0xf00f9344, 0xd6d6a3e8, 0xcb61b38c, 0x9b64c2b0, 0x86d3d2d4, 0xa00ae278, 0xbdbdf21c]
theorem tab16_mv : ∀ x : Fin 16, tab16[x.val]! = mvN 4 x.val := by decide
theorem tab16_get {x : Nat} (h : x < tab16.length) : tab16[x] = mvN 4 x := by
  have h' : x < 16 := h
  have := tab16_mv ⟨x, h'⟩
  rwa [getElem!_pos tab16 x h] at this
theorem tab16_lt {x : Nat} (h : x < tab16.length) : tab16[x] < 4294967296 := by
  rw [tab16_get h]; exact mvN_lt 4 (by have : x < 16 := h; omega)
theorem nib (r : Nat) (h : r % 16 < tab16.length) : (r / 16) ^^^ tab16[r % 16] = mvN 4 r := by
  rw [tab16_get h]
  have := mvN_split 4 (r / 16) (r % 16) (by omega)
  rw [← this]
  congr 1
  omega
def upd (r : Nat) : List UInt8 → Nat
  | [] => r
  | b :: l => upd (mvN 8 (r ^^^ b.toNat)) l
theorem upd_lt : ∀ (l : List UInt8) {r : Nat}, r < 4294967296 → upd r l < 4294967296
  | [], _, h => h
  | b :: l, r, h => upd_lt l (mvN_lt 8 (Nat.xor_lt_two_pow (n := 32) h (by have := b.toNat_lt; omega)))
theorem upd_append : ∀ (l m : List UInt8) (r : Nat), upd r (l ++ m) = upd (upd r l) m
  | [], _, _ => rfl
  | b :: l, m, r => by simp only [List.cons_append, upd]; exact upd_append l m _
theorem upd_take_succ {l : List UInt8} {i : Nat} (h : i < l.length) (r : Nat) : upd r (l.take (i + 1)) = mvN 8 (upd r (l.take i) ^^^ l[i].toNat) := by
  rw [List.take_succ_eq_append_getElem h, upd_append]; rfl
def crcU (s : Nat) (l : List UInt8) : Nat := 4294967295 ^^^ upd (4294967295 ^^^ s) l
theorem not_lt {n : Nat} (h : n < 4294967296) : 4294967295 ^^^ n < 4294967296 := Nat.xor_lt_two_pow (n := 32) (by decide) h
theorem crcU_lt {s : Nat} (h : s < 4294967296) (l : List UInt8) : crcU s l < 4294967296 := not_lt (upd_lt l (not_lt h))
section
variable {P : Program} {ρ : Operand → Value} {w : World}
variable {d : Option Nat} {ty : TypeId} {pos : String} {after : Array Edge} {g : Option (Nat × Bool)}
theorem x_notU {t : TypeId} {x : Operand} {n : Nat} (hx : ρ x = .int .u32 (n : Int)) (hn : n < 4294967296) (w : World) :
    (execOp ρ ⟨d, .unOp .xor t x, ty, pos, after, g⟩).run P w = .ok (.value (.int .u32 ((4294967295 ^^^ n : Nat) : Int))) w := by
  have h := not_lt hn
  have := bits_xor (P := P) .u32 (x := 4294967295) (y := n) (by simp only [IntKind.bits]; omega) (by simp only [IntKind.bits]; omega) w
  rw [wrap_u32, Int.emod_eq_of_lt (by omega) (by omega)] at this
  have e : (Op.unary UnOp.xor (Value.int IntKind.u32 (n : Int))).run P w = .ok (.int .u32 ((4294967295 ^^^ n : Nat) : Int)) w := this
  simp only [execOp, hx, Sem.run_bind, e, Result.andThen_ok, Sem.run_pure]
theorem r_shr_u32 (t : TypeId) {yk : IntKind} {x j : Nat} (hj : j ≤ 32) (w : World) :
    (binOp .shr t (.int .u32 (x : Int)) (.int yk (j : Int))).run P w = .ok (.int .u32 ((x / 2 ^ j : Nat) : Int)) w := by
  rw [r_shr _ _ _ _ _ (by omega)]
  have e : (x : Int).fdiv (2 ^ (min (Int.toNat (j : Int)) IntKind.u32.bits)) = ((x / 2 ^ j : Nat) : Int) := by
    have e1 : min (Int.toNat (j : Int)) IntKind.u32.bits = j := by simp [IntKind.bits]; omega
    rw [e1, Int.fdiv_eq_ediv_of_nonneg _ (by exact_mod_cast Nat.zero_le (2 ^ j))]
    norm_cast
  rw [e]
theorem and15 (x : Nat) : x &&& 15 = x % 16 := Nat.and_two_pow_sub_one_eq_mod x 4
theorem x_indexArr {t e : TypeId} {n sz : Nat} {x y : Operand} {a : Addr} {k : IntKind} {i : Int} (ht : P.underlying t = some (.array n e)) (hsz : (P.info? e).map (·.size) = some sz)
    (hx : ρ x = .pointer (some a)) (hy : ρ y = .int k i) (h0 : 0 ≤ i) (h1 : i < n) (w : World) :
    (execOp ρ ⟨d, .indexAddr t x y, ty, pos, after, g⟩).run P w = .ok (.value (.pointer (some (a.add (i.toNat * sz))))) w := by
  obtain ⟨inf, h2, h3⟩ := Option.map_eq_some_iff.1 hsz
  simp [execOp, Instr.indexAt, asIntOf, go_sem, hx, hy, run_underlying ht, Go.sizeOf, typeInfo, h2, h3, h0, h1]
end
end Vw
namespace Vw
open Go
def Tab (g : Nat) (h : Heaplet) : Prop := ∀ (x : Nat) (hx : x < tab16.length), cellH h ⟨g, x, none⟩ = some (.int .u32 ((tab16[x] : Nat) : Int))
theorem tab_cell {g : Nat} {w0 w : World} {L : List Asrt} (hT : Tab g (hp w0)) (hs : St ⟨w0, None_⟩ w L) {x : Nat} (hx : x < tab16.length) : w.cell? ⟨g, x, none⟩ = some (.int .u32 ((tab16[x] : Nat) : Int)) := by
  rw [cell_hp]; exact cellH_mono hs.kept.hle (hT x hx)
theorem Tab.kept {g : Nat} {w w' : World} (hT : Tab g (hp w)) (hk : Kept w w' None_) : Tab g (hp w') := fun x hx => cellH_mono hk.hle (hT x hx)
theorem addr0 (b n : Nat) : (⟨b, 0, none⟩ : Addr).add ((n : Int).toNat * 1) = ⟨b, n, none⟩ := by unfold Addr.add; split <;> simp_all
theorem mvN44 (x : Nat) : mvN 4 (mvN 4 x) = mvN 8 x := (mvN_add 4 4 x).symm
end Vw
namespace Vw
open Go
theorem RdB.cap {h : Heaplet} {a : Option Addr} {n c : Nat} {l : List UInt8} (r : RdB h (.slice a n c) l) : n ≤ c := by
  rcases r.2 with ⟨c', e, hn⟩ | ⟨a', c', e, hc, _⟩
  · injection e with _ e2 _; omega
  · injection e with _ e2 e3; omega
end Vw
