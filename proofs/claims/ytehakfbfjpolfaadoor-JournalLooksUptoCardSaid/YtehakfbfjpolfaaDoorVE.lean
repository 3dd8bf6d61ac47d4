/- The small proof library: the sum's register, as plain numbers. -/
import Derived.Test.YtehakfbfjpolfaaDoorVD
set_option linter.all false
namespace Vw
open Go

def mv (r : Nat) : Nat := (r / 2) ^^^ (if r % 2 = 1 then 3988292384 else 0)
def mvN : Nat → Nat → Nat
  | 0, r => r
  | n + 1, r => mvN n (mv r)

theorem xor_div2 (a b : Nat) : (a ^^^ b) / 2 = a / 2 ^^^ b / 2 := by
  have := @Nat.xor_div_two_pow a b 1
  simpa using this
theorem xor_mod2 (a b : Nat) : (a ^^^ b) % 2 = (a % 2 + b % 2) % 2 := by
  have h := @Nat.xor_mod_two_pow a b 1
  simp only [Nat.pow_one] at h
  rw [h]
  have ha : a % 2 = 0 ∨ a % 2 = 1 := by omega
  have hb : b % 2 = 0 ∨ b % 2 = 1 := by omega
  rcases ha with ha | ha <;> rcases hb with hb | hb <;> rw [ha, hb] <;> rfl
theorem nat_ext2 {a b : Nat} (h1 : a / 2 = b / 2) (h2 : a % 2 = b % 2) : a = b := by omega

theorem mv_lt {r : Nat} (h : r < 4294967296) : mv r < 4294967296 := by
  unfold mv
  exact Nat.xor_lt_two_pow (n := 32) (by omega) (by split <;> decide)
theorem mv_xor (a b : Nat) : mv (a ^^^ b) = mv a ^^^ mv b := by
  unfold mv
  rw [xor_div2, xor_mod2]
  have ha : a % 2 = 0 ∨ a % 2 = 1 := by omega
  have hb : b % 2 = 0 ∨ b % 2 = 1 := by omega
  have e : ∀ x y z : Nat, x ^^^ y ^^^ z = (x ^^^ z) ^^^ y := fun x y z => by rw [Nat.xor_assoc, Nat.xor_comm y z, ← Nat.xor_assoc]
  rcases ha with ha | ha <;> rcases hb with hb | hb <;> simp only [ha, hb, Nat.add_zero, Nat.zero_add, Nat.reduceMod, Nat.reduceAdd, if_true, if_false, Nat.xor_zero, reduceCtorEq, Nat.zero_ne_one, Nat.zero_mod, Nat.reduceEqDiff]
  · rw [Nat.xor_assoc]
  · rw [e]
  · rw [Nat.xor_assoc (a / 2) 3988292384, ← Nat.xor_assoc 3988292384, Nat.xor_comm 3988292384 (b / 2), Nat.xor_assoc (b / 2), Nat.xor_self, Nat.xor_zero]
theorem mvN_xor : ∀ (n a b : Nat), mvN n (a ^^^ b) = mvN n a ^^^ mvN n b
  | 0, _, _ => rfl
  | n + 1, a, b => by simp only [mvN, mv_xor, mvN_xor n]
theorem mvN_lt : ∀ (n : Nat) {r : Nat}, r < 4294967296 → mvN n r < 4294967296
  | 0, _, h => h
  | n + 1, _, h => mvN_lt n (mv_lt h)
theorem mvN_add : ∀ (m n r : Nat), mvN (m + n) r = mvN n (mvN m r)
  | 0, n, r => by simp [mvN]
  | m + 1, n, r => by rw [Nat.succ_add]; simp only [mvN]; exact mvN_add m n _
theorem mv_zero : mv 0 = 0 := by decide
theorem mvN_zero : ∀ n, mvN n 0 = 0
  | 0 => rfl
  | n + 1 => by simp only [mvN, mv_zero]; exact mvN_zero n
theorem mvN_succ' (n r : Nat) : mvN (n + 1) r = mv (mvN n r) := mvN_add n 1 r

theorem mvN_split : ∀ (j q x : Nat), x < 2 ^ j → mvN j (q * 2 ^ j + x) = q ^^^ mvN j x
  | 0, q, x, h => by
    have : x = 0 := by simpa using h
    subst this; simp [mvN]
  | j + 1, q, x, h => by
    have e1 : (q * 2 ^ (j + 1) + x) / 2 = q * 2 ^ j + x / 2 := by rw [Nat.pow_succ, ← Nat.mul_assoc]; omega
    have e2 : (q * 2 ^ (j + 1) + x) % 2 = x % 2 := by rw [Nat.pow_succ, ← Nat.mul_assoc]; omega
    have e3 : x / 2 < 2 ^ j := by rw [Nat.pow_succ] at h; omega
    simp only [mvN]
    unfold mv
    rw [e1, e2, mvN_xor, mvN_split j q _ e3, Nat.xor_assoc, ← mvN_xor]

/-- What four moves make of half a byte. -/
def tab16 : List Nat := [0x00000000, 0x1db71064, 0x3b6e20c8, 0x26d930ac, 0x76dc4190, 0x6b6b51f4, 0x4db26158, 0x5005713c, 0xedb88320, 0xf00f9344, 0xd6d6a3e8, 0xcb61b38c, 0x9b64c2b0, 0x86d3d2d4, 0xa00ae278, 0xbdbdf21c]
theorem tab16_mv : ∀ x : Fin 16, tab16[x.val]! = mvN 4 x.val := by decide
theorem tab16_get {x : Nat} (h : x < tab16.length) : tab16[x] = mvN 4 x := by
  have h' : x < 16 := h
  have := tab16_mv ⟨x, h'⟩
  rwa [getElem!_pos tab16 x h] at this
theorem tab16_lt {x : Nat} (h : x < tab16.length) : tab16[x] < 4294967296 := by
  rw [tab16_get h]; exact mvN_lt 4 (by have : x < 16 := h; omega)
theorem nib (r : Nat) (h : r % 16 < tab16.length) : (r / 16) ^^^ tab16[r % 16] = mvN 4 r := by
  rw [tab16_get h]
  have := mvN_split 4 (r / 16) (r % 16) (by omega)
  rw [← this]
  congr 1
  omega

/-- The register behind bytes. -/
def upd (r : Nat) : List UInt8 → Nat
  | [] => r
  | b :: l => upd (mvN 8 (r ^^^ b.toNat)) l
theorem upd_lt : ∀ (l : List UInt8) {r : Nat}, r < 4294967296 → upd r l < 4294967296
  | [], _, h => h
  | b :: l, r, h => upd_lt l (mvN_lt 8 (Nat.xor_lt_two_pow (n := 32) h (by have := b.toNat_lt; omega)))
theorem upd_append : ∀ (l m : List UInt8) (r : Nat), upd r (l ++ m) = upd (upd r l) m
  | [], _, _ => rfl
  | b :: l, m, r => by simp only [List.cons_append, upd]; exact upd_append l m _
theorem upd_take_succ {l : List UInt8} {i : Nat} (h : i < l.length) (r : Nat) : upd r (l.take (i + 1)) = mvN 8 (upd r (l.take i) ^^^ l[i].toNat) := by
  rw [List.take_succ_eq_append_getElem h, upd_append]; rfl
def crcU (s : Nat) (l : List UInt8) : Nat := 4294967295 ^^^ upd (4294967295 ^^^ s) l
theorem not_lt {n : Nat} (h : n < 4294967296) : 4294967295 ^^^ n < 4294967296 := Nat.xor_lt_two_pow (n := 32) (by decide) h
theorem crcU_lt {s : Nat} (h : s < 4294967296) (l : List UInt8) : crcU s l < 4294967296 := not_lt (upd_lt l (not_lt h))

section
variable {P : Program} {ρ : Operand → Value} {w : World}
variable {d : Option Nat} {ty : TypeId} {pos : String} {after : Array Edge} {g : Option (Nat × Bool)}
theorem x_notU {t : TypeId} {x : Operand} {n : Nat} (hx : ρ x = .int .u32 (n : Int)) (hn : n < 4294967296) (w : World) :
    (execOp ρ ⟨d, .unOp .xor t x, ty, pos, after, g⟩).run P w = .ok (.value (.int .u32 ((4294967295 ^^^ n : Nat) : Int))) w := by
  have h := not_lt hn
  have := bits_xor (P := P) .u32 (x := 4294967295) (y := n) (by simp only [IntKind.bits]; omega) (by simp only [IntKind.bits]; omega) w
  rw [wrap_u32, Int.emod_eq_of_lt (by omega) (by omega)] at this
  have e : (Op.unary UnOp.xor (Value.int IntKind.u32 (n : Int))).run P w = .ok (.int .u32 ((4294967295 ^^^ n : Nat) : Int)) w := this
  simp only [execOp, hx, Sem.run_bind, e, Result.andThen_ok, Sem.run_pure]
theorem r_shr_u32 (t : TypeId) {yk : IntKind} {x j : Nat} (hj : j ≤ 32) (w : World) :
    (binOp .shr t (.int .u32 (x : Int)) (.int yk (j : Int))).run P w = .ok (.int .u32 ((x / 2 ^ j : Nat) : Int)) w := by
  rw [r_shr _ _ _ _ _ (by omega)]
  have e : (x : Int).fdiv (2 ^ (min (Int.toNat (j : Int)) IntKind.u32.bits)) = ((x / 2 ^ j : Nat) : Int) := by
    have e1 : min (Int.toNat (j : Int)) IntKind.u32.bits = j := by simp [IntKind.bits]; omega
    rw [e1, Int.fdiv_eq_ediv_of_nonneg _ (by exact_mod_cast Nat.zero_le (2 ^ j))]
    norm_cast
  rw [e]
theorem and15 (x : Nat) : x &&& 15 = x % 16 := Nat.and_two_pow_sub_one_eq_mod x 4
theorem and1 (x : Nat) : x &&& 1 = x % 2 := Nat.and_two_pow_sub_one_eq_mod x 1
theorem x_indexArr {t e : TypeId} {n sz : Nat} {x y : Operand} {a : Addr} {k : IntKind} {i : Int} (ht : P.underlying t = some (.array n e)) (hsz : (P.info? e).map (·.size) = some sz)
    (hx : ρ x = .pointer (some a)) (hy : ρ y = .int k i) (h0 : 0 ≤ i) (h1 : i < n) (w : World) :
    (execOp ρ ⟨d, .indexAddr t x y, ty, pos, after, g⟩).run P w = .ok (.value (.pointer (some (a.add (i.toNat * sz))))) w := by
  obtain ⟨inf, h2, h3⟩ := Option.map_eq_some_iff.1 hsz
  simp [execOp, Instr.indexAt, asIntOf, go_sem, hx, hy, run_underlying ht, Go.sizeOf, typeInfo, h2, h3, h0, h1]
end
end Vw
namespace Vw
open Go
/-- The table in memory. -/
def Tab (g : Nat) (h : Heaplet) : Prop := ∀ (x : Nat) (hx : x < tab16.length), cellH h ⟨g, x, none⟩ = some (.int .u32 ((tab16[x] : Nat) : Int))
theorem tab_cell {g : Nat} {w0 w : World} {L : List Asrt} (hT : Tab g (hp w0)) (hs : St ⟨w0, None_⟩ w L) {x : Nat} (hx : x < tab16.length) : w.cell? ⟨g, x, none⟩ = some (.int .u32 ((tab16[x] : Nat) : Int)) := by
  rw [cell_hp]; exact cellH_mono hs.kept.hle (hT x hx)
theorem Tab.kept {g : Nat} {w w' : World} (hT : Tab g (hp w)) (hk : Kept w w' None_) : Tab g (hp w') := fun x hx => cellH_mono hk.hle (hT x hx)
theorem addr0 (b n : Nat) : (⟨b, 0, none⟩ : Addr).add ((n : Int).toNat * 1) = ⟨b, n, none⟩ := by unfold Addr.add; split <;> simp_all
theorem mvN44 (x : Nat) : mvN 4 (mvN 4 x) = mvN 8 x := (mvN_add 4 4 x).symm
end Vw
namespace Vw
open Go
section
variable {P : Program} {ρ : Operand → Value} {K : Value → World → Prop} {w : World}
variable {d : Option Nat} {ty : TypeId} {pos : String} {after : Array Edge} {g : Option (Nat × Bool)}
variable {σ : Sig} {L R : List Asrt}
/-- copy into the beginning of an owned slice of bytes, or into all of it. -/
theorem y_copySl {t u e by_ n c b T dn dc : Nat} {z : Value} {x y : Operand} {l s : List UInt8} {sv : Value} (hs : St σ w L) (ht : SlT P t e 1 by_ z)
    (hx : ρ x = .slice (some ⟨b, 0, none⟩) dn dc) (hy : ρ y = sv) (tk : Take (slB T (.slice (some ⟨b, 0, none⟩) n c) l) L R) (hr : RdB (hp w) sv s) (hdn : dn = s.length) (hn : dn ≤ n) (hl : l.length = n)
    (h : ∀ w', St σ w' (slB T (.slice (some ⟨b, 0, none⟩) n c) (s ++ l.drop s.length) :: R) → K (.int .i64 (s.length : Nat)) w') :
    Does P ρ ⟨d, .call ⟨.builtin .copy, #[x, y], #[t, u]⟩, ty, pos, after, g⟩ w K := by
  have hs1 := hs.take tk
  replace hs1 : St σ w (ex (fun cur : List Value => star (pure_ (n ≤ c ∧ c ≤ maxLen ∧ cur.length = c * 1 ∧ cur.take (n * 1) = l.map u8v)) (cb b T cur)) :: R) := hs1.imp fun h hh => by
    obtain ⟨_, hh⟩ := hh
    rcases hh with ⟨e, _⟩ | ⟨b', cap, cur, e, h1, h2, h3, h4, h5⟩
    · cases e
    · injection e with e1 e2 e3
      injection e1 with e1
      injection e1 with e1
      subst e1 e3
      rw [hl] at h1 h4
      exact ⟨cur, fun _ => none, h, fun _ => .inl rfl, (fun k o e => by cases e), hle.refl _, ⟨h1, h2, h3, h4⟩, h5⟩
  obtain ⟨cur, hs1⟩ := hs1.ex
  obtain ⟨⟨h1, h2, h3, h4⟩, hs1⟩ := hs1.pure_
  simp only [Nat.mul_one] at h3 h4
  have hmin : min s.length dn = s.length := by omega
  refine y_copy (o := 0) (sn := s.length) (xs := s.map u8v) (T := T) (vs := cur) hs1 ht hx hy (fun _ => rfl) hr (oneCell_of_bytes _) (.here _) (by omega) fun w' hs' => ?_
  rw [hmin] at hs' ⊢
  refine h w' (hs'.imp fun h hb => ?_)
  have hlen : (s ++ l.drop s.length).length = n := by simp; omega
  refine ⟨by simp, .inr ⟨b, c, _, by rw [hlen], by rw [hlen]; exact h1, h2, ?_, ?_, hb⟩⟩
  · simp; omega
  · rw [hlen, Nat.mul_one]
    simp only [List.take_zero, List.nil_append, Nat.zero_add, List.map_append]
    rw [List.take_append]
    have e1 : List.take n (List.take s.length (s.map u8v)) = s.map u8v := by rw [List.take_of_length_le (l := s.map u8v) (by simp), List.take_of_length_le (by simp; omega)]
    rw [e1]
    congr 1
    rw [List.map_drop, ← h4, List.take_of_length_le (l := s.map u8v) (by simp), List.drop_take]
    simp
/-- xor of bytes. -/
theorem r_xor_u8 (t : TypeId) (x y : UInt8) (w : World) : (binOp .xor t (u8v x) (u8v y)).run P w = .ok (u8v (x ^^^ y)) w := by
  have hx := x.toNat_lt
  have hy := y.toNat_lt
  have h : x.toNat ^^^ y.toNat < 2 ^ 8 := Nat.xor_lt_two_pow hx hy
  have := bits_xor (P := P) .u8 (x := x.toNat) (y := y.toNat) (by simp only [IntKind.bits]; omega) (by simp only [IntKind.bits]; omega) w
  have e : IntKind.u8.wrap ((x.toNat ^^^ y.toNat : Nat) : Int) = ((x.toNat ^^^ y.toNat : Nat) : Int) := by
    simp only [IntKind.wrap, IntKind.bits, IntKind.signed]
    simp
    omega
  rw [e] at this
  have h2 := r_bits t .u8 _ _ _ this (.inr (.inr rfl))
  simpa [u8v, UInt8.toNat_xor] using h2
end
/-- Three registers and three texts, of which each byte is the exclusive or of the other two's. -/
theorem upd_blend : ∀ (a b c z : List UInt8) (r s t : Nat), a.length = b.length → c = List.zipWith (· ^^^ ·) a b → z = List.replicate a.length 0 → upd (r ^^^ s ^^^ t) z = upd r a ^^^ upd s b ^^^ upd t c
  | [], [], c, z, r, s, t, _, hc, hz => by subst hc hz; rfl
  | x :: a, y :: b, c, z, r, s, t, hl, hc, hz => by
    subst hc hz
    simp only [List.length_cons, List.replicate_succ, List.zipWith_cons_cons, upd]
    rw [← upd_blend a b _ _ _ _ _ (by simpa using hl) rfl rfl, ← mvN_xor, ← mvN_xor]
    congr 2
    have e : (0 : UInt8).toNat = 0 := rfl
    rw [e, UInt8.toNat_xor, Nat.xor_zero]
    generalize x.toNat = p
    generalize y.toNat = q
    have h1 : (r ^^^ p ^^^ (s ^^^ q)) ^^^ (t ^^^ (p ^^^ q)) = (r ^^^ s ^^^ t) ^^^ ((p ^^^ p) ^^^ (q ^^^ q)) := by ac_rfl
    rw [h1, Nat.xor_self, Nat.xor_self]
    simp
theorem crc_blend (a b : List UInt8) (hl : a.length = b.length) : crcU 0 a ^^^ crcU 0 b ^^^ crcU 0 (List.zipWith (· ^^^ ·) a b) = crcU 0 (List.replicate a.length 0) := by
  unfold crcU
  have h := upd_blend a b _ _ (4294967295 ^^^ 0) (4294967295 ^^^ 0) (4294967295 ^^^ 0) hl rfl rfl
  have e : (4294967295 ^^^ 0) ^^^ (4294967295 ^^^ 0) ^^^ (4294967295 ^^^ 0) = 4294967295 ^^^ 0 := by decide
  rw [e] at h
  rw [h]
  generalize upd _ a = p
  generalize upd _ b = q
  generalize upd _ (List.zipWith _ a b) = r
  generalize 4294967295 = F
  have h1 : (F ^^^ p) ^^^ (F ^^^ q) ^^^ (F ^^^ r) = (F ^^^ F) ^^^ (F ^^^ (p ^^^ q ^^^ r)) := by ac_rfl
  rw [h1, Nat.xor_self]
  simp
end Vw
namespace Vw
theorem set_fill (Z : List UInt8) {n i : Nat} (hn : Z.length = n) (hi : i < n) : (Z.take i ++ List.replicate (n - i) 0).set i (Z[i]'(by omega)) = Z.take (i + 1) ++ List.replicate (n - (i + 1)) 0 := by
  have e1 : (Z.take i).length = i := by simp; omega
  rw [List.set_append_right _ _ (by omega), e1, Nat.sub_self]
  obtain ⟨k, hk⟩ : ∃ k, n - i = k + 1 := ⟨n - i - 1, by omega⟩
  rw [hk, List.replicate_succ, List.set_cons_zero, List.take_succ_eq_append_getElem (by omega), show n - (i + 1) = k by omega, List.append_assoc]
  rfl
end Vw
namespace Vw
open Go
theorem RdB.cap {h : Heaplet} {a : Option Addr} {n c : Nat} {l : List UInt8} (r : RdB h (.slice a n c) l) : n ≤ c := by
  rcases r.2 with ⟨c', e, hn⟩ | ⟨a', c', e, hc, _⟩
  · injection e with _ e2 _; omega
  · injection e with _ e2 e3; omega
end Vw
