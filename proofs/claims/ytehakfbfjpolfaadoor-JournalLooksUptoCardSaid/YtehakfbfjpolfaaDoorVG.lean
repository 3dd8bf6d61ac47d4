/- The small proof library: strings appended and indexed; buffers. -/
import Derived.Test.YtehakfbfjpolfaaDoorVF
import Derived.Lib.AppendStr
import Derived.Laws.Strings
set_option linter.all false
namespace Vw
open Go Go.Lib
theorem strCells_list (l : List UInt8) : strCells ⟨l.toArray⟩ = l.map u8v := by simp [strCells, u8v]
theorem str_size (l : List UInt8) : (⟨l.toArray⟩ : ByteArray).size = l.length := by simp [ByteArray.size]
section
variable {P : Program} {ρ : Operand → Value} {K : Value → World → Prop} {w : World}
variable {d : Option Nat} {ty : TypeId} {pos : String} {after : Array Edge} {g : Option (Nat × Bool)}
variable {σ : Sig} {L L' R : List Asrt}
/-- append of a string's bytes onto an owned slice of bytes. -/
theorem y_appendStr {t u e by_ : Nat} {z : Value} {x y : Operand} {v : Value} {l s : List UInt8} (hs : St σ w L) (ht : SlT P t e 1 by_ z) (hb1 : by_ = 1) (hu : P.underlying u = some .string)
    (hx : ρ x = v) (hy : ρ y = .string ⟨s.toArray⟩) (tk : Take (slB e v l) L R) (hb : l.length + s.length ≤ 140737488355328)
    (h : ∀ v' w', St σ w' (slB e v' (l ++ s) :: R) → K v' w') :
    Does P ρ ⟨d, .call ⟨.builtin .append, #[x, y], #[t, u]⟩, ty, pos, after, g⟩ w K := by
  subst hb1
  obtain ⟨inf, h4, h5, h6, h7⟩ := ht.info
  have hs' := hs.take tk
  obtain ⟨hxs, hcase⟩ : (l.map u8v).length = l.length * 1 ∧ ((v = .slice none 0 0 ∧ l.length = 0) ∨
      ∃ b cap cur, v = .slice (some ⟨b, 0, none⟩) l.length cap ∧ l.length ≤ cap ∧ cap ≤ maxLen ∧ cur.length = cap * 1 ∧ cur.take (l.length * 1) = l.map u8v ∧ St σ w (cb b e cur :: R)) := by
    obtain ⟨hh, hhp, A0, r0, d0, la, lr, ha, hr0⟩ := hs'.has
    refine ⟨ha.1, ?_⟩
    rcases ha.2 with x | ⟨b, cap, cur, e1, e2, e3, e4, e5, e6⟩
    · exact .inl x
    · exact .inr ⟨b, cap, cur, e1, e2, e3, e4, e5, hs'.kept, hh, hhp, A0, r0, d0, la, lr, e6, hr0⟩
  simp only [Nat.mul_one] at hcase
  have hsz := str_size s
  have hcl := strCells_list s
  have hlen : (l.map u8v ++ s.map u8v).length = l.length + s.length := by simp
  have h63 : l.length + s.length ≤ maxLen := by rw [maxLen_eq]; omega
  have grown : ∀ (old : Nat), old < l.length + s.length → St σ (w.drew.alloc (.cells ((l.map u8v).toArray ++ (s.map u8v).toArray ++ Builtin.zeroCells z.cells (grownCap w (l.length + s.length) old e - (l.length + s.length))) e))
      (slB e (.slice (some ⟨w.heap.size, 0, none⟩) (l.length + s.length) (grownCap w (l.length + s.length) old e)) (l ++ s) :: R) := by
    intro old ho
    have hge := grownCap_ge w (l.length + s.length) old e
    have hcm : grownCap w (l.length + s.length) old e ≤ maxLen := grownCap_le_maxLen w (l.length + s.length) old e h63
    have hd : St σ w.drew R := hs'.drop.same rfl rfl rfl rfl
    have := hd.alloc (.cells ((l.map u8v).toArray ++ (s.map u8v).toArray ++ Builtin.zeroCells z.cells (grownCap w (l.length + s.length) old e - (l.length + s.length))) e)
    refine this.imp fun hh hb => ?_
    refine ⟨by simp, .inr ⟨w.heap.size, _, (l.map u8v ++ s.map u8v ++ (Builtin.zeroCells z.cells (grownCap w (l.length + s.length) old e - (l.length + s.length))).toList), by rw [List.length_append], by rw [List.length_append]; exact hge, hcm, ?_, ?_, ?_⟩⟩
    · have e0 : ∀ k, (Builtin.zeroCells z.cells k).toList.length = k := fun k => by rw [Array.length_toList, size_zeroCells, ht.zs, Nat.mul_one]
      rw [List.length_append, hlen, e0]; omega
    · rw [List.length_append, Nat.mul_one, ← hlen, List.take_left, List.map_append]
    · have e' : (l.map u8v ++ s.map u8v ++ (Builtin.zeroCells z.cells (grownCap w (l.length + s.length) old e - (l.length + s.length))).toList).toArray = (l.map u8v).toArray ++ (s.map u8v).toArray ++ Builtin.zeroCells z.cells (grownCap w (l.length + s.length) old e - (l.length + s.length)) := by simp
      show hh w.heap.size = _
      rw [e']
      exact hb
  have fin : ∀ v' w', (Builtin.append_ #[t, u] ty #[v, .string ⟨s.toArray⟩]).run P w = .ok v' w' → K v' w' → Does P ρ ⟨d, .call ⟨.builtin .append, #[x, y], #[t, u]⟩, ty, pos, after, g⟩ w K := by
    intro v' w' hrun hk
    refine .value (v := v') (w' := w') ?_ hk
    simp only [execOp, resolve, invoke, builtin, Sem.run_bind, Sem.run_pure, Result.andThen_ok, List.map_toArray, List.map_cons, List.map_nil, hx, hy, hrun]
  rcases hcase with ⟨rfl, hn⟩ | ⟨b, cap, cur, rfl, hnc, hcm, hcl2, htk, hsb⟩
  · have hx0 : l = [] := List.eq_nil_of_length_eq_zero hn
    subst hx0
    by_cases hm : s.length = 0
    · have hy0 : s = [] := List.eq_nil_of_length_eq_zero hm
      subst hy0
      refine fin (.slice none 0 0) w ?_ (h _ _ (by simpa using hs'))
      simp [Builtin.append_, run_underlying ht.und, run_underlying hu, Go.sizeOf, typeInfo, h4, Builtin.lenOf, Builtin.firstCells, loadCells, loadCellsFrom, ByteArray.size]
    · have hrun := run_append_nil_string (P := P) (w := w) t u ty e inf z ht.und hu h4 h7 ⟨s.toArray⟩ (by rw [hsz]; omega) (by rw [hsz]; omega) (by rw [hsz, h6]; omega)
      have hgr := grown 0 (by omega)
      rw [hsz] at hrun
      simp only [List.length_nil, Nat.zero_add, List.nil_append, List.map_nil] at hgr hrun h ⊢
      have e1 : (Array.map (fun b : UInt8 => Value.int IntKind.u8 (b.toNat : Int)) s.toArray) = (s.map u8v).toArray := by simp [u8v]
      rw [e1] at hrun
      refine fin _ _ hrun (h _ _ (by simpa using hgr))
  · by_cases hroom : l.length + s.length ≤ cap
    · have hbk : w.heap[b]? = some (.cells cur.toArray e (0, 0)) := hsb.head
      have hrun := run_append_room_string (P := P) (w := w) t u ty e inf ht.und hu h4 h5 b l.length cap cur.toArray hbk ⟨s.toArray⟩ (by rw [hsz]; exact hroom) (by rw [hsz, List.size_toArray]; omega)
      rw [hsz, hcl] at hrun
      refine fin _ _ hrun (h _ _ ((hsb.wrote (setRow_wrote hbk)).imp fun hh hb' => ⟨by simp, .inr ⟨b, cap, _, by rw [List.length_append], by rw [List.length_append]; exact hroom, hcm, ?_, ?_, hb'⟩⟩))
      · simp; omega
      · rw [List.length_append, Nat.mul_one, htk, List.map_append, ← hlen]
        exact List.take_left
    · have holds : ∀ j u, (l.map u8v)[j]? = some u → w.cell? ((⟨b, 0, none⟩ : Addr).add j) = some u := by
        intro j u hu
        have hadd : (⟨b, 0, none⟩ : Addr).add j = ⟨b, j, none⟩ := by unfold Addr.add; split <;> simp_all
        rw [hadd]
        refine hsb.cell (.here _) ?_
        rw [← htk, List.getElem?_take] at hu
        split at hu
        · exact hu
        · cases hu
      have hrun := run_append_grow_string (P := P) (w := w) t u ty e inf z ht.und hu h4 h7 ⟨b, 0, none⟩ l.length cap (l.map u8v) (by rw [h5]; simp) holds ⟨s.toArray⟩ (by rw [hsz]; omega) (by rw [hsz]; omega)
        (by rw [hsz, h6]; exact growslice_fits (by omega) (by omega))
      rw [hsz, hcl] at hrun
      exact fin _ _ hrun (h _ _ (grown cap (by omega)))

theorem x_indexStr {t : TypeId} {x y : Operand} {l : List UInt8} {k : IntKind} {i : Nat} (ht : P.underlying t = some .string) (hx : ρ x = .string ⟨l.toArray⟩) (hy : ρ y = .int k (i : Int)) (hi : i < l.length) (w : World) :
    (execOp ρ ⟨d, .index t x y, ty, pos, after, g⟩).run P w = .ok (.value (u8v l[i])) w := by
  have h := run_index_string (P := P) (w := w) t ⟨l.toArray⟩ k (i : Int) ht
  have hsz := str_size l
  rw [dif_pos ⟨by omega, by rw [hsz]; exact_mod_cast hi⟩] at h
  have e : (⟨l.toArray⟩ : ByteArray)[((i : Int)).toNat]'(by rw [hsz]; simpa using hi) = l[i] := by
    show l.toArray[((i : Int)).toNat]'_ = _
    simp
  simp only [execOp, hx, hy, Sem.run_bind, h, Result.andThen_ok, Sem.run_pure]
  rw [e]; rfl
end

/-! ### Buffers -/
def bufA (T E p : Nat) (data : List UInt8) (lim bad : Int) : Asrt := ex fun v => star (cb p T [v, .int .i64 lim, .int .i64 bad]) (slB E v data)
def rbufA (T E p : Nat) (data : List UInt8) (lim bad : Int) : Asrt := ex fun v => star (cb p T [.int .i64 lim, v, .int .i64 bad]) (slB E v data)
theorem bufA_open {σ : Sig} {w : World} {R : List Asrt} {T E p : Nat} {data : List UInt8} {lim bad : Int} (hs : St σ w (bufA T E p data lim bad :: R)) :
    ∃ v, St σ w (cb p T [v, .int .i64 lim, .int .i64 bad] :: slB E v data :: R) := by
  obtain ⟨v, hs⟩ := hs.ex; exact ⟨v, hs.star⟩
theorem rbufA_open {σ : Sig} {w : World} {R : List Asrt} {T E p : Nat} {data : List UInt8} {lim bad : Int} (hs : St σ w (rbufA T E p data lim bad :: R)) :
    ∃ v, St σ w (cb p T [.int .i64 lim, v, .int .i64 bad] :: slB E v data :: R) := by
  obtain ⟨v, hs⟩ := hs.ex; exact ⟨v, hs.star⟩
theorem bufA_close {σ : Sig} {w : World} {R : List Asrt} {T E p : Nat} {data : List UInt8} {lim bad : Int} {v : Value} (hs : St σ w (cb p T [v, .int .i64 lim, .int .i64 bad] :: slB E v data :: R)) : St σ w (bufA T E p data lim bad :: R) :=
  hs.unstar.imp fun h hh => ⟨v, hh⟩
theorem rbufA_close {σ : Sig} {w : World} {R : List Asrt} {T E p : Nat} {data : List UInt8} {lim bad : Int} {v : Value} (hs : St σ w (cb p T [.int .i64 lim, v, .int .i64 bad] :: slB E v data :: R)) : St σ w (rbufA T E p data lim bad :: R) :=
  hs.unstar.imp fun h hh => ⟨v, hh⟩
/-- A number's bytes, the lowest first. -/
def leB : Nat → Nat → List UInt8
  | 0, _ => []
  | n + 1, v => UInt8.ofNat (v % 256) :: leB n (v / 256)
theorem leB_len : ∀ n v, (leB n v).length = n
  | 0, _ => rfl
  | n + 1, v => by simp [leB, leB_len n]
theorem leB_succ : ∀ (n v : Nat), leB (n + 1) v = leB n v ++ [UInt8.ofNat (v / 256 ^ n % 256)]
  | 0, v => by simp [leB]
  | n + 1, v => by
    have := leB_succ n (v / 256)
    rw [show leB (n + 1 + 1) v = UInt8.ofNat (v % 256) :: leB (n + 1) (v / 256) from rfl, this, Nat.div_div_eq_div_mul, show 256 * 256 ^ n = 256 ^ (n + 1) by rw [Nat.pow_succ, Nat.mul_comm]]
    rfl
theorem u8_of (k : IntKind) (hk : k = .i64) (x : Nat) : IntKind.u8.wrap (x : Int) = ((UInt8.ofNat (x % 256)).toNat : Int) := by
  have e : (UInt8.ofNat (x % 256)).toNat = x % 256 := by simp [UInt8.toNat_ofNat]
  rw [e]
  simp only [IntKind.wrap, IntKind.bits, IntKind.signed]
  simp
/-- A number put. -/
def numB (data : List UInt8) (lim bad v : Int) (n : Nat) : List UInt8 × Int :=
  if bad ≠ 0 then (data, bad) else if v < 0 ∨ ((256 ^ n : Nat) : Int) ≤ v then (data, 21) else if lim - data.length < n then (data, 22) else (data ++ leB n v.toNat, 0)
def txtB (data : List UInt8) (lim bad : Int) (s : List UInt8) : List UInt8 × Int :=
  if bad ≠ 0 then (data, bad) else if lim - data.length < s.length then (data, 22) else (data ++ s, 0)
def patB (data : List UInt8) (bad at_ v : Int) : List UInt8 × Int :=
  if bad ≠ 0 then (data, bad) else if at_ < 0 ∨ (data.length : Int) - 4 < at_ then (data, 1) else if v < 0 ∨ 4294967296 ≤ v then (data, 21) else (data.take at_.toNat ++ leB 4 v.toNat ++ data.drop (at_.toNat + 4), 0)
theorem r_shl256 {P : Program} (t : TypeId) {yk : IntKind} {n : Nat} (hn : n ≤ 4) (w : World) : (binOp .shl t (.int .i64 1) (.int yk (8 * (n : Int)))).run P w = .ok (.int .i64 ((256 ^ n : Nat) : Int)) w := by
  have h : n = 0 ∨ n = 1 ∨ n = 2 ∨ n = 3 ∨ n = 4 := by omega
  rcases h with rfl | rfl | rfl | rfl | rfl <;> (rw [r_shl _ _ _ _ _ (by omega)]; congr 2)
end Vw
namespace Vw
open Go
section
variable {P : Program} {ρ : Operand → Value} {K : Value → World → Prop} {w : World}
variable {d : Option Nat} {ty : TypeId} {pos : String} {after : Array Edge} {g : Option (Nat × Bool)}
variable {σ : Sig} {L : List Asrt}
theorem y_makeMap {t : TypeId} (hs : St σ w L) (h : ∀ b w', St σ w' (blk b (.map #[] 0) :: L) → K (.map (some b)) w') : Does P ρ ⟨d, .makeMap t none, ty, pos, after, g⟩ w K := by
  refine .value (v := .map (some w.heap.size)) (w' := w.alloc (.map #[] 0)) ?_ (h _ _ (hs.alloc _))
  simp only [execOp]
  rfl
end
end Vw
namespace Vw
open Go
section
variable {P : Program} {ρ : Operand → Value} {K : Value → World → Prop} {w : World}
variable {d : Option Nat} {ty : TypeId} {pos : String} {after : Array Edge} {g : Option (Nat × Bool)}
variable {σ : Sig} {L L' : List Asrt}
theorem y_setB {t T n c i : Nat} {x y : Operand} {a : Addr} {l : List UInt8} {u : UInt8} {v : Value} (hs : St σ w L) (ht : ScT P t) (hx : ρ x = .pointer (some (a.add (i * 1)))) (hy : ρ y = v) (hv : v = u8v u) (hn : n = l.length)
    (up : Up (slB T (.slice (some a) n c) l) (slB T (.slice (some a) n c) (l.set i u)) L L') (hi : i < n) (h : ∀ w', St σ w' L' → K undef w') :
    Does P ρ ⟨d, .store t x y, ty, pos, after, g⟩ w K := by
  subst hv hn
  refine y_storeSl (T := T) (n := l.length) (c := c) (i := i) (a := a) (xs := l.map u8v) (v := u8v u) hs ht hx hy rfl ?_ hi h
  have e : slB T (.slice (some a) l.length c) (l.set i u) = sl T 1 (.slice (some a) l.length c) l.length ((l.map u8v).set i (u8v u)) := by
    unfold slB; rw [List.length_set, List.map_set]
  rw [e] at up
  exact up
end
theorem pat_step (data : List UInt8) {A j v : Nat} (h : A + 4 ≤ data.length) (hj : j < 4) :
    (data.take A ++ leB j v ++ data.drop (A + j)).set (A + j) (UInt8.ofNat (v / 256 ^ j % 256)) = data.take A ++ leB (j + 1) v ++ data.drop (A + (j + 1)) := by
  have e1 : (data.take A ++ leB j v).length = A + j := by simp [leB_len]; omega
  rw [List.set_append_right _ _ (by omega), e1, Nat.sub_self, leB_succ, List.drop_eq_getElem_cons (show A + j < data.length by omega), List.set_cons_zero]
  simp only [List.append_assoc, List.cons_append, List.nil_append]
  rw [show A + (j + 1) = A + j + 1 by omega]
theorem pat_len (data : List UInt8) {A j v : Nat} (h : A + 4 ≤ data.length) (hj : j ≤ 4) : (data.take A ++ leB j v ++ data.drop (A + j)).length = data.length := by
  simp [leB_len]; omega
theorem pw8 (j : Nat) : 2 ^ (8 * j) = 256 ^ j := by rw [Nat.pow_mul]
/-- A buffer's step. -/
def stepB (data : List UInt8) (lim bad kind n at_ : Int) (s : List UInt8) : List UInt8 × Int :=
  if kind = 1 then numB data lim bad n 1 else if kind = 2 then numB data lim bad n 2 else if kind = 3 then numB data lim bad n 4
  else if kind = 4 then txtB data lim bad s else if kind = 5 then patB data bad at_ n else (data, bad)
theorem numB_len (data : List UInt8) (lim bad v : Int) (n : Nat) : (numB data lim bad v n).1.length ≤ data.length + n := by
  unfold numB; split; simp; split; simp; split; simp; simp [leB_len]
theorem txtB_len (data : List UInt8) (lim bad : Int) (s : List UInt8) : (txtB data lim bad s).1.length ≤ data.length + s.length := by
  unfold txtB; split; simp; split; simp; simp
theorem patB_len (data : List UInt8) (bad at_ v : Int) : (patB data bad at_ v).1.length ≤ data.length := by
  unfold patB; split; simp; split; simp; split; simp; rename_i h _; simp only [not_or, Int.not_lt] at h; simp [leB_len]; omega
theorem stepB_len (data : List UInt8) (lim bad kind n at_ : Int) (s : List UInt8) : (stepB data lim bad kind n at_ s).1.length ≤ data.length + (s.length + 4) := by
  unfold stepB
  split; exact Nat.le_trans (numB_len _ _ _ _ _) (by omega)
  split; exact Nat.le_trans (numB_len _ _ _ _ _) (by omega)
  split; exact Nat.le_trans (numB_len _ _ _ _ _) (by omega)
  split; exact Nat.le_trans (txtB_len _ _ _ _) (by omega)
  split; exact Nat.le_trans (patB_len _ _ _ _) (by omega)
  simp
def takeB (data : List UInt8) (bad : Int) : List UInt8 := if bad ≠ 0 then [] else data
end Vw
namespace Vw
open Go
theorem leB_get : ∀ (n v j : Nat) (h : j < (leB n v).length), (leB n v)[j] = UInt8.ofNat (v / 256 ^ j % 256)
  | 0, _, _, h => absurd h (by simp [leB])
  | n + 1, v, 0, _ => by simp [leB]
  | n + 1, v, j + 1, h => by
    have h' : j < (leB n (v / 256)).length := by simpa [leB] using h
    have := leB_get n (v / 256) j h'
    rw [Nat.div_div_eq_div_mul, show 256 * 256 ^ j = 256 ^ (j + 1) by rw [Nat.pow_succ, Nat.mul_comm]] at this
    simpa [leB] using this
/-- How many bytes steps can put at most. -/
def tot (l : List (Int × Int × Int × List UInt8)) : Nat := (l.map fun o => o.2.2.2.length + 4).sum
theorem tot_take_succ {l : List (Int × Int × Int × List UInt8)} {i : Nat} (h : i < l.length) : tot (l.take (i + 1)) = tot (l.take i) + (l[i].2.2.2.length + 4) := by
  unfold tot; rw [List.take_succ_eq_append_getElem h, List.map_append, List.sum_append]; simp
theorem tot_take_le (l : List (Int × Int × Int × List UInt8)) (i : Nat) : tot (l.take i) ≤ tot l := by
  conv => rhs; rw [← List.take_append_drop i l]
  unfold tot; rw [List.map_append, List.sum_append]; omega
end Vw
namespace Vw
theorem stepB_bad (data : List UInt8) (lim bad kind n at_ : Int) (s : List UInt8) : (stepB data lim bad kind n at_ s).2 = 0 → bad = 0 := by
  intro h
  by_cases hb : bad = 0
  · exact hb
  · exfalso
    revert h
    unfold stepB numB txtB patB
    rw [if_pos hb, if_pos hb, if_pos hb, if_pos hb, if_pos hb]
    simp [hb]
theorem takeB_le (data : List UInt8) (bad : Int) : (takeB data bad).length ≤ data.length := by unfold takeB; split <;> simp
end Vw
namespace Vw
theorem tot_le {f : Int × Int × Int × List UInt8 → Nat} (h : ∀ o, o.2.2.2.length + 4 ≤ f o) : ∀ l, tot l ≤ (l.map f).sum
  | [] => Nat.le_refl _
  | o :: l => by
    have h1 := tot_le h l
    have h2 := h o
    unfold tot at h1 ⊢
    simp only [List.map_cons, List.sum_cons]
    omega
theorem sum_le_map {α : Type} {f g : α → Nat} (h : ∀ o, f o ≤ g o) : ∀ l : List α, (l.map f).sum ≤ (l.map g).sum
  | [] => Nat.le_refl _
  | o :: l => by
    have h1 := sum_le_map h l
    have h2 := h o
    simp only [List.map_cons, List.sum_cons]
    omega
end Vw
