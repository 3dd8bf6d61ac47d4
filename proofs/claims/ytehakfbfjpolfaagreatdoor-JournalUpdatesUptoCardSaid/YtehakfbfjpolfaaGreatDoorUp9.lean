/- Texts 9 of 17 that the law rests on: the small library, contracts of functions, printed by a program. -/
import Derived.Lib.AppendStr
import Derived.Laws.Strings
import Derived.Test.YtehakfbfjpolfaaGreatDoorUp1
import Derived.Test.YtehakfbfjpolfaaGreatDoorUp2
import Derived.Test.YtehakfbfjpolfaaGreatDoorUp3
import Derived.Test.YtehakfbfjpolfaaGreatDoorUp4
import Derived.Test.YtehakfbfjpolfaaGreatDoorUp5
import Derived.Test.YtehakfbfjpolfaaGreatDoorUp6
import Derived.Test.YtehakfbfjpolfaaGreatDoorUp7
import Derived.Test.YtehakfbfjpolfaaGreatDoorUp8
set_option maxRecDepth 100000
set_option linter.all false
namespace Vw
open Go Go.Lib
theorem strCells_list (l : List UInt8) : strCells ⟨l.toArray⟩ = l.map u8v := by simp [strCells, u8v]
theorem str_size (l : List UInt8) : (⟨l.toArray⟩ : ByteArray).size = l.length := by simp [ByteArray.size]
section
variable {P : Program} {ρ : Operand → Value} {K : Value → World → Prop} {w : World}
variable {d : Option Nat} {ty : TypeId} {pos : String} {after : Array Edge} {g : Option (Nat × Bool)}
variable {σ : Sig} {L L' R : List Asrt}
theorem y_appendStr {t u e by_ : Nat} {z : Value} {x y : Operand} {v : Value} {l s : List UInt8} (hs : St σ w L) (ht : SlT P t e 1 by_ z) (hb1 : by_ = 1) (hu : P.underlying u = some .string)
    (hx : ρ x = v) (hy : ρ y = .string ⟨s.toArray⟩) (tk : Take (slB e v l) L R) (hb : l.length + s.length ≤ 140737488355328)
    (h : ∀ v' w', St σ w' (slB e v' (l ++ s) :: R) → K v' w') :
    Does P ρ ⟨d, .call ⟨.builtin .append, #[x, y], #[t, u]⟩, ty, pos, after, g⟩ w K := by
  subst hb1
  obtain ⟨inf, h4, h5, h6, h7⟩ := ht.info
  have hs' := hs.take tk
  obtain ⟨hxs, hcase⟩ : (l.map u8v).length = l.length * 1 ∧ ((v = .slice none 0 0 ∧ l.length = 0) ∨
      ∃ b cap cur, v = .slice (some ⟨b, 0, none⟩) l.length cap ∧ l.length ≤ cap ∧ cap ≤ maxLen ∧ cur.length = cap * 1 ∧ cur.take (l.length * 1) = l.map u8v ∧ St σ w (cb b e cur :: R)) := by
    obtain ⟨hh, hhp, A0, r0, d0, la, lr, ha, hr0⟩ := hs'.has
    refine ⟨ha.1, ?_⟩
    rcases ha.2 with x | ⟨b, cap, cur, e1, e2, e3, e4, e5, e6⟩
    · exact .inl x
    · exact .inr ⟨b, cap, cur, e1, e2, e3, e4, e5, hs'.kept, hh, hhp, A0, r0, d0, la, lr, e6, hr0⟩
  simp only [Nat.mul_one] at hcase
  have hsz := str_size s
  have hcl := strCells_list s
  have hlen : (l.map u8v ++ s.map u8v).length = l.length + s.length := by simp
  have h63 : l.length + s.length ≤ maxLen := by rw [maxLen_eq]; omega
  have grown : ∀ (old : Nat), old < l.length + s.length → St σ (w.drew.alloc (.cells ((l.map u8v).toArray ++ (s.map u8v).toArray ++ Builtin.zeroCells z.cells (grownCap w (l.length + s.length) old e - (l.length + s.length))) e))
      (slB e (.slice (some ⟨w.heap.size, 0, none⟩) (l.length + s.length) (grownCap w (l.length + s.length) old e)) (l ++ s) :: R) := by
    intro old ho
    have hge := grownCap_ge w (l.length + s.length) old e
    have hcm : grownCap w (l.length + s.length) old e ≤ maxLen := grownCap_le_maxLen w (l.length + s.length) old e h63
    have hd : St σ w.drew R := hs'.drop.same rfl rfl rfl rfl
    have := hd.alloc (.cells ((l.map u8v).toArray ++ (s.map u8v).toArray ++ Builtin.zeroCells z.cells (grownCap w (l.length + s.length) old e - (l.length + s.length))) e)
    refine this.imp fun hh hb => ?_
    refine ⟨by simp, .inr ⟨w.heap.size, _, (l.map u8v ++ s.map u8v ++ (Builtin.zeroCells z.cells (grownCap w (l.length + s.length) old e - (l.length + s.length))).toList), by rw [List.length_append], by rw [List.length_append]; exact hge, hcm, ?_, ?_, ?_⟩⟩
    · have e0 : ∀ k, (Builtin.zeroCells z.cells k).toList.length = k := fun k => by rw [Array.length_toList, size_zeroCells, ht.zs, Nat.mul_one]
      rw [List.length_append, hlen, e0]; omega
    · rw [List.length_append, Nat.mul_one, ← hlen, List.take_left, List.map_append]
    · have e' : (l.map u8v ++ s.map u8v ++ (Builtin.zeroCells z.cells (grownCap w (l.length + s.length) old e - (l.length + s.length))).toList).toArray = (l.map u8v).toArray ++ (s.map u8v).toArray ++ Builtin.zeroCells z.cells (grownCap w (l.length + s.length) old e - (l.length + s.length)) := by simp
      show hh w.heap.size = _
      rw [e']
      exact hb
  have fin : ∀ v' w', (Builtin.append_ #[t, u] ty #[v, .string ⟨s.toArray⟩]).run P w = .ok v' w' → K v' w' → Does P ρ ⟨d, .call ⟨.builtin .append, #[x, y], #[t, u]⟩, ty, pos, after, g⟩ w K := by
    intro v' w' hrun hk
    refine .value (v := v') (w' := w') ?_ hk
    simp only [execOp, resolve, invoke, builtin, Sem.run_bind, Sem.run_pure, Result.andThen_ok, List.map_toArray, List.map_cons, List.map_nil, hx, hy, hrun]
  rcases hcase with ⟨rfl, hn⟩ | ⟨b, cap, cur, rfl, hnc, hcm, hcl2, htk, hsb⟩
  · have hx0 : l = [] := List.eq_nil_of_length_eq_zero hn
    subst hx0
    by_cases hm : s.length = 0
    · have hy0 : s = [] := List.eq_nil_of_length_eq_zero hm
      subst hy0
      refine fin (.slice none 0 0) w ?_ (h _ _ (by simpa using hs'))
      simp [Builtin.append_, run_underlying ht.und, run_underlying hu, Go.sizeOf, typeInfo, h4, Builtin.lenOf, Builtin.firstCells, loadCells, loadCellsFrom, ByteArray.size]
    · have hrun := run_append_nil_string (P := P) (w := w) t u ty e inf z ht.und hu h4 h7 ⟨s.toArray⟩ (by rw [hsz]; omega) (by rw [hsz]; omega) (by rw [hsz, h6]; omega)
      have hgr := grown 0 (by omega)
      rw [hsz] at hrun
      simp only [List.length_nil, Nat.zero_add, List.nil_append, List.map_nil] at hgr hrun h ⊢
      have e1 : (Array.map (fun b : UInt8 => Value.int IntKind.u8 (b.toNat : Int)) s.toArray) = (s.map u8v).toArray := by simp [u8v]
      rw [e1] at hrun
      refine fin _ _ hrun (h _ _ (by simpa using hgr))
  · by_cases hroom : l.length + s.length ≤ cap
    · have hbk : w.heap[b]? = some (.cells cur.toArray e (0, 0)) := hsb.head
      have hrun := run_append_room_string (P := P) (w := w) t u ty e inf ht.und hu h4 h5 b l.length cap cur.toArray hbk ⟨s.toArray⟩ (by rw [hsz]; exact hroom) (by rw [hsz, List.size_toArray]; omega)
      rw [hsz, hcl] at hrun
      refine fin _ _ hrun (h _ _ ((hsb.wrote (setRow_wrote hbk)).imp fun hh hb' => ⟨by simp, .inr ⟨b, cap, _, by rw [List.length_append], by rw [List.length_append]; exact hroom, hcm, ?_, ?_, hb'⟩⟩))
      · simp; omega
      · rw [List.length_append, Nat.mul_one, htk, List.map_append, ← hlen]
        exact List.take_left
    · have holds : ∀ j u, (l.map u8v)[j]? = some u → w.cell? ((⟨b, 0, none⟩ : Addr).add j) = some u := by
        intro j u hu
        have hadd : (⟨b, 0, none⟩ : Addr).add j = ⟨b, j, none⟩ := by unfold Addr.add; split <;> simp_all
        rw [hadd]
        refine hsb.cell (.here _) ?_
        rw [← htk, List.getElem?_take] at hu
        split at hu
        · exact hu
        · cases hu
      have hrun := run_append_grow_string (P := P) (w := w) t u ty e inf z ht.und hu h4 h7 ⟨b, 0, none⟩ l.length cap (l.map u8v) (by rw [h5]; simp) holds ⟨s.toArray⟩ (by rw [hsz]; omega) (by rw [hsz]; omega)
        (by rw [hsz, h6]; exact growslice_fits (by omega) (by omega))
      rw [hsz, hcl] at hrun
      exact fin _ _ hrun (h _ _ (grown cap (by omega)))
theorem x_indexStr {t : TypeId} {x y : Operand} {l : List UInt8} {k : IntKind} {i : Nat} (ht : P.underlying t = some .string) (hx : ρ x = .string ⟨l.toArray⟩) (hy : ρ y = .int k (i : Int)) (hi : i < l.length) (w : World) :
    (execOp ρ ⟨d, .index t x y, ty, pos, after, g⟩).run P w = .ok (.value (u8v l[i])) w := by
  have h := run_index_string (P := P) (w := w) t ⟨l.toArray⟩ k (i : Int) ht
  have hsz := str_size l
  rw [dif_pos ⟨by omega, by rw [hsz]; exact_mod_cast hi⟩] at h
  have e : (⟨l.toArray⟩ : ByteArray)[((i : Int)).toNat]'(by rw [hsz]; simpa using hi) = l[i] := by
    show l.toArray[((i : Int)).toNat]'_ = _
    simp
  simp only [execOp, hx, hy, Sem.run_bind, h, Result.andThen_ok, Sem.run_pure]
  rw [e]; rfl
end
def bufA (T E p : Nat) (data : List UInt8) (lim bad : Int) : Asrt := ex fun v => star (cb p T [v, .int .i64 lim, .int .i64 bad]) (slB E v data)
def rbufA (T E p : Nat) (data : List UInt8) (lim bad : Int) : Asrt := ex fun v => star (cb p T [.int .i64 lim, v, .int .i64 bad]) (slB E v data)
theorem bufA_open {σ : Sig} {w : World} {R : List Asrt} {T E p : Nat} {data : List UInt8} {lim bad : Int} (hs : St σ w (bufA T E p data lim bad :: R)) :
    ∃ v, St σ w (cb p T [v, .int .i64 lim, .int .i64 bad] :: slB E v data :: R) := by
  obtain ⟨v, hs⟩ := hs.ex; exact ⟨v, hs.star⟩
theorem bufA_close {σ : Sig} {w : World} {R : List Asrt} {T E p : Nat} {data : List UInt8} {lim bad : Int} {v : Value} (hs : St σ w (cb p T [v, .int .i64 lim, .int .i64 bad] :: slB E v data :: R)) : St σ w (bufA T E p data lim bad :: R) :=
  hs.unstar.imp fun h hh => ⟨v, hh⟩
def leB : Nat → Nat → List UInt8
  | 0, _ => []
  | n + 1, v => UInt8.ofNat (v % 256) :: leB n (v / 256)
theorem leB_len : ∀ n v, (leB n v).length = n
  | 0, _ => rfl
  | n + 1, v => by simp [leB, leB_len n]
theorem leB_succ : ∀ (n v : Nat), leB (n + 1) v = leB n v ++ [UInt8.ofNat (v / 256 ^ n % 256)]
  | 0, v => by simp [leB]
  | n + 1, v => by
    have := leB_succ n (v / 256)
    rw [show leB (n + 1 + 1) v = UInt8.ofNat (v % 256) :: leB (n + 1) (v / 256) from rfl, this, Nat.div_div_eq_div_mul, show 256 * 256 ^ n = 256 ^ (n + 1) by rw [Nat.pow_succ, Nat.mul_comm]]
    rfl
theorem u8_of (k : IntKind) (hk : k = .i64) (x : Nat) : IntKind.u8.wrap (x : Int) = ((UInt8.ofNat (x % 256)).toNat : Int) := by
  have e : (UInt8.ofNat (x % 256)).toNat = x % 256 := by simp [UInt8.toNat_ofNat]
  rw [e]
  simp only [IntKind.wrap, IntKind.bits, IntKind.signed]
  simp
def numB (data : List UInt8) (lim bad v : Int) (n : Nat) : List UInt8 × Int :=
  if bad ≠ 0 then (data, bad) else if v < 0 ∨ ((256 ^ n : Nat) : Int) ≤ v then (data, 21) else if lim - data.length < n then (data, 22) else (data ++ leB n v.toNat, 0)
def txtB (data : List UInt8) (lim bad : Int) (s : List UInt8) : List UInt8 × Int :=
  if bad ≠ 0 then (data, bad) else if lim - data.length < s.length then (data, 22) else (data ++ s, 0)
def patB (data : List UInt8) (bad at_ v : Int) : List UInt8 × Int :=
  if bad ≠ 0 then (data, bad) else if at_ < 0 ∨ (data.length : Int) - 4 < at_ then (data, 1) else if v < 0 ∨ 4294967296 ≤ v then (data, 21) else (data.take at_.toNat ++ leB 4 v.toNat ++ data.drop (at_.toNat + 4), 0)
theorem r_shl256 {P : Program} (t : TypeId) {yk : IntKind} {n : Nat} (hn : n ≤ 4) (w : World) : (binOp .shl t (.int .i64 1) (.int yk (8 * (n : Int)))).run P w = .ok (.int .i64 ((256 ^ n : Nat) : Int)) w := by
  have h : n = 0 ∨ n = 1 ∨ n = 2 ∨ n = 3 ∨ n = 4 := by omega
  rcases h with rfl | rfl | rfl | rfl | rfl <;> (rw [r_shl _ _ _ _ _ (by omega)]; congr 2)
end Vw
namespace Vw
open Go
section
variable {P : Program} {ρ : Operand → Value} {K : Value → World → Prop} {w : World}
variable {d : Option Nat} {ty : TypeId} {pos : String} {after : Array Edge} {g : Option (Nat × Bool)}
variable {σ : Sig} {L : List Asrt}
theorem y_makeMap {t : TypeId} (hs : St σ w L) (h : ∀ b w', St σ w' (blk b (.map #[] 0) :: L) → K (.map (some b)) w') : Does P ρ ⟨d, .makeMap t none, ty, pos, after, g⟩ w K := by
  refine .value (v := .map (some w.heap.size)) (w' := w.alloc (.map #[] 0)) ?_ (h _ _ (hs.alloc _))
  simp only [execOp]
  rfl
end
end Vw
namespace Vw
open Go
section
variable {P : Program} {ρ : Operand → Value} {K : Value → World → Prop} {w : World}
variable {d : Option Nat} {ty : TypeId} {pos : String} {after : Array Edge} {g : Option (Nat × Bool)}
variable {σ : Sig} {L L' : List Asrt}
end
def stepB (data : List UInt8) (lim bad kind n at_ : Int) (s : List UInt8) : List UInt8 × Int :=
  if kind = 1 then numB data lim bad n 1 else if kind = 2 then numB data lim bad n 2 else if kind = 3 then numB data lim bad n 4
  else if kind = 4 then txtB data lim bad s else if kind = 5 then patB data bad at_ n else (data, bad)
theorem numB_len (data : List UInt8) (lim bad v : Int) (n : Nat) : (numB data lim bad v n).1.length ≤ data.length + n := by
  unfold numB; split; simp; split; simp; split; simp; simp [leB_len]
def takeB (data : List UInt8) (bad : Int) : List UInt8 := if bad ≠ 0 then [] else data
end Vw
namespace Vw
open Go
def tot (l : List (Int × Int × Int × List UInt8)) : Nat := (l.map fun o => o.2.2.2.length + 4).sum
end Vw

namespace Vw
open Go
theorem rdS_plain {α : Type} {f : α → List Value} {sz n c : Nat} {h : Heaplet} {a : Addr} {l : List α} (hf : ∀ x, (f x).length = sz) (h0 : 0 < sz) (r : RdS f sz h (.slice (some a) n c) l) (hl : 0 < l.length) : ∃ b o, a = ⟨b, o, none⟩ := by
  rcases r.2 with ⟨c', e, hn⟩ | ⟨a', c', e, _, hc⟩
  · omega
  · cases e
    have h1 : 0 < (l.flatMap f).length := by rw [r.1]; exact Nat.mul_pos hl h0
    have := hc 0 _ (List.getElem?_eq_getElem h1)
    have e0 : a.add 0 = a := by unfold Addr.add; simp
    rw [e0] at this
    obtain ⟨b, o, s⟩ := a
    cases s with
    | none => exact ⟨b, o, rfl⟩
    | some s =>
      exfalso
      unfold cellH at this
      split at this
      · simp at this
      · cases this
theorem rdS_cellAt {α : Type} {f : α → List Value} {sz n c b o : Nat} {w : World} {l : List α} (hf : ∀ x, (f x).length = sz) (r : RdS f sz (hp w) (.slice (some ⟨b, o, none⟩) n c) l) {i k : Nat} (hi : i < l.length) {v : Value} (hk : (f l[i])[k]? = some v) :
    w.cell? ⟨b, o + i * sz + k, none⟩ = some v := by
  rcases r.2 with ⟨c', e, hn⟩ | ⟨a', c', e, _, hc⟩
  · omega
  · cases e
    have hks : k < sz := by have := (List.getElem?_eq_some_iff.1 hk).1; rwa [hf] at this
    have := hc (i * sz + k) v (by rw [flatMap_get hf l i k hi hks]; exact hk)
    rw [cell_hp]
    have e : (⟨b, o, none⟩ : Addr).add (i * sz + k) = ⟨b, o + i * sz + k, none⟩ := by unfold Addr.add; split <;> simp_all <;> omega
    rwa [e] at this
theorem addr_add (b o k : Nat) : (⟨b, o, none⟩ : Addr).add k = ⟨b, o + k, none⟩ := by unfold Addr.add; split <;> simp_all
section
variable {P : Program} {ρ : Operand → Value} {w : World}
variable {d : Option Nat} {ty : TypeId} {pos : String} {after : Array Edge} {g : Option (Nat × Bool)}
end
abbrev It := Int × Int × List UInt8
def itF (o : It) : List Value := [.int .i64 o.1, .int .i64 o.2.1, .string ⟨o.2.2.toArray⟩]
def fitV (n : Int) : Nat := (if n < 0 then -(n + 1) else n).toNat
def fitN (k n : Int) : Nat := if k = 1 then fitV n % 256 else if k = 2 then fitV n % 65536 else fitV n % 4294967296
def encI (o : It) : List UInt8 := if o.1 = 1 then leB 1 (fitN o.1 o.2.1) else if o.1 = 2 then leB 2 (fitN o.1 o.2.1) else if o.1 = 4 then leB 4 (fitN o.1 o.2.1) else o.2.2
def putB (data : List UInt8) (lim bad : Int) (o : It) : List UInt8 × Int :=
  if o.1 = 1 then numB data lim bad (fitN o.1 o.2.1) 1 else if o.1 = 2 then numB data lim bad (fitN o.1 o.2.1) 2 else if o.1 = 4 then numB data lim bad (fitN o.1 o.2.1) 4 else txtB data lim bad o.2.2
def encs (l : List It) : List UInt8 := l.flatMap encI
end Vw
namespace Vw
theorem mem_sum {α : Type} {f : α → Nat} {o : α} : ∀ {l : List α}, o ∈ l → f o ≤ (l.map f).sum
  | x :: l, h => by
    rcases List.mem_cons.1 h with rfl | h
    · simp
    · have := mem_sum (f := f) h; simp only [List.map_cons, List.sum_cons]; omega
end Vw

namespace Vw
open Go
abbrev Wr := Int × Option Addr × Nat × List UInt8
def wF (z : Wr) : List Value := [.int .i64 z.1, .slice z.2.1 z.2.2.2.length z.2.2.1]
def wL (z : Wr) : Int := z.2.2.2.length
def rgt (size : Int) : List Wr → Int → Bool
  | [], _ => true
  | z :: l, e => if wL z = 0 ∨ z.1 < e ∨ size < z.1 ∨ size - z.1 < wL z then false else rgt size l (z.1 + wL z)
theorem rgt_step (size : Int) (l : List Wr) {i : Nat} (h : i < l.length) (e : Int) :
    rgt size (l.drop i) e = (if wL l[i] = 0 ∨ l[i].1 < e ∨ size < l[i].1 ∨ size - l[i].1 < wL l[i] then false else rgt size (l.drop (i + 1)) (l[i].1 + wL l[i])) := by
  rw [List.drop_eq_getElem_cons h]; rfl
theorem rgt_all (size : Int) : ∀ (l : List Wr) (e : Int), 0 ≤ e → rgt size l e = true → ∀ z ∈ l, 0 ≤ z.1 ∧ z.1 + wL z ≤ size
  | [], _, _, _, z, hz => absurd hz (by simp)
  | x :: l, e, he, h, z, hz => by
    unfold rgt at h
    split at h
    · cases h
    · rename_i hb
      simp only [not_or, Int.not_lt] at hb
      have hw : 0 ≤ wL x := Int.natCast_nonneg _
      rcases List.mem_cons.1 hz with rfl | hz
      · omega
      · exact rgt_all size l _ (by omega) h z hz
def spF (s : Int × Int) : List Value := [.int .i64 s.1, .int .i64 s.2]
def savL (old : Int) (l : List Wr) : List (Int × Int) := l.flatMap fun z => if z.1 < min old (z.1 + wL z) then [(z.1, min old (z.1 + wL z))] else []
theorem savL_succ (old : Int) {l : List Wr} {i : Nat} (h : i < l.length) : savL old (l.take (i + 1)) = savL old (l.take i) ++ (if l[i].1 < min old (l[i].1 + wL l[i]) then [(l[i].1, min old (l[i].1 + wL l[i]))] else []) := by
  unfold savL; rw [List.take_succ_eq_append_getElem h, List.flatMap_append]; simp
def lonZ (l : List (Int × Int)) : Int := (l.map fun s => 8 + s.2 - s.1).sum
theorem lonZ_succ {l : List (Int × Int)} {i : Nat} (h : i < l.length) : lonZ (l.take (i + 1)) = lonZ (l.take i) + (8 + l[i].2 - l[i].1) := by
  unfold lonZ; rw [List.take_succ_eq_append_getElem h, List.map_append, List.sum_append]; simp
def upZ (n : Int) : Int := (n + 512 - 1) / 512 * 512
def filZ (old size length : Int) : Int := old + max 1 ((upZ (max old size) + upZ length + 512 - old + 1024 - 1) / 1024) * 1024
theorem rd_rows {b T n sz : Nat} {vs : List Value} {h : Heaplet} (hb : cb b T vs h) (hn : vs.length = n * sz) : RdC h (.slice (some ⟨b, 0, none⟩) n n) sz n vs := by
  refine ⟨hn, .inr ⟨_, n, rfl, Nat.le_refl _, fun j u hu => ?_⟩⟩
  have hadd : (⟨b, 0, none⟩ : Addr).add j = ⟨b, j, none⟩ := by unfold Addr.add; split <;> simp_all
  rw [hadd]
  have hb' : h b = some (.cells vs.toArray T (0, 0)) := hb
  simp [cellH, hb', hu]
end Vw

namespace Vw
open Go
abbrev Pc := Nat × List UInt8
abbrev Ch := Int × List Int × Int
structure DS where
  room : Int
  now : List UInt8
  dur : List UInt8
  pcs : List Pc
  sizes : List Nat
  calls : Nat
  fuse : Int
  dead : Bool
def secN (at_ n : Nat) : Nat := min n ((at_ / 512 + 1) * 512 - at_)
def cutF : Nat → Nat → List UInt8 → List Pc
  | 0, _, _ => []
  | f + 1, at_, l => if l = [] then [] else (at_, l.take (secN at_ l.length)) :: cutF f (at_ + secN at_ l.length) (l.drop (secN at_ l.length))
def cut (at_ : Nat) (l : List UInt8) : List Pc := cutF l.length at_ l
theorem secN_pos {at_ n : Nat} (h : 0 < n) : 0 < secN at_ n := by unfold secN; omega
theorem secN_le (at_ n : Nat) : secN at_ n ≤ n := by unfold secN; omega
theorem cutF_more : ∀ (f g at_ : Nat) (l : List UInt8), l.length ≤ f → l.length ≤ g → cutF f at_ l = cutF g at_ l
  | 0, g, at_, l, h, _ => by
    have : l = [] := List.eq_nil_of_length_eq_zero (by omega)
    subst this
    cases g <;> simp [cutF]
  | f + 1, 0, at_, l, _, h => by
    have : l = [] := List.eq_nil_of_length_eq_zero (by omega)
    subst this
    simp [cutF]
  | f + 1, g + 1, at_, l, h1, h2 => by
    unfold cutF
    by_cases e : l = []
    · rw [if_pos e, if_pos e]
    · rw [if_neg e, if_neg e]
      have hp : 0 < l.length := List.length_pos_iff.2 e
      have := secN_pos (at_ := at_) hp
      rw [cutF_more f g _ _ (by rw [List.length_drop]; omega) (by rw [List.length_drop]; omega)]
theorem cut_nil (at_ : Nat) : cut at_ [] = [] := rfl
theorem cut_cons {at_ : Nat} {l : List UInt8} (h : l ≠ []) : cut at_ l = (at_, l.take (secN at_ l.length)) :: cut (at_ + secN at_ l.length) (l.drop (secN at_ l.length)) := by
  have hp : 0 < l.length := List.length_pos_iff.2 h
  have hs := secN_pos (at_ := at_) hp
  obtain ⟨n, hn⟩ : ∃ n, l.length = n + 1 := ⟨l.length - 1, by omega⟩
  unfold cut
  rw [hn, cutF, if_neg h, ← hn]
  congr 1
  exact cutF_more _ _ _ _ (by rw [List.length_drop]; omega) (Nat.le_refl _)
def PcOk (room : Int) (p : Pc) : Prop := p.2 ≠ [] ∧ (p.1 + p.2.length - 1) / 512 = p.1 / 512 ∧ ((p.1 + p.2.length : Nat) : Int) ≤ room
theorem cut_ok (room : Int) : ∀ (n at_ : Nat) (l : List UInt8), l.length ≤ n → ((at_ + l.length : Nat) : Int) ≤ room → ∀ p ∈ cut at_ l, PcOk room p ∧ at_ ≤ p.1 ∧ p.1 + p.2.length ≤ at_ + l.length
  | 0, at_, l, hn, _, p, hp => by
    have : l = [] := List.eq_nil_of_length_eq_zero (by omega)
    subst this
    rw [cut_nil] at hp; cases hp
  | n + 1, at_, l, hn, hr, p, hp => by
    by_cases e : l = []
    · subst e; rw [cut_nil] at hp; cases hp
    · have hl : 0 < l.length := List.length_pos_iff.2 e
      have hs := secN_pos (at_ := at_) hl
      have hs2 := secN_le at_ l.length
      rw [cut_cons e] at hp
      rcases List.mem_cons.1 hp with rfl | hp
      · have hlen : (l.take (secN at_ l.length)).length = secN at_ l.length := by rw [List.length_take]; omega
        refine ⟨⟨?_, ?_, ?_⟩, Nat.le_refl _, ?_⟩
        · intro h0
          have := congrArg List.length h0
          rw [hlen] at this; simp at this; omega
        · rw [hlen]; unfold secN at hs ⊢; omega
        · rw [hlen]; simp only; omega
        · rw [hlen]; simp only; omega
      · have := cut_ok room n (at_ + secN at_ l.length) (l.drop (secN at_ l.length)) (by rw [List.length_drop]; omega) (by rw [List.length_drop]; omega) p hp
        rw [List.length_drop] at this
        refine ⟨this.1, by omega, by omega⟩
theorem cut_len : ∀ (n at_ : Nat) (l : List UInt8), l.length ≤ n → (cut at_ l).length ≤ l.length / 512 + 2
  | 0, at_, l, hn => by
    have : l = [] := List.eq_nil_of_length_eq_zero (by omega)
    subst this
    simp [cut_nil]
  | n + 1, at_, l, hn => by
    by_cases e : l = []
    · subst e; simp [cut_nil]
    · have key : ∀ (n at_ : Nat) (l : List UInt8), l.length ≤ n → at_ % 512 = 0 → (cut at_ l).length ≤ (l.length + 511) / 512 := by
        intro n
        induction n with
        | zero =>
          intro at_ l hn _
          have : l = [] := List.eq_nil_of_length_eq_zero (by omega)
          subst this
          simp [cut_nil]
        | succ n ih =>
          intro at_ l hn ha
          by_cases e : l = []
          · subst e; simp [cut_nil]
          · have hl : 0 < l.length := List.length_pos_iff.2 e
            rw [cut_cons e, List.length_cons]
            by_cases h5 : l.length ≤ 512
            · have : secN at_ l.length = l.length := by unfold secN; omega
              rw [this, List.drop_length, cut_nil]
              simp; omega
            · have h6 : secN at_ l.length = 512 := by unfold secN; omega
              rw [h6]
              have := ih (at_ + 512) (l.drop 512) (by rw [List.length_drop]; omega) (by omega)
              rw [List.length_drop] at this
              omega
      have hl : 0 < l.length := List.length_pos_iff.2 e
      rw [cut_cons e, List.length_cons]
      by_cases h5 : secN at_ l.length = l.length
      · rw [h5, List.drop_length, cut_nil]; simp
      · have := key (l.drop (secN at_ l.length)).length (at_ + secN at_ l.length) (l.drop (secN at_ l.length)) (Nat.le_refl _) (by unfold secN at h5 ⊢; omega)
        rw [List.length_drop] at this
        have hs := secN_pos (at_ := at_) hl
        omega
def ext (l : List UInt8) (n : Nat) : List UInt8 := l ++ List.replicate (n - l.length) 0
theorem ext_length (l : List UInt8) (n : Nat) : (ext l n).length = max l.length n := by simp [ext]; omega
theorem ext_same {l : List UInt8} {n : Nat} (h : n ≤ l.length) : ext l n = l := by simp [ext, Nat.sub_eq_zero_of_le h]
def layS (s : DS) (at_ : Nat) (data : List UInt8) : DS := { s with now := spl (ext s.now (at_ + data.length)) at_ data, pcs := s.pcs ++ cut at_ data }
def spent (s : DS) : DS := if s.fuse = 0 then { s with dead := true } else { s with fuse := (if 0 < s.fuse then s.fuse - 1 else s.fuse), calls := s.calls + 1 }
def layW (s : DS) (off : Nat) (data : List UInt8) : DS := if s.now.length < off then layS s s.now.length (List.replicate (off - s.now.length) 0 ++ data) else layS s off data
def sized (s : DS) (old : Nat) : DS := if s.now.length ≠ old then { s with sizes := s.sizes ++ [s.now.length] } else s
def wrS (s : DS) (off : Int) (data : List UInt8) : Int × DS :=
  if s.dead = true then (12, s) else if off < 0 then (1, s) else if s.room < data.length ∨ s.room - data.length < off then (10, s)
  else if s.fuse = 0 then (12, spent s) else if data = [] then (0, spent s) else (0, sized (layW (spent s) off.toNat data) s.now.length)
def trC (s : DS) (n : Nat) : DS := if s.now.length < n then layS s s.now.length (List.replicate (n - s.now.length) 0) else s
def trN (s : DS) (n : Nat) : DS := { trC s n with now := (trC s n).now.take n }
def trS (s : DS) (size : Int) : Int × DS :=
  if s.dead = true then (12, s) else if size < 0 then (1, s) else if s.room < size then (10, s)
  else if s.fuse = 0 then (12, spent s) else (0, sized (trN (spent s) size.toNat) s.now.length)
def syS (s : DS) : Int × DS :=
  if s.dead = true then (12, s) else if s.fuse = 0 then (12, spent s) else (0, { spent s with dur := s.now, pcs := [], sizes := [] })
def fuS (s : DS) (n : Int) : DS := if s.dead = true then s else { s with fuse := max n (-1) }
def rdE (s : DS) (off n : Int) : Int :=
  if s.dead = true then 12 else if off < 0 ∨ n < 0 then 1 else if (s.now.length : Int) < n ∨ s.now.length - n < off then 11 else 0
def rdV (s : DS) (off n : Int) : List UInt8 := if rdE s off n = 0 then (s.now.drop off.toNat).take n.toNat else []
def keepOf (c : Ch) (sec : Nat) : Int := if h : sec < c.2.1.length then c.2.1[sec] else c.2.2
def szIx (s : DS) (c : Ch) : Int := min c.1 s.sizes.length
def outN (s : DS) (c : Ch) : Nat := if 0 < szIx s c then s.sizes.getD ((szIx s c).toNat - 1) 0 else s.dur.length
def secP (ps : List Pc) (sec : Nat) : List Pc := ps.filter fun p => decide (p.1 / 512 = sec)
def vis (ps : List Pc) (x : Nat) (b : UInt8) : UInt8 := ps.foldl (fun b p => if p.1 ≤ x ∧ x < p.1 + p.2.length then p.2.getD (x - p.1) 0 else b) b
def keptP (s : DS) (c : Ch) (sec : Nat) : List Pc := (secP s.pcs sec).take (keepOf c sec).toNat
def outS (s : DS) (c : Ch) : List UInt8 := (List.range (outN s c)).map fun x => vis (keptP s c (x / 512)) x (s.dur.getD x 0)
def newS (image : List UInt8) (room : Int) : DS := { room := room, now := image, dur := image, pcs := [], sizes := [], calls := 0, fuse := -1, dead := false }
def kilS (s : DS) : DS := { s with dead := true }
theorem outS_length (s : DS) (c : Ch) : (outS s c).length = outN s c := by simp [outS]
structure DOk (s : DS) : Prop where
  room0 : 0 ≤ s.room
  room1 : s.room ≤ 16777216
  now : (s.now.length : Int) ≤ s.room
  dur : (s.dur.length : Int) ≤ s.room
  sizes : ∀ n ∈ s.sizes, (n : Int) ≤ s.room
  pcs : ∀ p ∈ s.pcs, PcOk s.room p
  fuse : -1 ≤ s.fuse ∧ s.fuse ≤ 9223372036854775807
structure DB (s : DS) (k : Nat) : Prop where
  calls : s.calls ≤ k
  sizes : s.sizes.length ≤ k
  pcs : s.pcs.length ≤ 32770 * k
theorem newS_ok {image : List UInt8} {room : Int} (h0 : 0 ≤ room) (h1 : room ≤ 16777216) (h2 : (image.length : Int) ≤ room) : DOk (newS image room) :=
  ⟨h0, h1, h2, h2, by simp [newS], by simp [newS], by simp [newS]⟩
theorem newS_b (image : List UInt8) (room : Int) (k : Nat) : DB (newS image room) k := ⟨by simp [newS], by simp [newS], by simp [newS]⟩
theorem spent_ok {s : DS} (h : DOk s) : DOk (spent s) := by
  unfold spent
  split
  · exact ⟨h.room0, h.room1, h.now, h.dur, h.sizes, h.pcs, h.fuse⟩
  · exact ⟨h.room0, h.room1, h.now, h.dur, h.sizes, h.pcs, by have := h.fuse; simp only; split <;> omega⟩
theorem spent_b {s : DS} {k : Nat} (h : DB s k) : DB (spent s) (k + 1) := by
  unfold spent
  split
  · exact ⟨Nat.le_succ_of_le h.calls, Nat.le_succ_of_le h.sizes, by have := h.pcs; simp only; omega⟩
  · exact ⟨Nat.succ_le_succ h.calls, Nat.le_succ_of_le h.sizes, by have := h.pcs; simp only; omega⟩
theorem spent_now (s : DS) : (spent s).now = s.now ∧ (spent s).room = s.room ∧ (spent s).dur = s.dur ∧ (spent s).pcs = s.pcs ∧ (spent s).sizes = s.sizes := by
  unfold spent; split <;> exact ⟨rfl, rfl, rfl, rfl, rfl⟩
theorem layS_len {s : DS} {at_ : Nat} {data : List UInt8} : (layS s at_ data).now.length = max s.now.length (at_ + data.length) := by
  unfold layS; simp only
  rw [spl_length _ _ _ (by rw [ext_length]; omega), ext_length]
theorem layS_ok {s : DS} (h : DOk s) {at_ : Nat} {data : List UInt8} (hf : ((at_ + data.length : Nat) : Int) ≤ s.room) : DOk (layS s at_ data) := by
  refine ⟨h.room0, h.room1, ?_, h.dur, h.sizes, ?_, h.fuse⟩
  · rw [layS_len]; have := h.now; show _ ≤ s.room; omega
  · intro p hp
    rcases List.mem_append.1 hp with hp | hp
    · exact h.pcs p hp
    · exact (cut_ok s.room _ at_ data (Nat.le_refl _) hf p hp).1
theorem layW_len (s : DS) (off : Nat) (data : List UInt8) : (layW s off data).now.length = max s.now.length (off + data.length) := by
  unfold layW; split
  · rw [layS_len]; simp; omega
  · rw [layS_len]
theorem layW_ok {s : DS} (h : DOk s) {off : Nat} {data : List UInt8} (hf : ((off + data.length : Nat) : Int) ≤ s.room) : DOk (layW s off data) := by
  unfold layW; split
  · exact layS_ok h (by simp; omega)
  · exact layS_ok h hf
theorem sized_ok {s : DS} (h : DOk s) (n : Nat) : DOk (sized s n) := by
  unfold sized; split
  · refine ⟨h.room0, h.room1, h.now, h.dur, ?_, h.pcs, h.fuse⟩
    intro m hm
    rcases List.mem_append.1 hm with hm | hm
    · exact h.sizes m hm
    · have : m = s.now.length := by simpa using hm
      subst this; exact h.now
  · exact h
theorem sized_b {s : DS} {k n : Nat} (h1 : s.calls ≤ k + 1) (h2 : s.sizes.length ≤ k) (h3 : s.pcs.length ≤ 32770 * (k + 1)) : DB (sized s n) (k + 1) := by
  unfold sized; split
  · exact ⟨h1, by simp; omega, h3⟩
  · exact ⟨h1, Nat.le_succ_of_le h2, h3⟩
theorem spent_calls {s : DS} {k : Nat} (h : s.calls ≤ k) : (spent s).calls ≤ k + 1 := by unfold spent; split <;> simp only <;> omega
theorem wrS_ok {s : DS} (h : DOk s) (off : Int) (data : List UInt8) : DOk (wrS s off data).2 := by
  unfold wrS
  repeat' split
  all_goals first | exact h | exact spent_ok h | skip
  rename_i h1 h2 h3 h4
  refine sized_ok (layW_ok (spent_ok h) ?_) _
  rw [(spent_now s).2.1]
  have := h.room0
  omega
theorem DB.up {s : DS} {k l : Nat} (h : DB s k) (hl : k ≤ l) : DB s l := ⟨Nat.le_trans h.calls hl, Nat.le_trans h.sizes hl, Nat.le_trans h.pcs (Nat.mul_le_mul_left _ hl)⟩
theorem wrS_b {s : DS} (ho : DOk s) {k : Nat} (h : DB s k) (off : Int) (data : List UInt8) : DB (wrS s off data).2 (k + 1) := by
  unfold wrS
  repeat' split
  all_goals first | exact h.up (Nat.le_succ _) | exact spent_b h | skip
  rename_i h1 h2 h3 h4
  have r1 := ho.room1
  have e := spent_now s
  have hp := h.pcs
  have hz := h.sizes
  refine sized_b ?_ ?_ ?_
  · unfold layW; split <;> exact spent_calls h.calls
  · unfold layW; split <;> (show (spent s).sizes.length ≤ k; rw [e.2.2.2.2]; exact hz)
  · unfold layW; split
    · have h2 := cut_len _ (spent s).now.length (List.replicate (off.toNat - (spent s).now.length) 0 ++ data) (Nat.le_refl _)
      unfold layS; simp only [List.length_append, e.2.2.2.1]
      simp only [List.length_append, List.length_replicate] at h2
      omega
    · have h2 := cut_len _ off.toNat data (Nat.le_refl _)
      unfold layS; simp only [List.length_append, e.2.2.2.1]
      omega
theorem trN_len (s : DS) (n : Nat) : (trN s n).now.length = n := by
  unfold trN trC; simp only [List.length_take]
  split
  · rw [layS_len]; simp; omega
  · omega
theorem trN_ok {s : DS} (h : DOk s) {n : Nat} (hn : (n : Int) ≤ s.room) : DOk (trN s n) := by
  have hc : DOk (trC s n) ∧ (trC s n).room = s.room := by
    unfold trC; split
    · exact ⟨layS_ok h (by simp; omega), rfl⟩
    · exact ⟨h, rfl⟩
  refine ⟨hc.1.room0, hc.1.room1, ?_, hc.1.dur, hc.1.sizes, hc.1.pcs, hc.1.fuse⟩
  rw [trN_len]; show (n : Int) ≤ (trC s n).room; rw [hc.2]; exact hn
theorem trS_ok {s : DS} (h : DOk s) (size : Int) : DOk (trS s size).2 := by
  unfold trS
  repeat' split
  all_goals first | exact h | exact spent_ok h | skip
  rename_i h1 h2 h3 h4
  refine sized_ok (trN_ok (spent_ok h) ?_) _
  rw [(spent_now s).2.1]
  omega
theorem trS_b {s : DS} (ho : DOk s) {k : Nat} (h : DB s k) (size : Int) : DB (trS s size).2 (k + 1) := by
  unfold trS
  repeat' split
  all_goals first | exact h.up (Nat.le_succ _) | exact spent_b h | skip
  rename_i h1 h2 h3 h4
  have r1 := ho.room1
  have e := spent_now s
  have hp := h.pcs
  have hz := h.sizes
  refine sized_b ?_ ?_ ?_
  · unfold trN trC; split <;> exact spent_calls h.calls
  · unfold trN trC; split <;> (show (spent s).sizes.length ≤ k; rw [e.2.2.2.2]; exact hz)
  · unfold trN trC; split
    · have h2 := cut_len _ (spent s).now.length (List.replicate (size.toNat - (spent s).now.length) 0) (Nat.le_refl _)
      unfold layS; simp only [List.length_append, e.2.2.2.1]
      simp only [List.length_replicate] at h2
      omega
    · show (spent s).pcs.length ≤ _
      rw [e.2.2.2.1]; omega
theorem syS_ok {s : DS} (h : DOk s) : DOk (syS s).2 := by
  unfold syS
  repeat' split
  all_goals first | exact h | exact spent_ok h | skip
  have e := spent_now s
  have h' := spent_ok h
  refine ⟨h'.room0, h'.room1, h'.now, ?_, by simp, by simp, h'.fuse⟩
  show (s.now.length : Int) ≤ (spent s).room
  rw [e.2.1]; exact h.now
theorem syS_b {s : DS} {k : Nat} (h : DB s k) : DB (syS s).2 (k + 1) := by
  unfold syS
  repeat' split
  all_goals first | exact h.up (Nat.le_succ _) | exact spent_b h | skip
  exact ⟨spent_calls h.calls, by simp, by simp⟩
theorem fuS_ok {s : DS} (h : DOk s) {n : Int} (hn : n ≤ 9223372036854775807) : DOk (fuS s n) := by
  unfold fuS; split
  · exact h
  · exact ⟨h.room0, h.room1, h.now, h.dur, h.sizes, h.pcs, by simp only; omega⟩
theorem fuS_b {s : DS} {k : Nat} (h : DB s k) (n : Int) : DB (fuS s n) k := by
  unfold fuS; split
  · exact h
  · exact ⟨h.calls, h.sizes, h.pcs⟩
theorem kilS_ok {s : DS} (h : DOk s) : DOk (kilS s) := ⟨h.room0, h.room1, h.now, h.dur, h.sizes, h.pcs, h.fuse⟩
theorem kilS_b {s : DS} {k : Nat} (h : DB s k) : DB (kilS s) k := ⟨h.calls, h.sizes, h.pcs⟩
theorem outN_le {s : DS} (h : DOk s) (c : Ch) : (outN s c : Int) ≤ s.room := by
  unfold outN; split
  · rename_i h0
    unfold szIx at h0 ⊢
    have hlt : (min c.1 s.sizes.length).toNat - 1 < s.sizes.length := by omega
    have := h.sizes _ (List.getElem_mem hlt)
    rw [List.getD_eq_getElem?_getD, List.getElem?_eq_getElem hlt]
    exact this
  · exact h.dur
theorem vis_append (a b : List Pc) (x : Nat) (u : UInt8) : vis (a ++ b) x u = vis b x (vis a x u) := by unfold vis; rw [List.foldl_append]
theorem secP_append (a b : List Pc) (sec : Nat) : secP (a ++ b) sec = secP a sec ++ secP b sec := by unfold secP; rw [List.filter_append]
end Vw
