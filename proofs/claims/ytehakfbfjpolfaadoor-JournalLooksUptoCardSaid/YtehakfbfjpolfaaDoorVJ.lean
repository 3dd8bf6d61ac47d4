/- The small proof library: the journal's numbers. -/
import Derived.Test.YtehakfbfjpolfaaDoorVI
set_option linter.all false
namespace Vw
open Go
abbrev Wr := Int × Option Addr × Nat × List UInt8
def wF (z : Wr) : List Value := [.int .i64 z.1, .slice z.2.1 z.2.2.2.length z.2.2.1]
def wL (z : Wr) : Int := z.2.2.2.length
def rgt (size : Int) : List Wr → Int → Bool
  | [], _ => true
  | z :: l, e => if wL z = 0 ∨ z.1 < e ∨ size < z.1 ∨ size - z.1 < wL z then false else rgt size l (z.1 + wL z)
theorem rgt_step (size : Int) (l : List Wr) {i : Nat} (h : i < l.length) (e : Int) :
    rgt size (l.drop i) e = (if wL l[i] = 0 ∨ l[i].1 < e ∨ size < l[i].1 ∨ size - l[i].1 < wL l[i] then false else rgt size (l.drop (i + 1)) (l[i].1 + wL l[i])) := by
  rw [List.drop_eq_getElem_cons h]; rfl
theorem rgt_all (size : Int) : ∀ (l : List Wr) (e : Int), 0 ≤ e → rgt size l e = true → ∀ z ∈ l, 0 ≤ z.1 ∧ z.1 + wL z ≤ size
  | [], _, _, _, z, hz => absurd hz (by simp)
  | x :: l, e, he, h, z, hz => by
    unfold rgt at h
    split at h
    · cases h
    · rename_i hb
      simp only [not_or, Int.not_lt] at hb
      have hw : 0 ≤ wL x := Int.natCast_nonneg _
      rcases List.mem_cons.1 hz with rfl | hz
      · omega
      · exact rgt_all size l _ (by omega) h z hz
def spF (s : Int × Int) : List Value := [.int .i64 s.1, .int .i64 s.2]
def savL (old : Int) (l : List Wr) : List (Int × Int) := l.flatMap fun z => if z.1 < min old (z.1 + wL z) then [(z.1, min old (z.1 + wL z))] else []
theorem savL_succ (old : Int) {l : List Wr} {i : Nat} (h : i < l.length) : savL old (l.take (i + 1)) = savL old (l.take i) ++ (if l[i].1 < min old (l[i].1 + wL l[i]) then [(l[i].1, min old (l[i].1 + wL l[i]))] else []) := by
  unfold savL; rw [List.take_succ_eq_append_getElem h, List.flatMap_append]; simp
def lonZ (l : List (Int × Int)) : Int := (l.map fun s => 8 + s.2 - s.1).sum
theorem lonZ_succ {l : List (Int × Int)} {i : Nat} (h : i < l.length) : lonZ (l.take (i + 1)) = lonZ (l.take i) + (8 + l[i].2 - l[i].1) := by
  unfold lonZ; rw [List.take_succ_eq_append_getElem h, List.map_append, List.sum_append]; simp
theorem lonZ_append (a b : List (Int × Int)) : lonZ (a ++ b) = lonZ a + lonZ b := by unfold lonZ; rw [List.map_append, List.sum_append]
def upZ (n : Int) : Int := (n + 512 - 1) / 512 * 512
def filZ (old size length : Int) : Int := old + max 1 ((upZ (max old size) + upZ length + 512 - old + 1024 - 1) / 1024) * 1024
theorem rd_rows {b T n sz : Nat} {vs : List Value} {h : Heaplet} (hb : cb b T vs h) (hn : vs.length = n * sz) : RdC h (.slice (some ⟨b, 0, none⟩) n n) sz n vs := by
  refine ⟨hn, .inr ⟨_, n, rfl, Nat.le_refl _, fun j u hu => ?_⟩⟩
  have hadd : (⟨b, 0, none⟩ : Addr).add j = ⟨b, j, none⟩ := by unfold Addr.add; split <;> simp_all
  rw [hadd]
  have hb' : h b = some (.cells vs.toArray T (0, 0)) := hb
  simp [cellH, hb', hu]
/-- An owned slice of structs, read. -/
theorem slS_rd {α : Type} {f : α → List Value} {T sz : Nat} {v : Value} {l : List α} {h : Heaplet} (hh : sl T sz v l.length (l.flatMap f) h) : RdS f sz h v l := sl_rd hh
end Vw
