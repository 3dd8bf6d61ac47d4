/- The small proof library: the journal's new content. -/
import Derived.Test.YtehakfbfjpolfaaDoorVS
set_option linter.all false
namespace Vw
open Go
def baseW (content : List UInt8) (n : Nat) : List UInt8 := content.take n ++ List.replicate (n - content.length) 0
theorem baseW_len (content : List UInt8) (n : Nat) : (baseW content n).length = n := by unfold baseW; simp; omega
theorem base_end {content : List UInt8} {n i : Nat} (h1 : i ≤ n) (h2 : i ≤ content.length) (h3 : i = n ∨ i = content.length) : content.take i ++ List.replicate (n - i) 0 = baseW content n := by
  unfold baseW
  rcases h3 with rfl | rfl
  · rw [Nat.sub_self, Nat.sub_eq_zero_of_le h2]
  · rw [List.take_length, List.take_of_length_le h1]
theorem base_spl (content : List UInt8) (n : Nat) : baseW content n = spl (List.replicate n (0 : UInt8)) 0 (content.take (min content.length n)) := by
  unfold spl baseW
  simp only [List.take_zero, List.nil_append, List.length_take, Nat.zero_add, List.drop_replicate]
  rw [show min (min content.length n) content.length = min content.length n by omega]
  by_cases h : content.length ≤ n
  · rw [Nat.min_eq_left h, List.take_length, List.take_of_length_le h]
  · rw [Nat.min_eq_right (by omega), show n - content.length = 0 by omega, Nat.sub_self]
theorem base_step {content : List UInt8} {n i : Nat} (h1 : i < n) (h2 : i < content.length) : (content.take i ++ List.replicate (n - i) 0).set i content[i] = content.take (i + 1) ++ List.replicate (n - (i + 1)) 0 := by
  have hl : (content.take i).length = i := by simp; omega
  rw [List.set_append_right _ _ (by omega), hl, Nat.sub_self]
  obtain ⟨q, hq⟩ : ∃ q, n - i = q + 1 := ⟨n - i - 1, by omega⟩
  rw [hq, show n - (i + 1) = q by omega, List.replicate_succ, List.set_cons_zero, List.take_succ_eq_append_getElem h2, List.append_assoc]
  rfl
def appW (l : List UInt8) (ws : List Wr) : List UInt8 := ws.foldl (fun l z => putP l (z.1.toNat, z.2.2.2)) l
theorem appW_len : ∀ (ws : List Wr) (l : List UInt8), (appW l ws).length = l.length
  | [], _ => rfl
  | z :: ws, l => by
    show (appW (putP l (z.1.toNat, z.2.2.2)) ws).length = _
    rw [appW_len ws, putP_len]
theorem appW_succ {l : List UInt8} {ws : List Wr} {i : Nat} (h : i < ws.length) : appW l (ws.take (i + 1)) = putP (appW l (ws.take i)) (ws[i].1.toNat, ws[i].2.2.2) := by
  unfold appW
  rw [List.take_succ_eq_append_getElem h, List.foldl_append]
  rfl
theorem putP_fit {out data : List UInt8} {at_ : Nat} (h : at_ + data.length ≤ out.length) (h0 : 0 < data.length) : putP out (at_, data) = spl out at_ data := by
  rw [putP_in (by show at_ < out.length; omega)]
  show spl out at_ (data.take (min data.length (out.length - at_))) = _
  rw [Nat.min_eq_left (by omega), List.take_length]
def aplE (cl : Nat) (size : Int) (ws : List Wr) : Int := if ¬ ((cl : Int) ≤ 16777216 ∧ 0 ≤ size ∧ size ≤ 16777216) then 1 else if rgt size ws 0 = false then 143 else 0
def aplR (content : List UInt8) (size : Int) (ws : List Wr) : List UInt8 := if aplE content.length size ws = 0 then appW (baseW content size.toNat) ws else []
theorem aplR_len (content : List UInt8) (size : Int) (ws : List Wr) : (aplR content size ws).length ≤ 16777216 := by
  unfold aplR
  split
  · rename_i h
    rw [appW_len, baseW_len]
    unfold aplE at h
    split at h
    · cases h
    · omega
  · simp
theorem at_addN (b k : Nat) : (⟨b, 0, none⟩ : Addr).add ((k : Int).toNat * 1) = ⟨b, k, none⟩ := by
  rw [Int.toNat_natCast, Nat.mul_one]; unfold Addr.add; split <;> simp_all
end Vw
