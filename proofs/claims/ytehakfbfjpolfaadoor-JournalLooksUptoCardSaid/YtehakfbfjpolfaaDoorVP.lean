/- The small proof library: counts by sector; a piece laid byte by byte. -/
import Derived.Test.YtehakfbfjpolfaaDoorVO
set_option linter.all false
namespace Vw
open Go
theorem sl_blk {σ : Sig} {w : World} {R : List Asrt} {T sz n c : Nat} {a : Option Addr} {xs : List Value} (hs : St σ w (sl T sz (.slice a n c) n xs :: R)) (hn : 0 < n) : ∃ b, a = some ⟨b, 0, none⟩ := by
  refine hs.see (p := ∃ b, a = some ⟨b, 0, none⟩) fun h _ hh => ?_
  rcases hh.2 with ⟨e, h0⟩ | ⟨b, cap, cur, e, _⟩
  · omega
  · cases e; exact ⟨b, rfl⟩
/-- How many pieces of each sector there are among the first i. -/
def cntC (pcs : List Pc) (i L : Nat) : List Value := (List.range L).map fun sec => Value.int .i64 ((secP (pcs.take i) sec).length : Int)
theorem cntC_len (pcs : List Pc) (i L : Nat) : (cntC pcs i L).length = L := by simp [cntC]
theorem cntC_get (pcs : List Pc) (i : Nat) {L sec : Nat} (h : sec < L) : (cntC pcs i L)[sec]? = some (.int .i64 ((secP (pcs.take i) sec).length : Int)) := by simp [cntC, h]
theorem cntC_0 (pcs : List Pc) (L : Nat) : (madeCells (Value.int .i64 0).cells (L * 1)).toList = cntC pcs 0 L := by
  apply List.ext_getElem?
  intro i
  simp only [madeCells, cntC, List.take_zero]
  by_cases h : i < L
  · simp [h, Value.cells, Nat.mod_one, secP]
  · simp [h]
theorem cntC_set (pcs : List Pc) {i L : Nat} (hi : i < pcs.length) {sec : Nat} (hs : sec = pcs[i].1 / 512) (hl : sec < L) :
    (cntC pcs i L).set sec (.int .i64 (((secP (pcs.take i) sec).length : Int) + 1)) = cntC pcs (i + 1) L := by
  apply List.ext_getElem?
  intro j
  rw [List.getElem?_set]
  by_cases hj : sec = j
  · subst hj
    rw [if_pos rfl, if_pos (by rw [cntC_len]; exact hl), cntC_get _ _ hl, secP_take_succ hi, if_pos hs.symm]
    simp
  · rw [if_neg hj]
    by_cases h2 : j < L
    · rw [cntC_get _ _ h2, cntC_get _ _ h2, secP_take_succ hi, if_neg (by omega), List.append_nil]
    · rw [List.getElem?_eq_none (by rw [cntC_len]; omega), List.getElem?_eq_none (by rw [cntC_len]; omega)]
theorem putP_step {out data : List UInt8} {at_ j : Nat} (h1 : at_ + j < out.length) (hj : j < data.length) : (putP out (at_, data.take j)).set (at_ + j) data[j] = putP out (at_, data.take (j + 1)) := by
  refine getD_list (by rw [List.length_set, putP_len, putP_len]) fun x hx => ?_
  rw [List.length_set, putP_len] at hx
  rw [putP_get _ _ hx, vis_one]
  have e0 : ((putP out (at_, data.take j)).set (at_ + j) data[j]).getD x 0 = if at_ + j = x then data[j] else (putP out (at_, data.take j)).getD x 0 := by
    simp only [List.getD_eq_getElem?_getD, List.getElem?_set]
    by_cases e : at_ + j = x
    · rw [if_pos e, if_pos e, if_pos (by rw [putP_len]; omega)]; rfl
    · rw [if_neg e, if_neg e]
  rw [e0]
  simp only [List.length_take]
  by_cases e : at_ + j = x
  · rw [if_pos e, if_pos (by omega)]
    simp only [List.getD_eq_getElem?_getD, List.getElem?_take]
    rw [if_pos (by omega), show x - at_ = j by omega, List.getElem?_eq_getElem hj]; rfl
  · rw [if_neg e, putP_get _ _ hx, vis_one]
    simp only [List.length_take]
    by_cases h2 : at_ ≤ x ∧ x < at_ + min j data.length
    · rw [if_pos h2, if_pos (by omega)]
      simp only [List.getD_eq_getElem?_getD, List.getElem?_take]
      rw [if_pos (by omega), if_pos (by omega)]
    · rw [if_neg h2, if_neg (by omega)]
theorem putP_stop {out data : List UInt8} {at_ j : Nat} (h : data.length ≤ j ∨ out.length ≤ at_ + j) : putP out (at_, data.take j) = putP out (at_, data) := by
  rcases h with h | h
  · rw [List.take_of_length_le h]
  · unfold putP
    simp only
    by_cases h2 : at_ < out.length
    · rw [if_pos h2, if_pos h2, List.take_take, Nat.min_eq_left (by omega)]
    · rw [if_neg h2, if_neg h2]
theorem putP_zero (out : List UInt8) (at_ : Nat) (data : List UInt8) : putP out (at_, data.take 0) = out := by
  refine getD_list (putP_len _ _) fun x hx => ?_
  rw [putP_len] at hx
  rw [putP_get _ _ hx, vis_one, if_neg (by intro h9; simp at h9; try omega)]
theorem rpF_one {h : Heaplet} {p : Pt} (hp : RdB h p.2.1 p.2.2) : ∀ v ∈ rpF p, v.oneCell' = true := by
  obtain ⟨a, c, e⟩ := hp.shape
  intro v hv
  simp only [rpF, List.mem_cons, List.not_mem_nil, or_false] at hv
  rcases hv with rfl | rfl | rfl
  · rfl
  · rfl
  · rw [e]; rfl
theorem St.datRd {σ : Sig} {w : World} {L R : List Asrt} {T : Nat} {ps : List Pt} (hs : St σ w L) (tk : Take (datA T ps) L R) {i : Nat} (hi : i < ps.length) : RdB (hp w) ps[i].2.1 ps[i].2.2 := hs.dats tk (List.getElem_mem hi)
theorem pcs_get {ps : List Pt} {pcs : List Pc} (h : ps.map pcOf = pcs) {i : Nat} (hi : i < ps.length) : ∃ h2 : i < pcs.length, pcs[i] = (ps[i].1, ps[i].2.2) := by
  subst h
  refine ⟨by simpa using hi, ?_⟩
  rw [List.getElem_map]; rfl
theorem mem_take_get {α : Type} {p : α → Prop} {l : List α} {i : Nat} (hi : i < l.length) (h : ∀ q ∈ l.take i, p q) (h2 : p l[i]) : ∀ q ∈ l.take (i + 1), p q := by
  intro q hq
  rw [List.take_succ_eq_append_getElem hi, List.mem_append] at hq
  rcases hq with hq | hq
  · exact h q hq
  · simp at hq; subst hq; exact h2
end Vw
namespace Vw
open Go
/-- Two ways that meet again. -/
theorem c_join {P : Program} {Q : Exit → Act → World → Prop} {a : Act} {w : World} {N : Nat} {c1 c2 : Code} {L0 : List (Nat × Value)} (I : List (Nat × Value) → World → Prop) (hk : Has N a L0)
    (h1 : c1.wp P (Exit.then (fun a' w' => ∃ M, I M w' ∧ Has N a' (M ++ L0)) Q) a w) (h2 : ∀ M a w, I M w → Has N a (M ++ L0) → c2.wp P Q a w) : (c1.seq c2).wp P Q a w := by
  refine wp_seq (wp_mono h1 fun e a' w' q => ?_)
  cases e with
  | normal => obtain ⟨M, hi, hf⟩ := q; exact h2 M a' w' hi hf
  | _ => exact q
end Vw
