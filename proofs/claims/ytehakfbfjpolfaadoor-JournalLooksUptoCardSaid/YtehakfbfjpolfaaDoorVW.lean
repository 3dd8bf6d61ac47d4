/- The small proof library: a seal read back; one byte turned. -/
import Derived.Test.YtehakfbfjpolfaaDoorVU
set_option linter.all false
namespace Vw
open Go
theorem rd_at {l m : List UInt8} {v k : Nat} (hl : l.length = k) (hv : v < 4294967296) : rd32 (l ++ (leB 4 v ++ m)) k = v := by
  subst hl
  unfold rd32
  rw [List.drop_left, List.take_append_of_le_length (by rw [leB_len]; exact Nat.le_refl _), List.take_of_length_le (by rw [leB_len]; exact Nat.le_refl _)]
  exact leN_leB 4 v hv
theorem seal_flds {s : Sl} (hok : slOk s = true) (hsu : s.2.2.2.2.2.2 < 4294967296) : dsF (secS s) = s := by
  have h0 := slOk_st hok
  unfold slOk inF at hok
  simp only [Bool.and_eq_true, decide_eq_true_eq] at hok
  obtain ⟨⟨⟨⟨⟨_, b1⟩, b2⟩, b3⟩, b4⟩, b5⟩ := hok
  have hm : MAG.length = 8 := rfl
  obtain ⟨Z, hZ⟩ : ∃ Z, Z = leB 4 (crcU 0 (hdS s)) ++ List.replicate 472 0 := ⟨_, rfl⟩
  have hz : secS s = hdS s ++ Z := by rw [hZ]; unfold secS hcS; rw [List.append_assoc]
  clear hZ
  have e0 : secS s = (MAG) ++ (leB 4 (s.1).toNat ++ (leB 4 (s.2.1).toNat ++ (leB 4 (s.2.2.1).toNat ++ (leB 4 (s.2.2.2.1).toNat ++ (leB 4 (s.2.2.2.2.1).toNat ++ (leB 4 (s.2.2.2.2.2.1).toNat ++ (leB 4 (((s.2.2.2.2.2.2 : Nat) : Int)).toNat ++ Z))))))) := by rw [hz]; simp [hdS, fb, fldL]
  have r0 : rd32 (secS s) 8 = (s.1).toNat := by rw [e0]; exact rd_at (by simp [leB_len, hm]) (by omega)
  have e1 : secS s = (MAG ++ leB 4 (s.1).toNat) ++ (leB 4 (s.2.1).toNat ++ (leB 4 (s.2.2.1).toNat ++ (leB 4 (s.2.2.2.1).toNat ++ (leB 4 (s.2.2.2.2.1).toNat ++ (leB 4 (s.2.2.2.2.2.1).toNat ++ (leB 4 (((s.2.2.2.2.2.2 : Nat) : Int)).toNat ++ Z)))))) := by rw [hz]; simp [hdS, fb, fldL]
  have r1 : rd32 (secS s) 12 = (s.2.1).toNat := by rw [e1]; exact rd_at (by simp [leB_len, hm]) (by omega)
  have e2 : secS s = (MAG ++ leB 4 (s.1).toNat ++ leB 4 (s.2.1).toNat) ++ (leB 4 (s.2.2.1).toNat ++ (leB 4 (s.2.2.2.1).toNat ++ (leB 4 (s.2.2.2.2.1).toNat ++ (leB 4 (s.2.2.2.2.2.1).toNat ++ (leB 4 (((s.2.2.2.2.2.2 : Nat) : Int)).toNat ++ Z))))) := by rw [hz]; simp [hdS, fb, fldL]
  have r2 : rd32 (secS s) 16 = (s.2.2.1).toNat := by rw [e2]; exact rd_at (by simp [leB_len, hm]) (by omega)
  have e3 : secS s = (MAG ++ leB 4 (s.1).toNat ++ leB 4 (s.2.1).toNat ++ leB 4 (s.2.2.1).toNat) ++ (leB 4 (s.2.2.2.1).toNat ++ (leB 4 (s.2.2.2.2.1).toNat ++ (leB 4 (s.2.2.2.2.2.1).toNat ++ (leB 4 (((s.2.2.2.2.2.2 : Nat) : Int)).toNat ++ Z)))) := by rw [hz]; simp [hdS, fb, fldL]
  have r3 : rd32 (secS s) 20 = (s.2.2.2.1).toNat := by rw [e3]; exact rd_at (by simp [leB_len, hm]) (by omega)
  have e4 : secS s = (MAG ++ leB 4 (s.1).toNat ++ leB 4 (s.2.1).toNat ++ leB 4 (s.2.2.1).toNat ++ leB 4 (s.2.2.2.1).toNat) ++ (leB 4 (s.2.2.2.2.1).toNat ++ (leB 4 (s.2.2.2.2.2.1).toNat ++ (leB 4 (((s.2.2.2.2.2.2 : Nat) : Int)).toNat ++ Z))) := by rw [hz]; simp [hdS, fb, fldL]
  have r4 : rd32 (secS s) 24 = (s.2.2.2.2.1).toNat := by rw [e4]; exact rd_at (by simp [leB_len, hm]) (by omega)
  have e5 : secS s = (MAG ++ leB 4 (s.1).toNat ++ leB 4 (s.2.1).toNat ++ leB 4 (s.2.2.1).toNat ++ leB 4 (s.2.2.2.1).toNat ++ leB 4 (s.2.2.2.2.1).toNat) ++ (leB 4 (s.2.2.2.2.2.1).toNat ++ (leB 4 (((s.2.2.2.2.2.2 : Nat) : Int)).toNat ++ Z)) := by rw [hz]; simp [hdS, fb, fldL]
  have r5 : rd32 (secS s) 28 = (s.2.2.2.2.2.1).toNat := by rw [e5]; exact rd_at (by simp [leB_len, hm]) (by omega)
  have e6 : secS s = (MAG ++ leB 4 (s.1).toNat ++ leB 4 (s.2.1).toNat ++ leB 4 (s.2.2.1).toNat ++ leB 4 (s.2.2.2.1).toNat ++ leB 4 (s.2.2.2.2.1).toNat ++ leB 4 (s.2.2.2.2.2.1).toNat) ++ (leB 4 (((s.2.2.2.2.2.2 : Nat) : Int)).toNat ++ Z) := by rw [hz]; simp [hdS, fb, fldL]
  have r6 : rd32 (secS s) 32 = (((s.2.2.2.2.2.2 : Nat) : Int)).toNat := by rw [e6]; exact rd_at (by simp [leB_len, hm]) (by omega)
  unfold dsF
  rw [r0, r1, r2, r3, r4, r5, r6, Int.toNat_natCast]
  refine Prod.ext ?_ (Prod.ext ?_ (Prod.ext ?_ (Prod.ext ?_ (Prod.ext ?_ (Prod.ext ?_ rfl))))) <;> simp only [] <;> omega
theorem seal_back {s : Sl} (hok : slOk s = true) (hsu : s.2.2.2.2.2.2 < 4294967296) : decV (secS s) = s ∧ decE (secS s) = 0 := by
  have hf := seal_flds hok hsu
  have hy : decOk (secS s) = true := by
    unfold decOk
    rw [hf, hok, decide_eq_true (secS_len s), decide_eq_true rfl]; rfl
  rw [(dec_yes hy).1, (dec_yes hy).2]
  exact ⟨hf, rfl⟩
theorem sec_hd (s : Sl) {j : Nat} (h : j < 36) : (secS s)[j]? = (hdS s)[j]? := by
  unfold secS hcS
  rw [List.append_assoc, List.getElem?_append_left (by rw [hdS_len]; exact h)]
theorem sec_cr (s : Sl) {j : Nat} (h : j < 4) : (secS s)[36 + j]? = (leB 4 (crcU 0 (hdS s)))[j]? := by
  unfold secS hcS
  rw [List.append_assoc, List.getElem?_append_right (by rw [hdS_len]; omega), hdS_len, show 36 + j - 36 = j by omega, List.getElem?_append_left (by rw [leB_len]; exact h)]
theorem sec_z (s : Sl) {j : Nat} (h : 40 ≤ j) (h2 : j < 512) : (secS s)[j]? = some 0 := by
  unfold secS
  rw [List.getElem?_append_right (by rw [hcS_len]; exact h), hcS_len, List.getElem?_replicate, if_pos (by omega)]
theorem crc_one {l : List UInt8} {q : Nat} (hq : q < l.length) {x : UInt8} (h : x ≠ l[q]) : crcU 0 l ≠ crcU 0 (l.set q x) := by
  have e : l[q] ^^^ (l[q] ^^^ x) = x := by rw [← UInt8.xor_assoc, UInt8.xor_self, UInt8.zero_xor]
  have hu := fun r => upd_set l q hq (l[q] ^^^ x) r
  rw [e] at hu
  refine crc_ne hu (by have := (l[q] ^^^ x).toNat_lt; omega) fun h0 => h ?_
  have h1 : l[q] ^^^ x = 0 := UInt8.toNat_inj.1 h0
  rw [h1] at e
  rw [← e, UInt8.xor_zero]
theorem seal_turn {s : Sl} {k : Nat} (hk : k < (secS s).length) {x : UInt8} (hx : x ≠ (secS s)[k]) : decOk ((secS s).set k x) = false := by
  have hk5 : k < 512 := by rwa [secS_len] at hk
  cases h : decOk ((secS s).set k x) with
  | false => rfl
  | true =>
    exfalso
    unfold decOk at h
    simp only [Bool.and_eq_true, decide_eq_true_eq] at h
    obtain ⟨_, h3⟩ := h
    generalize dsF ((secS s).set k x) = t at h3
    have g : ∀ j, j ≠ k → (secS t)[j]? = (secS s)[j]? := fun j hj => by rw [h3, List.getElem?_set_ne (by omega)]
    have gk : (secS t)[k]? = some x := by rw [h3, List.getElem?_set_self hk]
    have gs : (secS s)[k]? ≠ some x := fun h9 => by
      rw [List.getElem?_eq_getElem hk] at h9
      exact hx (Option.some.inj h9).symm
    have out : ∀ (a b : Sl) (j : Nat), 36 ≤ j → (hdS a)[j]? = (hdS b)[j]? := fun a b j hj => by
      rw [List.getElem?_eq_none (by rw [hdS_len]; exact hj), List.getElem?_eq_none (by rw [hdS_len]; exact hj)]
    by_cases c1 : 40 ≤ k
    · exact gs (by rw [sec_z s c1 hk5, ← sec_z t c1 hk5]; exact gk)
    · by_cases c2 : 36 ≤ k
      · have hh : hdS t = hdS s := List.ext_getElem? fun j => by
          by_cases hj : j < 36
          · rw [← sec_hd t hj, ← sec_hd s hj]; exact g j (by omega)
          · exact out t s j (by omega)
        have he : secS t = secS s := by unfold secS hcS; rw [hh]
        exact gs (by rw [← he]; exact gk)
      · have hk3 : k < (hdS s).length := by rw [hdS_len]; omega
        have hh : hdS t = (hdS s).set k x := List.ext_getElem? fun j => by
          by_cases hj : j < 36
          · by_cases hjk : j = k
            · subst hjk
              rw [← sec_hd t hj, gk, List.getElem?_set_self hk3]
            · rw [List.getElem?_set_ne (by omega), ← sec_hd t hj, ← sec_hd s hj]
              exact g j hjk
          · by_cases hjk : j = k
            · omega
            · rw [List.getElem?_set_ne (by omega)]
              exact out t s j (by omega)
        have hc : leB 4 (crcU 0 (hdS t)) = leB 4 (crcU 0 (hdS s)) := List.ext_getElem? fun j => by
          by_cases hj : j < 4
          · rw [← sec_cr t hj, ← sec_cr s hj]; exact g (36 + j) (by omega)
          · rw [List.getElem?_eq_none (by rw [leB_len]; omega), List.getElem?_eq_none (by rw [leB_len]; omega)]
        have hn : crcU 0 (hdS t) = crcU 0 (hdS s) := by
          have a1 := leN_leB 4 (crcU 0 (hdS t)) (crcU_lt (by decide) _)
          have a2 := leN_leB 4 (crcU 0 (hdS s)) (crcU_lt (by decide) _)
          rw [← a1, ← a2, hc]
        rw [hh] at hn
        refine crc_one hk3 (x := x) (fun h9 => gs ?_) hn.symm
        rw [sec_hd s (by omega), List.getElem?_eq_getElem hk3, h9]
end Vw
