/- The small proof library: the journal's seal. -/
import Derived.Test.YtehakfbfjpolfaaDoorVT
set_option linter.all false
namespace Vw
open Go
abbrev Sl := Int × Int × Int × Int × Int × Int × Nat
def slF (s : Sl) : List Value := [.int .i64 s.1, .int .i64 s.2.1, .int .i64 s.2.2.1, .int .i64 s.2.2.2.1, .int .i64 s.2.2.2.2.1, .int .i64 s.2.2.2.2.2.1, .int .u32 (s.2.2.2.2.2.2 : Int)]
def fldL (s : Sl) : List Int := [s.1, s.2.1, s.2.2.1, s.2.2.2.1, s.2.2.2.2.1, s.2.2.2.2.2.1, (s.2.2.2.2.2.2 : Int)]
def inF (v : Int) : Bool := decide (0 ≤ v ∧ v ≤ 4294967295)
def slOk (s : Sl) : Bool := decide (2 ≤ s.1 ∧ s.1 ≤ 4) && inF s.2.1 && inF s.2.2.1 && inF s.2.2.2.1 && inF s.2.2.2.2.1 && inF s.2.2.2.2.2.1
def MAG : List UInt8 := [86, 65, 76, 73, 83, 69, 74, 49]
def fb (l : List Int) : List UInt8 := l.flatMap fun v => leB 4 v.toNat
theorem fb_len : ∀ l : List Int, (fb l).length = 4 * l.length
  | [] => rfl
  | x :: l => by
    have := fb_len l
    unfold fb at this ⊢
    rw [List.flatMap_cons, List.length_append, leB_len, this, List.length_cons]; omega
theorem fb_app (l m : List Int) : fb (l ++ m) = fb l ++ fb m := List.flatMap_append
def hdS (s : Sl) : List UInt8 := MAG ++ fb (fldL s)
theorem hdS_len (s : Sl) : (hdS s).length = 36 := by unfold hdS; rw [List.length_append, fb_len]; rfl
def hcS (s : Sl) : List UInt8 := hdS s ++ leB 4 (crcU 0 (hdS s))
theorem hcS_len (s : Sl) : (hcS s).length = 40 := by unfold hcS; rw [List.length_append, hdS_len, leB_len]
def secS (s : Sl) : List UInt8 := hcS s ++ List.replicate 472 0
theorem secS_len (s : Sl) : (secS s).length = 512 := by unfold secS; rw [List.length_append, hcS_len, List.length_replicate]
def encE (s : Sl) : Int := if slOk s = true then 0 else 1
def encV (s : Sl) : List UInt8 := if slOk s = true then secS s else []
theorem encV_len (s : Sl) : (encV s).length ≤ 512 := by unfold encV; split <;> simp [secS_len]
def puts (l : List Int) (d : List UInt8 × Int) : List UInt8 × Int := l.foldl (fun d v => numB d.1 512 d.2 v 4) d
theorem puts_succ {l : List Int} {i : Nat} (h : i < l.length) (d : List UInt8 × Int) : puts (l.take (i + 1)) d = numB (puts (l.take i) d).1 512 (puts (l.take i) d).2 l[i] 4 := by
  unfold puts
  rw [List.take_succ_eq_append_getElem h, List.foldl_append]
  rfl
theorem puts_stuck : ∀ (l : List Int) (d : List UInt8) (b : Int), b ≠ 0 → puts l (d, b) = (d, b)
  | [], _, _, _ => rfl
  | v :: l, d, b, h => by
    show puts l (numB d 512 b v 4) = _
    unfold numB
    rw [if_pos h]
    exact puts_stuck l d b h
theorem puts_ok : ∀ (l : List Int) (d : List UInt8), (∀ v ∈ l, inF v = true) → d.length + 4 * l.length ≤ 512 → puts l (d, 0) = (d ++ fb l, 0)
  | [], d, _, _ => by simp [puts, fb]
  | v :: l, d, h, hl => by
    have hv := of_decide_eq_true (h v (by simp))
    rw [List.length_cons] at hl
    show puts l (numB d 512 0 v 4) = _
    unfold numB
    rw [if_neg (by simp), if_neg (by omega), if_neg (by omega), puts_ok l _ (fun x hx => h x (by simp [hx])) (by rw [List.length_append, leB_len]; omega)]
    unfold fb
    rw [List.flatMap_cons, List.append_assoc]
theorem puts_good : ∀ (l : List Int) (d : List UInt8), d.length + 4 * l.length ≤ 512 → (puts l (d, 0)).2 = 0 → ∀ v ∈ l, inF v = true
  | [], _, _, _, v, hv => absurd hv (by simp)
  | x :: l, d, hl, h, v, hv => by
    rw [List.length_cons] at hl
    have hx : inF x = true := by
      by_cases hx : inF x = true
      · exact hx
      · exfalso
        have e : puts (x :: l) (d, 0) = puts l (numB d 512 0 x 4) := rfl
        rw [e] at h
        unfold numB at h
        have hx' : ¬ (0 ≤ x ∧ x ≤ 4294967295) := fun h9 => hx (decide_eq_true h9)
        rw [if_neg (by simp), if_pos (by omega), puts_stuck _ _ _ (by decide)] at h
        cases h
    rcases List.mem_cons.1 hv with rfl | hv
    · exact hx
    · have hv' := of_decide_eq_true hx
      have e : puts (x :: l) (d, 0) = puts l (numB d 512 0 x 4) := rfl
      rw [e] at h
      unfold numB at h
      rw [if_neg (by simp), if_neg (by omega), if_neg (by omega)] at h
      exact puts_good l _ (by rw [List.length_append, leB_len]; omega) h v hv
theorem slOk_flds {s : Sl} (hs : s.2.2.2.2.2.2 < 4294967296) (h1 : 2 ≤ s.1) (h2 : s.1 ≤ 4) : slOk s = true ↔ ∀ v ∈ fldL s, inF v = true := by
  unfold slOk fldL
  simp only [Bool.and_eq_true, decide_eq_true_eq, List.mem_cons, List.not_mem_nil, or_false, forall_eq_or_imp, forall_eq]
  constructor
  · rintro ⟨⟨⟨⟨⟨_, a1⟩, a2⟩, a3⟩, a4⟩, a5⟩
    exact ⟨decide_eq_true (by omega), a1, a2, a3, a4, a5, decide_eq_true (by omega)⟩
  · rintro ⟨_, a1, a2, a3, a4, a5, _⟩
    exact ⟨⟨⟨⟨⟨⟨h1, h2⟩, a1⟩, a2⟩, a3⟩, a4⟩, a5⟩
theorem slOk_st {s : Sl} (h : slOk s = true) : 2 ≤ s.1 ∧ s.1 ≤ 4 := by
  unfold slOk at h
  simp only [Bool.and_eq_true, decide_eq_true_eq] at h
  exact h.1.1.1.1.1
end Vw
namespace Vw
open Go
theorem r_2c {P : Program} {N : Nat} {a : Act} {w : World} {L : List (Nat × Value)} {fn : Func} {s t u n b T : Nat} {vs : List Value} {v' : Value} {σ : Sig} {L1 R1 : List Asrt} {R : Ending → World → Prop} (hf : Has N a L) (hr : fn.results = #[.cell s t, .tmp u])
    (hv : look L s = some (.pointer (some ⟨b, 0, none⟩))) (hv' : look L u = some v') (hs : St σ w L1) (ht : AgT P t n) (hn : vs.length = n) (tk : Take (cb b T vs) L1 R1) (h : R (.returned (.tuple #[.agg vs.toArray, v'])) w) : bodyPost P fn R .ret a w := by
  refine bodyPost_ret ?_ hf.defers h
  have hl := run_loadCells_list (P := P) w ⟨b, 0, none⟩ vs (fun j v hv => by
    have := hs.cell tk hv
    rwa [show (⟨b, 0, none⟩ : Addr).add j = ⟨b, j, none⟩ by unfold Addr.add; split <;> simp_all])
  rw [hn] at hl
  unfold loadCells at hl
  simp [results, hr, hf.get s _ hv, hf.get u _ hv', asAddr, loadVar, go_sem, ht.agg, ht.size, hl]
/-! Reading a seal. -/
def rd32 (l : List UInt8) (k : Nat) : Nat := leN ((l.drop k).take 4)
theorem rd32_lt (l : List UInt8) (k : Nat) : rd32 l k < 4294967296 := leN_lt4 (by simp; omega)
def dsF (l : List UInt8) : Sl := (rd32 l 8, rd32 l 12, rd32 l 16, rd32 l 20, rd32 l 24, rd32 l 28, rd32 l 32)
def zSl : Sl := (0, 0, 0, 0, 0, 0, 0)
def decOk (l : List UInt8) : Bool := decide (l.length = 512) && slOk (dsF l) && decide (secS (dsF l) = l)
def decV (l : List UInt8) : Sl := if decOk l = true then dsF l else zSl
def decE (l : List UInt8) : Int := if decOk l = true then 0 else 140
theorem dec_yes {l : List UInt8} (h : decOk l = true) : decV l = dsF l ∧ decE l = 0 := by unfold decV decE; rw [h]; exact ⟨rfl, rfl⟩
theorem dec_no {l : List UInt8} (h : decOk l = false) : decV l = zSl ∧ decE l = 140 := by unfold decV decE; rw [h]; exact ⟨rfl, rfl⟩
theorem nx4 {n k : Nat} (h : k + 4 ≤ n) : nextC n k 0 4 = (k + 4, 0, 4) := by unfold nextC; rw [if_neg (by simp), if_neg (by omega), if_neg (by omega)]; rfl
theorem nx8 {n : Nat} (h : 8 ≤ n) : nextC n 0 0 8 = (8, 0, 8) := by unfold nextC; rw [if_neg (by simp), if_neg (by omega), if_neg (by omega)]; rfl
theorem nx_le {n k : Nat} (b v : Int) (h : k ≤ n) : (nextC n k b v).1 ≤ n := by
  unfold nextC; split
  · exact h
  · split
    · exact h
    · split
      · exact h
      · simp only []; omega
theorem nx_k (n k : Nat) (b : Int) : (nextC n k b 4).2.2 ≤ 4 := by
  unfold nextC; split
  · simp
  · split
    · simp
    · split
      · simp
      · exact Nat.le_refl _
theorem leN_small {l : List UInt8} {k : Nat} (h : k ≤ 4) : leN (l.take k) < 4294967296 := leN_lt4 (by simp; omega)
end Vw
namespace Vw
open Go
theorem toList_loop (bs : ByteArray) : ∀ (k i : Nat) (r : List UInt8), bs.size = i + k → ByteArray.toList.loop bs i r = r.reverse ++ bs.data.toList.drop i
  | 0, i, r, h => by
    rw [ByteArray.toList.loop]
    have hs : bs.data.toList.length = bs.size := rfl
    rw [if_neg (by omega), List.drop_of_length_le (by omega), List.append_nil]
  | k + 1, i, r, h => by
    rw [ByteArray.toList.loop]
    have hs : bs.data.toList.length = bs.size := rfl
    have hi : i < bs.data.toList.length := by omega
    rw [if_pos (by omega), toList_loop bs k (i + 1) _ (by omega), List.drop_eq_getElem_cons hi, List.reverse_cons, List.append_assoc]
    congr 1
    show [bs.get! i] ++ _ = _
    rw [List.singleton_append]
    congr 1
    simp only [ByteArray.get!, Array.getElem_toList]
    exact getElem!_pos bs.data i (by simpa using hi)
theorem bytes_toList (l : List UInt8) : (⟨l.toArray⟩ : ByteArray).toList = l := by
  rw [ByteArray.toList, toList_loop _ l.length 0 [] (by simp [ByteArray.size])]
  simp
end Vw
