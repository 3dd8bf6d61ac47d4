/- Lists of lists that share no memory. -/
import Derived.Test.YtehakfbfjpolfaaDoorVS
import Derived.Test.YtehakfbfjpolfaaDoorHlp
import Derived.Test.YtehakfbfjpolfaaDoorProg
import Derived.Test.YtehakfbfjpolfaaDoorFacts
set_option maxRecDepth 100000
set_option linter.all false
namespace Go.Proofs.YtehakfbfjpolfaaDoor
open Go Vw
def mkB (j : Nat) : UInt8 := UInt8.ofNat (j % 200 % 256)
def Mkd (i : Nat) (qs : List Pt) : Prop := ∀ j (h : j < qs.length), j < i → qs[j].2.2 = List.replicate qs[j].2.2.length (mkB j)
theorem Mkd.zero (qs : List Pt) : Mkd 0 qs := fun j h h0 => absurd h0 (Nat.not_lt_zero _)
theorem Mkd.step {i : Nat} {qs : List Pt} (h : Mkd i qs) (hi : i < qs.length) {d : List UInt8} (hd : d = List.replicate d.length (mkB i)) : Mkd (i + 1) (qs.set i (qs[i].1, qs[i].2.1, d)) := fun j hj hji => by
  have hj' : j < qs.length := by simpa using hj
  by_cases e : j = i
  · subst e
    rw [List.getElem_set_self]
    exact hd
  · rw [List.getElem_set_ne (by omega)]
    exact h j hj' (by omega)
theorem all_rep {d : List UInt8} {x : UInt8} {k : Nat} (hk : k = d.length) (h : d.take k = List.replicate k x) : d = List.replicate d.length x := by
  subst hk
  rwa [List.take_length] at h
theorem rep_step {d : List UInt8} {x : UInt8} {k : Nat} (hk : k < d.length) (h : d.take k = List.replicate k x) : (d.set k x).take (k + 1) = List.replicate (k + 1) x := by
  have hk' : k < (d.set k x).length := by simpa using hk
  rw [List.take_succ_eq_append_getElem hk', List.getElem_set_self, List.take_set, List.set_eq_of_length_le (by simp; omega), h, List.replicate_succ']
theorem lens_set {qs : List Pt} {i : Nat} (hi : i < qs.length) {d : List UInt8} (hd : d.length = qs[i].2.2.length) {N : Nat} (h : ∀ p ∈ qs, p.2.2.length ≤ N) : ∀ p ∈ qs.set i (qs[i].1, qs[i].2.1, d), p.2.2.length ≤ N := fun p hp => by
  rcases List.mem_or_eq_of_mem_set hp with h1 | h1
  · exact h p h1
  · subst h1; simp only []; rw [hd]; exact h _ (List.getElem_mem hi)
theorem datA_shut {σ : Sig} {w : World} {R : List Asrt} {T : Nat} {ps : List Pt} {i : Nat} (hi : i < ps.length) (hs : St σ w (slB T ps[i].2.1 ps[i].2.2 :: datA T (ps.take i) :: datA T (ps.drop (i + 1)) :: R)) : St σ w (datA T ps :: R) := by
  have h := datA_close hi hs
  rwa [show ((ps[i].1, ps[i].2.1, ps[i].2.2) : Pt) = ps[i] from rfl, List.set_getElem_self] at h

theorem marked_spec (w0 : World) (a1 : Option Addr) (c1 : Nat) (l : List UInt8) (x : UInt8) (hr1 : RdB (hp w0) (.slice a1 l.length c1) l) (hl : l.length ≤ 140737488351232) (hx : l = List.replicate l.length x) : Calls Tryd.prog 47 #[.slice a1 l.length c1, u8v x] w0 fun e w' => e = .returned (.bool true) ∧ Kept w0 w' None_ := by
  have hs := St.start w0 None_
  refine c_enter (N := 18) Tryd.func47 rfl Tryd.ntmps47 (by simp) ?_
  intro a hf
  refine wp_seq ?_
  refine wp_region_lit ?_
  refine s_a hf rfl ?_; clear hf a; intro a hf
  refine s_nil ?_
  refine then_n ?_
  refine wp_seq ?_
  refine wp_seq ?_
  refine wp_region_lit ?_
  refine s_a hf rfl ?_; clear hf a; intro a hf
  refine s_nil ?_
  refine then_n ?_
  refine wp_block ?_
  refine c_loop (L0 := [(0, _), (1, _)]) (fun M w m => ∃ i : Nat, M = [(5, .int .i64 (i : Int))] ∧ l.length - i = m ∧ i ≤ l.length ∧ St ⟨w0, None_⟩ w []) (M0 := [(5, .int .i64 (0 : Nat))]) (⟨0, rfl, rfl, Nat.zero_le _, hs⟩) (hf.sub ⟨rfl, rfl, rfl, trivial⟩) ?_
  clear hf hs a
  rintro M m a w ⟨i, rfl, rfl, hi, hs⟩ hf
  refine wp_seq ?_
  refine wp_seq ?_
  refine wp_region_lit ?_
  refine s_m hf rfl ?_; clear hf a; intro a hf
  refine s_m hf rfl ?_; clear hf a; intro a hf
  refine s_v hf (x_len Tryd.underlying25 (hf.eval rfl)) ?_; clear hf a; intro a hf
  refine s_v hf (x_bin (hf.eval rfl) (hf.eval rfl) (r_lt _ _ _ _)) ?_; clear hf a; intro a hf
  refine s_nil ?_
  refine then_n ?_
  refine c_cond hf rfl (fun hi0 => ?_) (fun hi0 => ?_)
  · simp only [decide_eq_true_eq, decide_eq_false_iff_not, Bool.not_eq_true', Bool.not_eq_false', Bool.not_eq_true, Int.not_lt, Int.not_le] at hi0
    obtain ⟨a1, rfl⟩ := hr1.some (by omega)
    have hlt : i < l.length := by omega
    have hlx : l[i] = x := (List.eq_replicate_iff.1 hx).2 _ (List.getElem_mem _)
    refine wp_skip ?_
    refine then_n ?_
    refine wp_seq ?_
    refine wp_block ?_
    refine wp_seq ?_
    refine wp_region_lit ?_
    refine s_m hf rfl ?_; clear hf a; intro a hf
    refine s_m hf rfl ?_; clear hf a; intro a hf
    refine s_v hf (x_indexAddr sl25 (hf.eval rfl) (hf.eval rfl) (by omega) (by omega)) ?_; clear hf a; intro a hf
    refine s_r hf (x_loadB (i := (i : Int)) sc5 (hs.oldB hr1) (hf.eval rfl) (by simpa using hlt)) ?_; clear hf a; intro a hf
    replace hf := hf.now (k := 15) (v' := u8v x) rfl (by rw [← hlx]; rfl)
    refine s_m hf rfl ?_; clear hf a; intro a hf
    refine s_v hf (x_bin (hf.eval rfl) (hf.eval rfl) (r_ne _ _ _ _)) ?_; clear hf a; intro a hf
    refine s_nil ?_
    refine then_n ?_
    refine c_cond_f hf rfl (by simp) ?_
    refine wp_skip ?_
    refine blk_n ?_
    refine then_n ?_
    refine wp_region_lit ?_
    refine s_m hf rfl ?_; clear hf a; intro a hf
    refine s_v hf (x_bin (hf.eval rfl) (hf.eval rfl) (r_addi _ (by omega) (by omega))) ?_; clear hf a; intro a hf
    refine s_a hf rfl ?_; clear hf a; intro a hf
    refine s_nil ?_
    exact ⟨_, _, ⟨i + 1, rfl, rfl, by omega, hs⟩, by omega, hf.sub ⟨rfl, rfl, rfl, trivial⟩⟩
  · simp only [decide_eq_true_eq, decide_eq_false_iff_not, Bool.not_eq_true', Bool.not_eq_false', Bool.not_eq_true, Int.not_lt, Int.not_le] at hi0
    refine wp_exit ?_
    refine then_x ?_
    refine then_x ?_
    refine blk_x ?_
    refine then_n ?_
    refine wp_seq ?_
    refine wp_region_lit ?_
    refine s_a hf rfl ?_; clear hf a; intro a hf
    refine s_nil ?_
    refine then_n ?_
    refine wp_ret ?_
    refine r_1 hf Tryd.results47 rfl ?_
    exact ⟨rfl, hs.kept⟩

theorem apart_spec (σ : Sig) (w : World) (R : List Asrt) (av : Option Addr) (cv : Nat) (ps : List Pt) (hs : St σ w (sl 25 1 (.slice av ps.length cv) ps.length (ps.flatMap mF) :: datA 5 ps :: R)) (hpl : ps.length ≤ 1099511627776) (hdl : ∀ p ∈ ps, p.2.2.length ≤ 70368744177664) : Calls Tryd.prog 14 #[.slice av ps.length cv] w fun e w' => e = .returned (.bool true) ∧ St σ w' R := by
  refine c_enter (N := 88) Tryd.func14 rfl Tryd.ntmps14 (by simp) ?_
  intro a hf
  refine wp_seq ?_
  refine wp_region_lit ?_
  refine s_a hf rfl ?_; clear hf a; intro a hf
  refine s_nil ?_
  refine then_n ?_
  refine wp_seq ?_
  refine wp_seq ?_
  refine wp_region_lit ?_
  refine s_a hf rfl ?_; clear hf a; intro a hf
  refine s_nil ?_
  refine then_n ?_
  refine wp_block ?_
  refine c_loop (L0 := [(0, _), (2, _)]) (fun M w m => ∃ (i : Nat) (qs : List Pt), M = [(3, .int .i64 (i : Int))] ∧ ps.length - i = m ∧ i ≤ ps.length ∧ qs.length = ps.length ∧ (∀ p ∈ qs, p.2.2.length ≤ 70368744177664) ∧ Mkd i qs ∧ St σ w (sl 25 1 (.slice av ps.length cv) ps.length (qs.flatMap mF) :: datA 5 qs :: R)) (M0 := [(3, .int .i64 0)]) (⟨0, ps, rfl, rfl, Nat.zero_le _, rfl, hdl, Mkd.zero _, hs⟩) (hf.sub ⟨rfl, rfl, rfl, trivial⟩) ?_
  clear hf hs a
  rintro M m a w ⟨i, qs, rfl, rfl, hi, hql, hdl, hmk, hs⟩ hf
  refine wp_seq ?_
  refine wp_seq ?_
  refine wp_region_lit ?_
  refine s_m hf rfl ?_; clear hf a; intro a hf
  refine s_m hf rfl ?_; clear hf a; intro a hf
  refine s_v hf (x_len Tryd.underlying34 (hf.eval rfl)) ?_; clear hf a; intro a hf
  refine s_v hf (x_bin (hf.eval rfl) (hf.eval rfl) (r_lt _ _ _ _)) ?_; clear hf a; intro a hf
  refine s_nil ?_
  refine then_n ?_
  refine c_cond hf rfl (fun hi0 => ?_) (fun hi0 => ?_)
  · simp only [decide_eq_true_eq, decide_eq_false_iff_not, Bool.not_eq_true', Bool.not_eq_false', Bool.not_eq_true, Int.not_lt, Int.not_le] at hi0
    have hlt : i < qs.length := by omega
    obtain ⟨av, rfl⟩ := sl_some hs (by omega)
    have hpd := hs.datRd (.there _ (.here _)) hlt
    obtain ⟨pa, pk, hpv⟩ := hpd.shape
    have hdi := hdl _ (List.getElem_mem hlt)
    refine wp_skip ?_
    refine then_n ?_
    refine wp_seq ?_
    refine wp_block ?_
    refine wp_seq ?_
    refine wp_region_lit ?_
    refine s_a hf rfl ?_; clear hf a; intro a hf
    refine s_nil ?_
    refine then_n ?_
    refine wp_block ?_
    replace hs := datA_open (hs.take (.there _ (.here _))) hlt
    have hl9 : qs[i].2.2.take 0 = List.replicate 0 (mkB i) := by simp
    refine c_loop (L0 := [(0, _), (2, _), (3, _), (11, _), (12, _), (13, _), (14, _)]) (fun M w m => ∃ (k : Nat) (d : List UInt8), M = [(4, .int .i64 (k : Int))] ∧ d.length - k = m ∧ k ≤ d.length ∧ d.length = qs[i].2.2.length ∧ d.take k = List.replicate k (mkB i) ∧ St σ w (slB 5 qs[i].2.1 d :: datA 5 (qs.take i) :: datA 5 (qs.drop (i + 1)) :: sl 25 1 (.slice av ps.length cv) ps.length (qs.flatMap mF) :: R)) (M0 := [(4, .int .i64 0)]) (⟨0, qs[i].2.2, rfl, rfl, Nat.zero_le _, rfl, hl9, hs⟩) (hf.sub ⟨rfl, rfl, rfl, rfl, rfl, rfl, rfl, rfl, trivial⟩) ?_
    clear hf hs a
    rintro M m a w ⟨k, d, rfl, rfl, hk, hd9, hrp, hs⟩ hf
    refine wp_seq ?_
    refine wp_seq ?_
    refine wp_region_lit ?_
    refine s_m hf rfl ?_; clear hf a; intro a hf
    refine s_m hf rfl ?_; clear hf a; intro a hf
    refine s_m hf rfl ?_; clear hf a; intro a hf
    refine s_v hf (x_indexAddr sl34 (hf.eval rfl) (hf.eval rfl) (by omega) (by omega)) ?_; clear hf a; intro a hf
    refine s_r hf (x_loadC (i := (i : Int)) hs sc25 (.there _ (.there _ (.there _ (.here _)))) (hf.eval rfl) (by rw [Int.toNat_natCast]; exact mF_get hlt)) ?_; clear hf a; intro a hf
    replace hf := hf.now (k := 21) (v' := .slice pa qs[i].2.2.length pk) rfl (hpv)
    refine s_v hf (x_len Tryd.underlying25 (hf.eval rfl)) ?_; clear hf a; intro a hf
    refine s_v hf (x_bin (hf.eval rfl) (hf.eval rfl) (r_lt _ _ _ _)) ?_; clear hf a; intro a hf
    refine s_nil ?_
    refine then_n ?_
    refine c_cond hf rfl (fun hi1 => ?_) (fun hi1 => ?_)
    · simp only [decide_eq_true_eq, decide_eq_false_iff_not, Bool.not_eq_true', Bool.not_eq_false', Bool.not_eq_true, Int.not_lt, Int.not_le] at hi1
      have hkl : k < d.length := by omega
      obtain ⟨pa, rfl⟩ : ∃ x, pa = some x := by cases pa with
        | some x => exact ⟨x, rfl⟩
        | none => exact absurd hpd (fun h => by rw [hpv] at h; rcases h.2 with ⟨c, e, h9⟩ | ⟨x, c, e, _⟩; omega; cases e)
      refine wp_skip ?_
      refine then_n ?_
      refine wp_seq ?_
      refine wp_block ?_
      refine wp_region_lit ?_
      refine s_m hf rfl ?_; clear hf a; intro a hf
      refine s_m hf rfl ?_; clear hf a; intro a hf
      refine s_v hf (x_indexAddr sl34 (hf.eval rfl) (hf.eval rfl) (by omega) (by omega)) ?_; clear hf a; intro a hf
      refine s_r hf (x_loadC (i := (i : Int)) hs sc25 (.there _ (.there _ (.there _ (.here _)))) (hf.eval rfl) (by rw [Int.toNat_natCast]; exact mF_get hlt)) ?_; clear hf a; intro a hf
      replace hf := hf.now (k := 29) (v' := .slice pa qs[i].2.2.length pk) rfl (hpv)
      refine s_m hf rfl ?_; clear hf a; intro a hf
      refine s_m hf rfl ?_; clear hf a; intro a hf
      refine s_v hf (x_bin (hf.eval rfl) (hf.eval rfl) (r_remn _ _ (Int.natCast_nonneg _) (by decide))) ?_; clear hf a; intro a hf
      replace hf := hf.now (k := 32) (v' := .int .i64 ((i % 200 : Nat) : Int)) rfl (by congr 1)
      refine s_v hf (x_convr Tryd.underlying3 Tryd.underlying5 (hf.eval rfl) (u8_of .i64 rfl _)) ?_; clear hf a; intro a hf
      replace hf := hf.now (k := 33) (v' := u8v (mkB i)) rfl (rfl)
      refine s_v hf (x_indexAddr sl25 (hf.eval rfl) (hf.eval rfl) (by omega) (by omega)) ?_; clear hf a; intro a hf
      unfold slB at hs
      rw [hpv, hd9] at hs
      refine s_do0 hf rfl (y_storeSl (i := k) hs sc5 (hf.eval rfl) (hf.eval rfl) rfl (.here _) (by omega) ?_); clear hf hs a; intro w hs a hf
      rw [← hpv, ← List.map_set] at hs
      have hd7 : (d.set k (mkB i)).length = qs[i].2.2.length := by simpa using hd9
      rw [← hd7] at hs
      change St σ w (slB 5 qs[i].2.1 (d.set k (mkB i)) :: _) at hs
      refine s_nil ?_
      refine blk_n ?_
      refine then_n ?_
      refine wp_region_lit ?_
      refine s_m hf rfl ?_; clear hf a; intro a hf
      refine s_v hf (x_bin (hf.eval rfl) (hf.eval rfl) (r_addi _ (by omega) (by omega))) ?_; clear hf a; intro a hf
      refine s_a hf rfl ?_; clear hf a; intro a hf
      refine s_nil ?_
      have hd6 : (d.set k (mkB i)).length = d.length := by simp
      exact ⟨_, _, ⟨k + 1, d.set k (mkB i), rfl, rfl, by simp; omega, by simpa using hd9, rep_step (by omega) hrp, hs⟩, by omega, hf.sub ⟨rfl, rfl, rfl, rfl, rfl, rfl, rfl, rfl, trivial⟩⟩
    · simp only [decide_eq_true_eq, decide_eq_false_iff_not, Bool.not_eq_true', Bool.not_eq_false', Bool.not_eq_true, Int.not_lt, Int.not_le] at hi1
      have hd8 : d = List.replicate d.length (mkB i) := all_rep (by omega) hrp
      replace hs := datA_close hlt hs
      replace hs := hs.take (A := sl 25 1 (.slice (some av) ps.length cv) ps.length (qs.flatMap mF)) (by first | exact .here _ | exact .there _ (.here _) | exact .there _ (.there _ (.here _)) | exact .there _ (.there _ (.there _ (.here _))) | exact .there _ (.there _ (.there _ (.there _ (.here _)))) | exact .there _ (.there _ (.there _ (.there _ (.there _ (.here _))))) | exact .there _ (.there _ (.there _ (.there _ (.there _ (.there _ (.here _)))))) | exact .there _ (.there _ (.there _ (.there _ (.there _ (.there _ (.there _ (.here _))))))) | exact .there _ (.there _ (.there _ (.there _ (.there _ (.there _ (.there _ (.there _ (.here _)))))))) | exact .there _ (.there _ (.there _ (.there _ (.there _ (.there _ (.there _ (.there _ (.there _ (.here _))))))))))
      refine wp_exit ?_
      refine then_x ?_
      refine then_x ?_
      refine blk_x ?_
      refine blk_n ?_
      refine then_n ?_
      refine wp_region_lit ?_
      refine s_m hf rfl ?_; clear hf a; intro a hf
      refine s_v hf (x_bin (hf.eval rfl) (hf.eval rfl) (r_addi _ (by omega) (by omega))) ?_; clear hf a; intro a hf
      refine s_a hf rfl ?_; clear hf a; intro a hf
      refine s_nil ?_
      exact ⟨_, _, ⟨i + 1, qs.set i (qs[i].1, qs[i].2.1, d), rfl, rfl, by omega, by simpa using hql, lens_set hlt hd9 hdl, hmk.step hlt hd8, by rw [set_vals hlt]; exact hs⟩, by omega, hf.sub ⟨rfl, rfl, rfl, trivial⟩⟩
  · simp only [decide_eq_true_eq, decide_eq_false_iff_not, Bool.not_eq_true', Bool.not_eq_false', Bool.not_eq_true, Int.not_lt, Int.not_le] at hi0
    refine wp_exit ?_
    refine then_x ?_
    refine then_x ?_
    refine blk_x ?_
    refine then_n ?_
    refine wp_seq ?_
    refine wp_region_lit ?_
    refine s_a hf rfl ?_; clear hf a; intro a hf
    refine s_nil ?_
    refine then_n ?_
    refine wp_seq ?_
    refine wp_seq ?_
    refine wp_region_lit ?_
    refine s_a hf rfl ?_; clear hf a; intro a hf
    refine s_nil ?_
    refine then_n ?_
    refine wp_block ?_
    have hq0 : qs.length = ps.length := hql
    replace hmk : Mkd ps.length qs := by rw [show ps.length = i by omega]; exact hmk
    replace hs := hs.emp (A := sl 25 1 (.slice none 0 0) 0 []) (fun _ => ⟨rfl, .inl ⟨rfl, rfl⟩⟩)
    clear hi0 hi
    refine c_loop (L0 := [(0, _), (2, _), (3, _), (11, _), (12, _), (13, _), (14, _)]) (fun M w m => ∃ (i : Nat) (v5 : Value) (ms : List Value), M = [(5, v5), (6, .int .i64 (i : Int))] ∧ ps.length - i = m ∧ i ≤ ps.length ∧ ms.length = i ∧ (∀ j (h : j < ms.length) (h2 : j < qs.length), ∃ a c, ms[j] = .slice a (qs[j].2.2.length + 100) c) ∧ St σ w (sl 25 1 v5 i ms :: sl 25 1 (.slice av ps.length cv) ps.length (qs.flatMap mF) :: datA 5 qs :: R)) (M0 := [(5, .slice none 0 0), (6, .int .i64 0)]) (⟨0, _, [], rfl, rfl, Nat.zero_le _, rfl, (fun j h => absurd h (Nat.not_lt_zero _)), hs⟩) (hf.sub ⟨rfl, rfl, rfl, rfl, rfl, rfl, rfl, rfl, rfl, trivial⟩) ?_
    clear hf hs a
    rintro M m a w ⟨i, v5, ms, rfl, rfl, hi, hml, hms, hs⟩ hf
    refine wp_seq ?_
    refine wp_seq ?_
    refine wp_region_lit ?_
    refine s_m hf rfl ?_; clear hf a; intro a hf
    refine s_m hf rfl ?_; clear hf a; intro a hf
    refine s_v hf (x_len Tryd.underlying34 (hf.eval rfl)) ?_; clear hf a; intro a hf
    refine s_v hf (x_bin (hf.eval rfl) (hf.eval rfl) (r_lt _ _ _ _)) ?_; clear hf a; intro a hf
    refine s_nil ?_
    refine then_n ?_
    refine c_cond hf rfl (fun hi2 => ?_) (fun hi2 => ?_)
    · simp only [decide_eq_true_eq, decide_eq_false_iff_not, Bool.not_eq_true', Bool.not_eq_false', Bool.not_eq_true, Int.not_lt, Int.not_le] at hi2
      have hlt : i < qs.length := by omega
      replace hs := hs.take (A := sl 25 1 (.slice av ps.length cv) ps.length (qs.flatMap mF)) (by first | exact .here _ | exact .there _ (.here _) | exact .there _ (.there _ (.here _)) | exact .there _ (.there _ (.there _ (.here _))) | exact .there _ (.there _ (.there _ (.there _ (.here _)))) | exact .there _ (.there _ (.there _ (.there _ (.there _ (.here _))))) | exact .there _ (.there _ (.there _ (.there _ (.there _ (.there _ (.here _)))))) | exact .there _ (.there _ (.there _ (.there _ (.there _ (.there _ (.there _ (.here _))))))) | exact .there _ (.there _ (.there _ (.there _ (.there _ (.there _ (.there _ (.there _ (.here _)))))))) | exact .there _ (.there _ (.there _ (.there _ (.there _ (.there _ (.there _ (.there _ (.there _ (.here _))))))))))
      obtain ⟨av, rfl⟩ := sl_some hs (by omega)
      have hpd := hs.datRd (.there _ (.there _ (.here _))) hlt
      obtain ⟨pa, pk, hpv⟩ := hpd.shape
      have hdi := hdl _ (List.getElem_mem hlt)
      replace hs := datA_open (hs.take (.there _ (.there _ (.here _)))) hlt
      rw [hpv] at hs
      replace hs := hs.twoB_start
      refine wp_skip ?_
      refine then_n ?_
      refine wp_seq ?_
      refine wp_block ?_
      refine wp_seq ?_
      refine wp_region_lit ?_
      refine s_m hf rfl ?_; clear hf a; intro a hf
      refine s_m hf rfl ?_; clear hf a; intro a hf
      refine s_v hf (x_indexAddr sl34 (hf.eval rfl) (hf.eval rfl) (by omega) (by omega)) ?_; clear hf a; intro a hf
      refine s_r hf (x_loadC (i := (i : Int)) hs sc25 (.there _ (.there _ (.there _ (.here _)))) (hf.eval rfl) (by rw [Int.toNat_natCast]; exact mF_get hlt)) ?_; clear hf a; intro a hf
      replace hf := hf.now (k := 44) (v' := .slice pa qs[i].2.2.length pk) rfl (hpv)
      refine s_do hf rfl (y_lit (xs := [.const (.int .u8 241)]) hs sl25 (hf.evals rfl) rfl (by simp [Value.cells]) (by decide) ?_); clear hf hs a; intro b2 w hs a hf
      refine s_do hf rfl (y_appendB2 (s := [241]) hs sl25 rfl (hf.eval rfl) (hf.eval rfl) (.there _ (.here _)) (hs.rdB (.here _) fun h hb => rdB_of_bb (T := 5) (l := [241]) hb (by simp) (by simp)) (by simp; omega) ?_); clear hf hs a; intro v2 w hs a hf
      replace hs := hs.lose (.there _ (.here _))
      refine s_a hf rfl ?_; clear hf a; intro a hf
      refine s_nil ?_
      refine then_n ?_
      refine wp_seq ?_
      refine wp_seq ?_
      refine wp_region_lit ?_
      refine s_a hf rfl ?_; clear hf a; intro a hf
      refine s_nil ?_
      refine then_n ?_
      refine wp_block ?_
      refine c_loop (L0 := [(0, _), (2, _), (3, _), (5, _), (6, _), (11, _), (12, _), (13, _), (14, _), (35, _), (36, _), (37, _), (38, _), (41, _), (42, _), (43, _), (44, _), (45, _), (46, _)]) (fun M w m => ∃ (k : Nat) (v2 : Value), M = [(7, v2), (8, .int .i64 (k : Int))] ∧ 99 - k = m ∧ k ≤ 99 ∧ St σ w (twoB 5 (.slice pa qs[i].2.2.length pk) qs[i].2.2 v2 (qs[i].2.2 ++ [241] ++ List.replicate k 242) :: datA 5 (qs.take i) :: datA 5 (qs.drop (i + 1)) :: sl 25 1 (.slice (some av) ps.length cv) ps.length (qs.flatMap mF) :: sl 25 1 v5 i ms :: R)) (M0 := _) (⟨0, _, rfl, rfl, by omega, by simpa using hs⟩) (hf.sub ⟨rfl, rfl, rfl, rfl, rfl, rfl, rfl, rfl, rfl, rfl, rfl, rfl, rfl, rfl, rfl, rfl, rfl, rfl, rfl, rfl, rfl, trivial⟩) ?_
      clear hf hs a
      rintro M m a w ⟨k, v2, rfl, rfl, hk, hs⟩ hf
      refine wp_seq ?_
      refine wp_seq ?_
      refine wp_region_lit ?_
      refine s_m hf rfl ?_; clear hf a; intro a hf
      refine s_v hf (x_bin (hf.eval rfl) (hf.eval rfl) (r_lt _ _ _ _)) ?_; clear hf a; intro a hf
      refine s_nil ?_
      refine then_n ?_
      refine c_cond hf rfl (fun hi3 => ?_) (fun hi3 => ?_)
      · simp only [decide_eq_true_eq, decide_eq_false_iff_not, Bool.not_eq_true', Bool.not_eq_false', Bool.not_eq_true, Int.not_lt, Int.not_le] at hi3
        refine wp_skip ?_
        refine then_n ?_
        refine wp_seq ?_
        refine wp_block ?_
        refine wp_region_lit ?_
        refine s_m hf rfl ?_; clear hf a; intro a hf
        refine s_do hf rfl (y_lit (xs := [.const (.int .u8 242)]) hs sl25 (hf.evals rfl) rfl (by simp [Value.cells]) (by decide) ?_); clear hf hs a; intro b2 w hs a hf
        refine s_do hf rfl (y_appendB2 (s := [242]) hs sl25 rfl (hf.eval rfl) (hf.eval rfl) (.there _ (.here _)) (hs.rdB (.here _) fun h hb => rdB_of_bb (T := 5) (l := [242]) hb (by simp) (by simp)) (by simp; omega) ?_); clear hf hs a; intro v3 w hs a hf
        replace hs := hs.lose (.there _ (.here _))
        rw [List.append_assoc, ← List.replicate_succ'] at hs
        refine s_a hf rfl ?_; clear hf a; intro a hf
        refine s_nil ?_
        refine blk_n ?_
        refine then_n ?_
        refine wp_region_lit ?_
        refine s_m hf rfl ?_; clear hf a; intro a hf
        refine s_v hf (x_bin (hf.eval rfl) (hf.eval rfl) (r_addi _ (by omega) (by omega))) ?_; clear hf a; intro a hf
        refine s_a hf rfl ?_; clear hf a; intro a hf
        refine s_nil ?_
        exact ⟨_, _, ⟨k + 1, _, rfl, rfl, by omega, hs⟩, by omega, hf.sub ⟨rfl, rfl, rfl, rfl, rfl, rfl, rfl, rfl, rfl, rfl, rfl, rfl, rfl, rfl, rfl, rfl, rfl, rfl, rfl, rfl, rfl, trivial⟩⟩
      · simp only [decide_eq_true_eq, decide_eq_false_iff_not, Bool.not_eq_true', Bool.not_eq_false', Bool.not_eq_true, Int.not_lt, Int.not_le] at hi3
        obtain rfl : k = 99 := by omega
        obtain ⟨xa, xc, hx2⟩ := twoB_shape hs
        have hx3 : (qs[i].2.2 ++ [241] ++ List.replicate 99 242 : List UInt8).length = qs[i].2.2.length + 100 := by simp
        rw [hx3] at hx2
        subst hx2
        replace hs := hs.twoB_fst
        rw [← hpv] at hs
        replace hs := datA_shut hlt hs
        replace hs := hs.take (A := sl 25 1 v5 i ms) (by first | exact .here _ | exact .there _ (.here _) | exact .there _ (.there _ (.here _)) | exact .there _ (.there _ (.there _ (.here _))) | exact .there _ (.there _ (.there _ (.there _ (.here _)))) | exact .there _ (.there _ (.there _ (.there _ (.there _ (.here _))))) | exact .there _ (.there _ (.there _ (.there _ (.there _ (.there _ (.here _)))))) | exact .there _ (.there _ (.there _ (.there _ (.there _ (.there _ (.there _ (.here _))))))) | exact .there _ (.there _ (.there _ (.there _ (.there _ (.there _ (.there _ (.there _ (.here _)))))))) | exact .there _ (.there _ (.there _ (.there _ (.there _ (.there _ (.there _ (.there _ (.there _ (.here _))))))))))
        refine wp_exit ?_
        refine then_x ?_
        refine then_x ?_
        refine blk_x ?_
        refine then_n ?_
        refine wp_region_lit ?_
        refine s_m hf rfl ?_; clear hf a; intro a hf
        refine s_m hf rfl ?_; clear hf a; intro a hf
        refine s_do hf rfl (y_lit (xs := [.tmp 55]) hs sl34 (hf.evals rfl) rfl (by simp [Value.cells]) (by decide) ?_); clear hf hs a; intro b2 w hs a hf
        refine s_do hf rfl (y_append (n := i) (m := 1) (ys := [.slice xa (qs[i].2.2.length + 100) xc]) hs sl34 (hf.eval rfl) (hf.eval rfl) (.there _ (.here _)) (hs.rd (.here _) fun h hb => rd_rows hb rfl) (by simp [Value.oneCell']) (by omega) (by rw [maxLen_eq]; omega) ?_); clear hf hs a; intro v4 w hs hv a hf
        replace hs := hs.lose (.there _ (.here _))
        replace hs := hs.take (A := datA 5 qs) (by first | exact .here _ | exact .there _ (.here _) | exact .there _ (.there _ (.here _)) | exact .there _ (.there _ (.there _ (.here _))) | exact .there _ (.there _ (.there _ (.there _ (.here _)))) | exact .there _ (.there _ (.there _ (.there _ (.there _ (.here _))))) | exact .there _ (.there _ (.there _ (.there _ (.there _ (.there _ (.here _)))))) | exact .there _ (.there _ (.there _ (.there _ (.there _ (.there _ (.there _ (.here _))))))) | exact .there _ (.there _ (.there _ (.there _ (.there _ (.there _ (.there _ (.there _ (.here _)))))))) | exact .there _ (.there _ (.there _ (.there _ (.there _ (.there _ (.there _ (.there _ (.there _ (.here _))))))))))
        replace hs := hs.take (A := sl 25 1 (.slice (some av) ps.length cv) ps.length (qs.flatMap mF)) (by first | exact .here _ | exact .there _ (.here _) | exact .there _ (.there _ (.here _)) | exact .there _ (.there _ (.there _ (.here _))) | exact .there _ (.there _ (.there _ (.there _ (.here _)))) | exact .there _ (.there _ (.there _ (.there _ (.there _ (.here _))))) | exact .there _ (.there _ (.there _ (.there _ (.there _ (.there _ (.here _)))))) | exact .there _ (.there _ (.there _ (.there _ (.there _ (.there _ (.there _ (.here _))))))) | exact .there _ (.there _ (.there _ (.there _ (.there _ (.there _ (.there _ (.there _ (.here _)))))))) | exact .there _ (.there _ (.there _ (.there _ (.there _ (.there _ (.there _ (.there _ (.there _ (.here _))))))))))
        replace hs := hs.take (A := sl 25 1 v4 (i + 1) (ms ++ [.slice xa (qs[i].2.2.length + 100) xc])) (by first | exact .here _ | exact .there _ (.here _) | exact .there _ (.there _ (.here _)) | exact .there _ (.there _ (.there _ (.here _))) | exact .there _ (.there _ (.there _ (.there _ (.here _)))) | exact .there _ (.there _ (.there _ (.there _ (.there _ (.here _))))) | exact .there _ (.there _ (.there _ (.there _ (.there _ (.there _ (.here _)))))) | exact .there _ (.there _ (.there _ (.there _ (.there _ (.there _ (.there _ (.here _))))))) | exact .there _ (.there _ (.there _ (.there _ (.there _ (.there _ (.there _ (.there _ (.here _)))))))) | exact .there _ (.there _ (.there _ (.there _ (.there _ (.there _ (.there _ (.there _ (.there _ (.here _))))))))))
        have hms9 : ∀ j (h : j < (ms ++ [Value.slice xa (qs[i].2.2.length + 100) xc]).length) (h2 : j < qs.length), ∃ a c, (ms ++ [Value.slice xa (qs[i].2.2.length + 100) xc])[j] = .slice a (qs[j].2.2.length + 100) c := by
          intro j h h2
          by_cases hj : j < ms.length
          · rw [List.getElem_append_left hj]; exact hms j hj h2
          · have hji : j = i := by simp at h; omega
            subst hji
            rw [List.getElem_append_right (by omega)]
            exact ⟨xa, xc, by simp⟩
        refine s_a hf rfl ?_; clear hf a; intro a hf
        refine s_nil ?_
        refine blk_n ?_
        refine then_n ?_
        refine wp_region_lit ?_
        refine s_m hf rfl ?_; clear hf a; intro a hf
        refine s_v hf (x_bin (hf.eval rfl) (hf.eval rfl) (r_addi _ (by omega) (by omega))) ?_; clear hf a; intro a hf
        refine s_a hf rfl ?_; clear hf a; intro a hf
        refine s_nil ?_
        exact ⟨_, _, ⟨i + 1, _, ms ++ [.slice xa (qs[i].2.2.length + 100) xc], rfl, rfl, by omega, by simp [hml], hms9, hs⟩, by omega, hf.sub ⟨rfl, rfl, rfl, rfl, rfl, rfl, rfl, rfl, rfl, trivial⟩⟩
    · simp only [decide_eq_true_eq, decide_eq_false_iff_not, Bool.not_eq_true', Bool.not_eq_false', Bool.not_eq_true, Int.not_lt, Int.not_le] at hi2
      refine wp_exit ?_
      refine then_x ?_
      refine then_x ?_
      refine blk_x ?_
      refine then_n ?_
      refine wp_seq ?_
      refine wp_seq ?_
      refine wp_region_lit ?_
      refine s_a hf rfl ?_; clear hf a; intro a hf
      refine s_nil ?_
      refine then_n ?_
      refine wp_block ?_
      have hml9 : ms.length = qs.length := by omega
      refine c_loop (L0 := [(0, _), (3, _), (5, _), (6, _), (11, _), (12, _), (13, _), (14, _), (35, _), (36, _), (37, _), (38, _)]) (fun M w m => ∃ (j : Nat), M = [(9, .int .i64 (j : Int))] ∧ ps.length - j = m ∧ j ≤ ps.length ∧ St σ w (sl 25 1 v5 i ms :: sl 25 1 (.slice av ps.length cv) ps.length (qs.flatMap mF) :: datA 5 qs :: R)) (M0 := [(9, .int .i64 0)]) (⟨0, rfl, rfl, Nat.zero_le _, hs⟩) (hf.sub ⟨rfl, rfl, rfl, rfl, rfl, rfl, rfl, rfl, rfl, rfl, rfl, rfl, rfl, trivial⟩) ?_
      clear hf hs a
      rintro M m a w ⟨j, rfl, rfl, hj, hs⟩ hf
      refine wp_seq ?_
      refine wp_seq ?_
      refine wp_region_lit ?_
      refine s_m hf rfl ?_; clear hf a; intro a hf
      refine s_m hf rfl ?_; clear hf a; intro a hf
      refine s_v hf (x_len Tryd.underlying34 (hf.eval rfl)) ?_; clear hf a; intro a hf
      refine s_v hf (x_bin (hf.eval rfl) (hf.eval rfl) (r_lt _ _ _ _)) ?_; clear hf a; intro a hf
      refine s_nil ?_
      refine then_n ?_
      refine c_cond hf rfl (fun hi4 => ?_) (fun hi4 => ?_)
      · simp only [decide_eq_true_eq, decide_eq_false_iff_not, Bool.not_eq_true', Bool.not_eq_false', Bool.not_eq_true, Int.not_lt, Int.not_le] at hi4
        have hlt : j < qs.length := by omega
        have hltm : j < ms.length := by omega
        replace hs := hs.take (A := sl 25 1 (.slice av ps.length cv) ps.length (qs.flatMap mF)) (by first | exact .here _ | exact .there _ (.here _) | exact .there _ (.there _ (.here _)) | exact .there _ (.there _ (.there _ (.here _))) | exact .there _ (.there _ (.there _ (.there _ (.here _)))) | exact .there _ (.there _ (.there _ (.there _ (.there _ (.here _))))) | exact .there _ (.there _ (.there _ (.there _ (.there _ (.there _ (.here _)))))) | exact .there _ (.there _ (.there _ (.there _ (.there _ (.there _ (.there _ (.here _))))))) | exact .there _ (.there _ (.there _ (.there _ (.there _ (.there _ (.there _ (.there _ (.here _)))))))) | exact .there _ (.there _ (.there _ (.there _ (.there _ (.there _ (.there _ (.there _ (.there _ (.here _))))))))))
        obtain ⟨av, rfl⟩ := sl_some hs (by omega)
        replace hs := hs.take (A := sl 25 1 v5 i ms) (by first | exact .here _ | exact .there _ (.here _) | exact .there _ (.there _ (.here _)) | exact .there _ (.there _ (.there _ (.here _))) | exact .there _ (.there _ (.there _ (.there _ (.here _)))) | exact .there _ (.there _ (.there _ (.there _ (.there _ (.here _))))) | exact .there _ (.there _ (.there _ (.there _ (.there _ (.there _ (.here _)))))) | exact .there _ (.there _ (.there _ (.there _ (.there _ (.there _ (.there _ (.here _))))))) | exact .there _ (.there _ (.there _ (.there _ (.there _ (.there _ (.there _ (.there _ (.here _)))))))) | exact .there _ (.there _ (.there _ (.there _ (.there _ (.there _ (.there _ (.there _ (.there _ (.here _))))))))))
        obtain ⟨v5, c5, rfl⟩ := sl_shape hs
        obtain ⟨v5, rfl⟩ := sl_some hs (by omega)
        have hpd := hs.datRd (.there _ (.there _ (.here _))) hlt
        obtain ⟨pa, pk, hpv⟩ := hpd.shape
        have hdi := hdl _ (List.getElem_mem hlt)
        obtain ⟨ya, yc, hyv⟩ := hms j hltm hlt
        refine wp_skip ?_
        refine then_n ?_
        refine wp_seq ?_
        refine wp_block ?_
        refine wp_seq ?_
        refine c_draw hs (fun _ => True) [.held, .held, .held, .read, .held, .held, .held, .eff, .held, .held, .held, .held, .read, .held, .held, .held, .held, .read, .held, .held, .held, .held, .held] (by kernel_rfl) (by kernel_rfl) (fun _ _ _ => trivial) ?_
        clear hs; intro w hs hC hw
        refine m_held hf rfl (fun w' _ => x_move (hf.eval rfl) w') ?_; clear hf a; intro a hf
        refine m_held hf rfl (fun w' _ => x_move (hf.eval rfl) w') ?_; clear hf a; intro a hf
        refine m_held hf rfl (fun w' _ => x_indexAddr sl34 (hf.eval rfl) (hf.eval rfl) (by omega) (by omega) w') ?_; clear hf a; intro a hf
        refine m_read hf rfl (x_loadC (i := (j : Int)) hs sc25 (.there _ (.here _)) (hf.eval rfl) (by rw [Int.toNat_natCast]; exact mF_get hlt)) ?_; clear hf a; intro a hf
        replace hf := hf.now (k := 67) (v' := .slice pa qs[j].2.2.length pk) rfl (hpv)
        refine m_held hf rfl (fun w' _ => x_move (hf.eval rfl) w') ?_; clear hf a; intro a hf
        refine m_held hf rfl (fun w' _ => x_bin (hf.eval rfl) (hf.eval rfl) (r_remn _ _ (Int.natCast_nonneg _) (by decide)) w') ?_; clear hf a; intro a hf
        replace hf := hf.now (k := 69) (v' := .int .i64 ((j % 200 : Nat) : Int)) rfl (by congr 1)
        refine m_held hf rfl (fun w' _ => x_convr Tryd.underlying3 Tryd.underlying5 (hf.eval rfl) (u8_of .i64 rfl _) w') ?_; clear hf a; intro a hf
        replace hf := hf.now (k := 70) (v' := u8v (mkB j)) rfl (rfl)
        refine m_eff hf rfl (y_call (hf.eval rfl) (hf.evals rfl) Tryd.call47 ((marked_spec _ pa pk qs[j].2.2 (mkB j) (by rw [← hpv]; exact hs.datRd (.there _ (.there _ (.here _))) hlt) (by omega) (hmk j hlt (by omega))).mono ?_))
        rintro e w1 ⟨rfl, hk9⟩
        replace hs := hs.ext hk9
        refine ⟨_, rfl, ⟨trivial, ?_⟩⟩; clear hf a; intro a hf
        refine m_held hf rfl (fun w' _ => x_move (hf.eval rfl) w') ?_; clear hf a; intro a hf
        replace hf := hf.now (k := 72) (v' := .bool true) rfl (congrArg Value.bool rfl)
        refine m_held hf (wanted_of hf rfl rfl rfl) (fun w' _ => x_move (hf.eval rfl) w') ?_; clear hf a; intro a hf
        refine m_held hf (wanted_of hf rfl rfl rfl) (fun w' _ => x_move (hf.eval rfl) w') ?_; clear hf a; intro a hf
        refine m_held hf (wanted_of hf rfl rfl rfl) (fun w' _ => x_indexAddr sl34 (hf.eval rfl) (hf.eval rfl) (by omega) (by omega) w') ?_; clear hf a; intro a hf
        refine m_read hf (wanted_of hf rfl rfl rfl) (x_loadC (i := (j : Int)) hs sc25 (.here _) (hf.eval rfl) (by rw [Int.toNat_natCast]; exact List.getElem?_eq_getElem hltm)) ?_; clear hf a; intro a hf
        replace hf := hf.now (k := 76) (v' := .slice ya (qs[j].2.2.length + 100) yc) rfl (hyv)
        refine m_held hf (wanted_of hf rfl rfl rfl) (fun w' _ => x_len Tryd.underlying25 (hf.eval rfl) w') ?_; clear hf a; intro a hf
        refine m_held hf (wanted_of hf rfl rfl rfl) (fun w' _ => x_move (hf.eval rfl) w') ?_; clear hf a; intro a hf
        refine m_held hf (wanted_of hf rfl rfl rfl) (fun w' _ => x_move (hf.eval rfl) w') ?_; clear hf a; intro a hf
        refine m_held hf (wanted_of hf rfl rfl rfl) (fun w' _ => x_indexAddr sl34 (hf.eval rfl) (hf.eval rfl) (by omega) (by omega) w') ?_; clear hf a; intro a hf
        refine m_read hf (wanted_of hf rfl rfl rfl) (x_loadC (i := (j : Int)) hs sc25 (.there _ (.here _)) (hf.eval rfl) (by rw [Int.toNat_natCast]; exact mF_get hlt)) ?_; clear hf a; intro a hf
        replace hf := hf.now (k := 81) (v' := .slice pa qs[j].2.2.length pk) rfl (hpv)
        refine m_held hf (wanted_of hf rfl rfl rfl) (fun w' _ => x_len Tryd.underlying25 (hf.eval rfl) w') ?_; clear hf a; intro a hf
        refine m_held hf (wanted_of hf rfl rfl rfl) (fun w' _ => x_bin (hf.eval rfl) (hf.eval rfl) (r_addi _ (by omega) (by omega)) w') ?_; clear hf a; intro a hf
        refine m_held hf (wanted_of hf rfl rfl rfl) (fun w' _ => x_bin (hf.eval rfl) (hf.eval rfl) (r_eq _ _ _ _) w') ?_; clear hf a; intro a hf
        refine m_held hf rfl (fun w' _ => x_pick_t (hf.eval rfl) (hf.eval rfl) w') ?_; clear hf a; intro a hf
        refine m_held hf rfl (fun w' _ => x_assign (hf.eval rfl) w') ?_; clear hf a; intro a hf
        refine m_nil ?_
        refine then_n ?_
        refine wp_seq ?_
        refine wp_region_lit ?_
        refine s_m hf rfl ?_; clear hf a; intro a hf
        refine s_v hf (x_not (hf.eval rfl)) ?_; clear hf a; intro a hf
        refine s_nil ?_
        refine then_n ?_
        refine c_cond_f hf rfl (by simp) ?_
        refine wp_skip ?_
        refine blk_n ?_
        refine then_n ?_
        refine wp_region_lit ?_
        refine s_m hf rfl ?_; clear hf a; intro a hf
        refine s_v hf (x_bin (hf.eval rfl) (hf.eval rfl) (r_addi _ (by omega) (by omega))) ?_; clear hf a; intro a hf
        refine s_a hf rfl ?_; clear hf a; intro a hf
        refine s_nil ?_
        exact ⟨_, _, ⟨j + 1, rfl, rfl, by omega, hs⟩, by omega, hf.sub ⟨rfl, rfl, rfl, rfl, rfl, rfl, rfl, rfl, rfl, rfl, rfl, rfl, rfl, trivial⟩⟩
      · simp only [decide_eq_true_eq, decide_eq_false_iff_not, Bool.not_eq_true', Bool.not_eq_false', Bool.not_eq_true, Int.not_lt, Int.not_le] at hi4
        refine wp_exit ?_
        refine then_x ?_
        refine then_x ?_
        refine blk_x ?_
        refine then_n ?_
        refine wp_seq ?_
        refine wp_region_lit ?_
        refine s_a hf rfl ?_; clear hf a; intro a hf
        refine s_nil ?_
        refine then_n ?_
        refine wp_ret ?_
        refine r_1 hf Tryd.results14 rfl ?_
        exact ⟨rfl, hs.drop.drop.drop⟩

end Go.Proofs.YtehakfbfjpolfaaDoor
