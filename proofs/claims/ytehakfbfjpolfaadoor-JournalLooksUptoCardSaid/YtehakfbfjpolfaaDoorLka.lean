/- The zeros at the end. -/
import Derived.Test.YtehakfbfjpolfaaDoorVX
import Derived.Test.YtehakfbfjpolfaaDoorSed
import Derived.Test.YtehakfbfjpolfaaDoorProg
import Derived.Test.YtehakfbfjpolfaaDoorFacts
set_option maxRecDepth 100000
set_option linter.all false
namespace Go.Proofs.YtehakfbfjpolfaaDoor
open Go Vw
theorem pre_rd {h : Heaplet} {a : Option Addr} {c n : Nat} {l : List UInt8} (hr : RdB h (.slice a l.length c) l) (hn : n ≤ l.length) : RdB h (.slice a n c) (l.take n) := by
  have hc := RdB.cap hr
  have hlen : (l.take n).length = n := by rw [List.length_take]; omega
  have h0 : RdB h (.slice (subA a c 0 1) (l.take n).length c) (l.take n) := by
    have h1 := RdB.sub (i := 0) (j := n) hr rfl (by omega) (by omega)
    rw [hlen]
    simpa using h1
  rw [hlen] at h0
  have e : subA a c 0 1 = a := by unfold subA; split <;> (cases a <;> simp [Addr.add])
  rwa [e] at h0

theorem trimByte_spec (w0 : World) (a1 : Option Addr) (c1 : Nat) (l : List UInt8) (hr1 : RdB (hp w0) (.slice a1 l.length c1) l) (hl1 : l.length ≤ 140737488351232) : Calls Tryd.prog 110 #[.slice a1 l.length c1, u8v 0] w0 fun e w' => e = .returned (.slice a1 (l.length - zt l) c1) ∧ Kept w0 w' None_ := by
  have hs := St.start w0 None_
  have hcp := RdB.cap hr1
  refine c_enter (N := 24) Tryd.func110 rfl Tryd.ntmps110 (by simp) ?_
  intro a hf
  refine wp_seq ?_
  refine wp_region_lit ?_
  refine s_a hf rfl ?_; clear hf a; intro a hf
  refine s_nil ?_
  refine then_n ?_
  refine wp_seq ?_
  refine wp_block ?_
  refine c_loop (L0 := [(1, _), (4, _)]) (fun M w m => ∃ n : Nat, M = [(0, .slice a1 n c1)] ∧ n = m ∧ n ≤ l.length ∧ zt l = (l.length - n) + zt (l.take n) ∧ St ⟨w0, None_⟩ w []) (M0 := _) (⟨l.length, rfl, rfl, Nat.le_refl _, by rw [List.take_length]; omega, hs⟩) (hf.sub ⟨rfl, rfl, rfl, trivial⟩) ?_
  clear hf hs a
  rintro M m a w ⟨n, rfl, rfl, hn, hz, hs⟩ hf
  refine wp_seq ?_
  refine wp_seq ?_
  refine wp_region_lit ?_
  refine s_m hf rfl ?_; clear hf a; intro a hf
  refine s_v hf (x_len Tryd.underlying25 (hf.eval rfl)) ?_; clear hf a; intro a hf
  refine s_v hf (x_bin (hf.eval rfl) (hf.eval rfl) (r_gt _ _ _ _)) ?_; clear hf a; intro a hf
  refine s_m hf rfl ?_; clear hf a; intro a hf
  refine s_bool hf (k := 8) rfl (fun hg1_3 hf' => ?_) (fun hg1_3 hf' => ?_)
  · clear hf
    have hf := hf'
    clear hf'
    first | simp only [decide_eq_true_eq, decide_eq_false_iff_not, Bool.not_eq_true', Bool.not_eq_false'] at hg1_3 | skip
    obtain ⟨n, rfl⟩ : ∃ k, n = k + 1 := ⟨n - 1, by omega⟩
    have hlt : n < l.length := by omega
    obtain ⟨a1, rfl⟩ := hr1.some (by omega)
    refine s_do hf (wanted_of hf rfl rfl rfl) (.value (x_move (hf.eval rfl) _) ?_); clear hf a; intro a hf
    refine s_do hf (wanted_of hf rfl rfl rfl) (.value (x_move (hf.eval rfl) _) ?_); clear hf a; intro a hf
    refine s_do hf (wanted_of hf rfl rfl rfl) (.value (x_len Tryd.underlying25 (hf.eval rfl) _) ?_); clear hf a; intro a hf
    refine s_do hf (wanted_of hf rfl rfl rfl) (.value (x_bin (hf.eval rfl) (hf.eval rfl) (r_subi _ (by omega) (by omega)) _) ?_); clear hf a; intro a hf
    replace hf := hf.now (k := 12) (v' := .int .i64 (n : Int)) rfl (by congr 1 <;> omega)
    refine s_do hf (wanted_of hf rfl rfl rfl) (.value (x_indexAddr sl25 (hf.eval rfl) (hf.eval rfl) (by omega) (by omega) _) ?_); clear hf a; intro a hf
    refine s_do hf (wanted_of hf rfl rfl rfl) (.value (x_loadB (i := (n : Int)) sc5 (hs.oldB hr1) (hf.eval rfl) (by rw [Int.toNat_natCast]; exact hlt)) ?_); clear hf a; intro a hf
    replace hf := hf.now (k := 14) (v' := u8v l[n]) rfl (rfl)
    refine s_do hf (wanted_of hf rfl rfl rfl) (.value (x_move (hf.eval rfl) _) ?_); clear hf a; intro a hf
    refine s_do hf (wanted_of hf rfl rfl rfl) (.value (x_bin (hf.eval rfl) (hf.eval rfl) (r_eq _ _ _ _) _) ?_); clear hf a; intro a hf
    refine s_v hf (x_pick_t (hf.eval rfl) (hf.eval rfl)) ?_; clear hf a; intro a hf
    refine s_nil ?_
    refine then_n ?_
    refine c_cond hf rfl (fun hi0 => ?_) (fun hi0 => ?_)
    · first | simp only [decide_eq_true_eq, decide_eq_false_iff_not, Bool.not_eq_true', Bool.not_eq_false'] at hi0 | skip
      have h0 : l[n] = 0 := UInt8.toNat_inj.1 (by omega)
      have hz9 : zt l = (l.length - n) + zt (l.take n) := by rw [hz, zt_take0 hlt h0]; omega
      refine wp_skip ?_
      refine then_n ?_
      refine wp_block ?_
      refine wp_region_lit ?_
      refine s_m hf rfl ?_; clear hf a; intro a hf
      refine s_m hf rfl ?_; clear hf a; intro a hf
      refine s_v hf (x_len Tryd.underlying25 (hf.eval rfl)) ?_; clear hf a; intro a hf
      refine s_v hf (x_bin (hf.eval rfl) (hf.eval rfl) (r_subi _ (by omega) (by omega))) ?_; clear hf a; intro a hf
      replace hf := hf.now (k := 21) (v' := .int .i64 (n : Int)) rfl (by congr 1 <;> omega)
      refine s_v hf (x_slice_hi sl25 (hf.eval rfl) (hf.eval rfl)  (by omega) (by omega)) ?_; clear hf a; intro a hf
      replace hf := hf.now (k := 22) (v' := .slice (some a1) n c1) rfl (rfl)
      refine s_a hf rfl ?_; clear hf a; intro a hf
      refine s_nil ?_
      refine blk_n ?_
      exact ⟨_, _, ⟨n, rfl, rfl, by omega, hz9, hs⟩, by omega, hf.sub ⟨rfl, rfl, rfl, trivial⟩⟩
    · first | simp only [decide_eq_true_eq, decide_eq_false_iff_not, Bool.not_eq_true', Bool.not_eq_false'] at hi0 | skip
      refine wp_exit ?_
      refine then_x ?_
      refine then_x ?_
      refine blk_x ?_
      refine then_n ?_
      refine wp_seq ?_
      refine wp_region_lit ?_
      refine s_m hf rfl ?_; clear hf a; intro a hf
      refine s_a hf rfl ?_; clear hf a; intro a hf
      refine s_nil ?_
      refine then_n ?_
      refine wp_ret ?_
      refine r_1 hf Tryd.results110 rfl ?_
      first | (rw [show l.length - zt l = n by rw [hz, show n = 0 by omega, List.take_zero, zt_nil] <;> omega]; exact ⟨rfl, hs.kept⟩) | (rw [show l.length - zt l = n + 1 by rw [hz, zt_take1 hlt (fun h9 => hi0 (by rw [h9]))]; omega]; exact ⟨rfl, hs.kept⟩)
  · clear hf
    have hf := hf'
    clear hf'
    first | simp only [decide_eq_true_eq, decide_eq_false_iff_not, Bool.not_eq_true', Bool.not_eq_false'] at hg1_3 | skip
    refine s_pass hf rfl rfl ?_; clear hf a; intro a hf
    refine s_pass hf rfl rfl ?_; clear hf a; intro a hf
    refine s_pass hf rfl rfl ?_; clear hf a; intro a hf
    refine s_pass hf rfl rfl ?_; clear hf a; intro a hf
    refine s_pass hf rfl rfl ?_; clear hf a; intro a hf
    refine s_pass hf rfl rfl ?_; clear hf a; intro a hf
    refine s_pass hf rfl rfl ?_; clear hf a; intro a hf
    refine s_pass hf rfl rfl ?_; clear hf a; intro a hf
    refine s_v hf (x_pick_f (hf.eval rfl) (hf.eval rfl)) ?_; clear hf a; intro a hf
    refine s_nil ?_
    refine then_n ?_
    refine c_cond_f hf rfl rfl ?_
    refine wp_exit ?_
    refine then_x ?_
    refine then_x ?_
    refine blk_x ?_
    refine then_n ?_
    refine wp_seq ?_
    refine wp_region_lit ?_
    refine s_m hf rfl ?_; clear hf a; intro a hf
    refine s_a hf rfl ?_; clear hf a; intro a hf
    refine s_nil ?_
    refine then_n ?_
    refine wp_ret ?_
    refine r_1 hf Tryd.results110 rfl ?_
    first | (rw [show l.length - zt l = n by rw [hz, show n = 0 by omega, List.take_zero, zt_nil] <;> omega]; exact ⟨rfl, hs.kept⟩) | (rw [show l.length - zt l = n + 1 by rw [hz, zt_take1 hlt (fun h9 => hi0 (by rw [h9]))]; omega]; exact ⟨rfl, hs.kept⟩)

theorem trim_spec (w0 : World) (a1 : Option Addr) (c1 : Nat) (l : List UInt8) (hr1 : RdB (hp w0) (.slice a1 l.length c1) l) (hl1 : l.length ≤ 140737488351232) : Calls Tryd.prog 98 #[.slice a1 l.length c1, .string ⟨#[0]⟩] w0 fun e w' => e = .returned (.slice a1 (l.length - zt l) c1) ∧ Kept w0 w' None_ := by
  have hs := St.start w0 None_
  refine c_enter (N := 38) Tryd.func98 rfl Tryd.ntmps98 (by simp) ?_
  intro a hf
  refine wp_seq ?_
  refine wp_region_lit ?_
  refine s_a hf rfl ?_; clear hf a; intro a hf
  refine s_nil ?_
  refine then_n ?_
  refine wp_seq ?_
  refine wp_seq ?_
  refine wp_region_lit ?_
  refine s_m hf rfl ?_; clear hf a; intro a hf
  refine s_v hf (x_len Tryd.underlying25 (hf.eval rfl)) ?_; clear hf a; intro a hf
  refine s_v hf (x_bin (hf.eval rfl) (hf.eval rfl) (r_eq _ _ _ _)) ?_; clear hf a; intro a hf
  refine s_m hf rfl ?_; clear hf a; intro a hf
  refine s_bool hf (k := 10) rfl (fun hg1_3 hf' => ?_) (fun hg1_3 hf' => ?_)
  · clear hf
    have hf := hf'
    clear hf'
    first | simp only [decide_eq_true_eq, decide_eq_false_iff_not, Bool.not_eq_true', Bool.not_eq_false'] at hg1_3 | skip
    refine s_pass hf rfl rfl ?_; clear hf a; intro a hf
    refine s_pass hf rfl rfl ?_; clear hf a; intro a hf
    refine s_v hf (x_pick_t (hf.eval rfl) (hf.eval rfl)) ?_; clear hf a; intro a hf
    refine s_nil ?_
    refine then_n ?_
    refine c_cond_t hf rfl rfl ?_
    refine wp_seq ?_
    refine wp_region_lit ?_
    refine s_m hf rfl ?_; clear hf a; intro a hf
    refine s_a hf rfl ?_; clear hf a; intro a hf
    refine s_nil ?_
    refine then_n ?_
    refine wp_ret ?_
    refine then_r ?_
    refine r_1 hf Tryd.results98 rfl ?_
    first | exact absurd hi0 (by simp) | (have hz := zt_le l; exact ⟨by rw [show l.length - zt l = l.length by omega], hs.kept⟩)
  · clear hf
    have hf := hf'
    clear hf'
    first | simp only [decide_eq_true_eq, decide_eq_false_iff_not, Bool.not_eq_true', Bool.not_eq_false'] at hg1_3 | skip
    refine s_do hf (wanted_of hf rfl rfl rfl) (.value (x_move (hf.eval rfl) _) ?_); clear hf a; intro a hf
    refine s_do hf (wanted_of hf rfl rfl rfl) (.value (x_strEq (hf.eval rfl) (hf.eval rfl) _) ?_); clear hf a; intro a hf
    replace hf := hf.now (k := 12) (v' := .bool false) rfl (by rw [show (⟨#[0]⟩ : ByteArray).toList = [0] from bytes_toList [0], show (⟨#[]⟩ : ByteArray).toList = [] from bytes_toList []]; rfl)
    refine s_v hf (x_pick_f (hf.eval rfl) (hf.eval rfl)) ?_; clear hf a; intro a hf
    refine s_nil ?_
    refine then_n ?_
    refine c_cond hf rfl (fun hi0 => ?_) (fun hi0 => ?_)
    · skip
      refine wp_seq ?_
      refine wp_region_lit ?_
      refine s_m hf rfl ?_; clear hf a; intro a hf
      refine s_a hf rfl ?_; clear hf a; intro a hf
      refine s_nil ?_
      refine then_n ?_
      refine wp_ret ?_
      refine then_r ?_
      refine r_1 hf Tryd.results98 rfl ?_
      first | exact absurd hi0 (by simp) | (have hz := zt_le l; exact ⟨by rw [show l.length - zt l = l.length by omega], hs.kept⟩)
    · skip
      refine wp_skip ?_
      refine then_n ?_
      refine wp_seq ?_
      refine wp_seq ?_
      refine wp_region_lit ?_
      refine s_m hf rfl ?_; clear hf a; intro a hf
      refine s_v hf (x_lenS Tryd.underlying9 (hf.eval rfl)) ?_; clear hf a; intro a hf
      replace hf := hf.now (k := 16) (v' := .int .i64 1) rfl (rfl)
      refine s_v hf (x_bin (hf.eval rfl) (hf.eval rfl) (r_eq _ _ _ _)) ?_; clear hf a; intro a hf
      refine s_m hf rfl ?_; clear hf a; intro a hf
      replace hf := hf.now (k := 18) (v' := .bool true) rfl (congrArg Value.bool rfl)
      refine s_do hf (wanted_of hf rfl rfl rfl) (.value (x_move (hf.eval rfl) _) ?_); clear hf a; intro a hf
      refine s_do hf (wanted_of hf rfl rfl rfl) (.value (x_indexStr (l := [0]) (i := 0) Tryd.underlying9 (hf.eval rfl) rfl (by decide) _) ?_); clear hf a; intro a hf
      replace hf := hf.now (k := 20) (v' := u8v 0) rfl (rfl)
      refine s_do hf (wanted_of hf rfl rfl rfl) (.value (x_bin (hf.eval rfl) (hf.eval rfl) (r_lt _ _ _ _) _) ?_); clear hf a; intro a hf
      refine s_v hf (x_pick_t (hf.eval rfl) (hf.eval rfl)) ?_; clear hf a; intro a hf
      refine s_nil ?_
      refine then_n ?_
      refine c_cond_t hf rfl rfl ?_
      refine wp_seq ?_
      refine wp_region_lit ?_
      refine s_m hf rfl ?_; clear hf a; intro a hf
      refine s_m hf rfl ?_; clear hf a; intro a hf
      refine s_r hf (x_indexStr (l := [0]) (i := 0) Tryd.underlying9 (hf.eval rfl) rfl (by decide) _) ?_; clear hf a; intro a hf
      replace hf := hf.now (k := 25) (v' := u8v 0) rfl (rfl)
      refine s_do hf rfl (y_call (hf.eval rfl) (hf.evals rfl) Tryd.call110 ((trimByte_spec _ _ _ l (hs.oldB hr1) hl1).mono ?_))
      rintro e w1 ⟨rfl, hk⟩
      replace hs := hs.ext hk
      refine ⟨_, rfl, ?_⟩; clear hf a; intro a hf
      refine s_a hf rfl ?_; clear hf a; intro a hf
      refine s_nil ?_
      refine then_n ?_
      refine wp_ret ?_
      refine then_r ?_
      refine r_1 hf Tryd.results98 rfl ?_
      exact ⟨rfl, hs.kept⟩

theorem tail_spec (w0 : World) (a1 : Option Addr) (c1 : Nat) (l : List UInt8) (hr1 : RdB (hp w0) (.slice a1 l.length c1) l) (hl1 : l.length ≤ 140737488351232) : Calls Tryd.prog 80 #[.slice a1 l.length c1] w0 fun e w' => e = .returned (.int .i64 (zt l : Int)) ∧ Kept w0 w' None_ := by
  have hs := St.start w0 None_
  refine c_enter (N := 9) Tryd.func80 rfl Tryd.ntmps80 (by simp) ?_
  intro a hf
  refine wp_seq ?_
  refine wp_region_lit ?_
  refine s_a hf rfl ?_; clear hf a; intro a hf
  refine s_nil ?_
  refine then_n ?_
  refine wp_seq ?_
  refine wp_region_lit ?_
  refine s_m hf rfl ?_; clear hf a; intro a hf
  refine s_v hf (x_len Tryd.underlying25 (hf.eval rfl)) ?_; clear hf a; intro a hf
  refine s_m hf rfl ?_; clear hf a; intro a hf
  refine s_do hf rfl (y_call (hf.eval rfl) (hf.evals rfl) Tryd.call98 ((trim_spec _ _ _ l (hs.oldB hr1) hl1).mono ?_))
  rintro e w1 ⟨rfl, hk⟩
  replace hs := hs.ext hk
  refine ⟨_, rfl, ?_⟩; clear hf a; intro a hf
  refine s_v hf (x_len Tryd.underlying25 (hf.eval rfl)) ?_; clear hf a; intro a hf
  refine s_v hf (x_bin (hf.eval rfl) (hf.eval rfl) (r_subi _ (by omega) (by omega))) ?_; clear hf a; intro a hf
  refine s_a hf rfl ?_; clear hf a; intro a hf
  refine s_nil ?_
  refine then_n ?_
  refine wp_ret ?_
  refine r_1 hf Tryd.results80 rfl ?_
  have hz := zt_le l
  exact ⟨by congr 2; omega, hs.kept⟩

theorem rtail_spec (w0 : World) (a1 : Option Addr) (c1 : Nat) (l : List UInt8) (hr1 : RdB (hp w0) (.slice a1 l.length c1) l) (hl1 : l.length ≤ 140737488351232) : Calls Tryd.prog 33 #[.slice a1 l.length c1] w0 fun e w' => e = .returned (.int .i64 (zt l : Int)) ∧ Kept w0 w' None_ := by
  have hs := St.start w0 None_
  refine c_enter (N := 22) Tryd.func33 rfl Tryd.ntmps33 (by simp) ?_
  intro a hf
  refine wp_seq ?_
  refine wp_region_lit ?_
  refine s_a hf rfl ?_; clear hf a; intro a hf
  refine s_nil ?_
  refine then_n ?_
  refine wp_seq ?_
  refine wp_region_lit ?_
  refine s_a hf rfl ?_; clear hf a; intro a hf
  refine s_nil ?_
  refine then_n ?_
  refine wp_seq ?_
  refine wp_block ?_
  refine c_loop (L0 := [(0, _), (2, _)]) (fun M w m => ∃ n : Nat, M = [(3, .int .i64 ((l.length - n : Nat) : Int))] ∧ n = m ∧ n ≤ l.length ∧ zt l = (l.length - n) + zt (l.take n) ∧ St ⟨w0, None_⟩ w []) (M0 := [(3, .int .i64 0)]) (⟨l.length, by rw [Nat.sub_self]; rfl, rfl, Nat.le_refl _, by rw [List.take_length]; omega, hs⟩) (hf.sub ⟨rfl, rfl, rfl, trivial⟩) ?_
  clear hf hs a
  rintro M m a w ⟨n, rfl, rfl, hn, hz, hs⟩ hf
  refine wp_seq ?_
  refine wp_seq ?_
  refine wp_region_lit ?_
  refine s_m hf rfl ?_; clear hf a; intro a hf
  refine s_m hf rfl ?_; clear hf a; intro a hf
  refine s_v hf (x_len Tryd.underlying25 (hf.eval rfl)) ?_; clear hf a; intro a hf
  refine s_v hf (x_bin (hf.eval rfl) (hf.eval rfl) (r_lt _ _ _ _)) ?_; clear hf a; intro a hf
  refine s_m hf rfl ?_; clear hf a; intro a hf
  refine s_bool hf (k := 8) rfl (fun hg2_4 hf' => ?_) (fun hg2_4 hf' => ?_)
  · clear hf
    have hf := hf'
    clear hf'
    first | simp only [decide_eq_true_eq, decide_eq_false_iff_not, Bool.not_eq_true', Bool.not_eq_false'] at hg2_4 | skip
    obtain ⟨n, rfl⟩ : ∃ k, n = k + 1 := ⟨n - 1, by omega⟩
    have hlt : n < l.length := by omega
    obtain ⟨a1, rfl⟩ := hr1.some (by omega)
    refine s_do hf (wanted_of hf rfl rfl rfl) (.value (x_move (hf.eval rfl) _) ?_); clear hf a; intro a hf
    refine s_do hf (wanted_of hf rfl rfl rfl) (.value (x_move (hf.eval rfl) _) ?_); clear hf a; intro a hf
    refine s_do hf (wanted_of hf rfl rfl rfl) (.value (x_len Tryd.underlying25 (hf.eval rfl) _) ?_); clear hf a; intro a hf
    refine s_do hf (wanted_of hf rfl rfl rfl) (.value (x_bin (hf.eval rfl) (hf.eval rfl) (r_subi _ (by omega) (by omega)) _) ?_); clear hf a; intro a hf
    refine s_do hf (wanted_of hf rfl rfl rfl) (.value (x_move (hf.eval rfl) _) ?_); clear hf a; intro a hf
    refine s_do hf (wanted_of hf rfl rfl rfl) (.value (x_bin (hf.eval rfl) (hf.eval rfl) (r_subi _ (by omega) (by omega)) _) ?_); clear hf a; intro a hf
    replace hf := hf.now (k := 14) (v' := .int .i64 (n : Int)) rfl (by congr 1 <;> omega)
    refine s_do hf (wanted_of hf rfl rfl rfl) (.value (x_indexAddr sl25 (hf.eval rfl) (hf.eval rfl) (by omega) (by omega) _) ?_); clear hf a; intro a hf
    refine s_do hf (wanted_of hf rfl rfl rfl) (.value (x_loadB (i := (n : Int)) sc5 (hs.oldB hr1) (hf.eval rfl) (by rw [Int.toNat_natCast]; exact hlt)) ?_); clear hf a; intro a hf
    replace hf := hf.now (k := 16) (v' := u8v l[n]) rfl (rfl)
    refine s_do hf (wanted_of hf rfl rfl rfl) (.value (x_bin (hf.eval rfl) (hf.eval rfl) (r_eq _ _ _ _) _) ?_); clear hf a; intro a hf
    refine s_v hf (x_pick_t (hf.eval rfl) (hf.eval rfl)) ?_; clear hf a; intro a hf
    refine s_nil ?_
    refine then_n ?_
    refine c_cond hf rfl (fun hi0 => ?_) (fun hi0 => ?_)
    · first | simp only [decide_eq_true_eq, decide_eq_false_iff_not, Bool.not_eq_true', Bool.not_eq_false'] at hi0 | skip
      have h0 : l[n] = 0 := UInt8.toNat_inj.1 (by show l[n].toNat = 0; omega)
      have hz9 : zt l = (l.length - n) + zt (l.take n) := by rw [hz, zt_take0 hlt h0]; omega
      refine wp_skip ?_
      refine then_n ?_
      refine wp_block ?_
      refine wp_region_lit ?_
      refine s_m hf rfl ?_; clear hf a; intro a hf
      refine s_v hf (x_bin (hf.eval rfl) (hf.eval rfl) (r_addi _ (by omega) (by omega))) ?_; clear hf a; intro a hf
      replace hf := hf.now (k := 20) (v' := .int .i64 ((l.length - n : Nat) : Int)) rfl (by congr 1 <;> omega)
      refine s_a hf rfl ?_; clear hf a; intro a hf
      refine s_nil ?_
      refine blk_n ?_
      exact ⟨_, _, ⟨n, rfl, rfl, by omega, hz9, hs⟩, by omega, hf.sub ⟨rfl, rfl, rfl, trivial⟩⟩
    · first | simp only [decide_eq_true_eq, decide_eq_false_iff_not, Bool.not_eq_true', Bool.not_eq_false'] at hi0 | skip
      refine wp_exit ?_
      refine then_x ?_
      refine then_x ?_
      refine blk_x ?_
      refine then_n ?_
      refine wp_seq ?_
      refine wp_region_lit ?_
      refine s_m hf rfl ?_; clear hf a; intro a hf
      refine s_a hf rfl ?_; clear hf a; intro a hf
      refine s_nil ?_
      refine then_n ?_
      refine wp_ret ?_
      refine r_1 hf Tryd.results33 rfl ?_
      first | (rw [show zt l = l.length - n by rw [hz, show n = 0 by omega, List.take_zero, zt_nil] <;> omega]; exact ⟨rfl, hs.kept⟩) | (rw [show zt l = l.length - (n + 1) by rw [hz, zt_take1 hlt (fun h9 => hi0 (by rw [h9]; rfl))]; omega]; exact ⟨rfl, hs.kept⟩)
  · clear hf
    have hf := hf'
    clear hf'
    first | simp only [decide_eq_true_eq, decide_eq_false_iff_not, Bool.not_eq_true', Bool.not_eq_false'] at hg2_4 | skip
    refine s_pass hf rfl rfl ?_; clear hf a; intro a hf
    refine s_pass hf rfl rfl ?_; clear hf a; intro a hf
    refine s_pass hf rfl rfl ?_; clear hf a; intro a hf
    refine s_pass hf rfl rfl ?_; clear hf a; intro a hf
    refine s_pass hf rfl rfl ?_; clear hf a; intro a hf
    refine s_pass hf rfl rfl ?_; clear hf a; intro a hf
    refine s_pass hf rfl rfl ?_; clear hf a; intro a hf
    refine s_pass hf rfl rfl ?_; clear hf a; intro a hf
    refine s_pass hf rfl rfl ?_; clear hf a; intro a hf
    refine s_v hf (x_pick_f (hf.eval rfl) (hf.eval rfl)) ?_; clear hf a; intro a hf
    refine s_nil ?_
    refine then_n ?_
    refine c_cond_f hf rfl rfl ?_
    refine wp_exit ?_
    refine then_x ?_
    refine then_x ?_
    refine blk_x ?_
    refine then_n ?_
    refine wp_seq ?_
    refine wp_region_lit ?_
    refine s_m hf rfl ?_; clear hf a; intro a hf
    refine s_a hf rfl ?_; clear hf a; intro a hf
    refine s_nil ?_
    refine then_n ?_
    refine wp_ret ?_
    refine r_1 hf Tryd.results33 rfl ?_
    first | (rw [show zt l = l.length - n by rw [hz, show n = 0 by omega, List.take_zero, zt_nil] <;> omega]; exact ⟨rfl, hs.kept⟩) | (rw [show zt l = l.length - (n + 1) by rw [hz, zt_take1 hlt (fun h9 => hi0 (by rw [h9]; rfl))]; omega]; exact ⟨rfl, hs.kept⟩)

end Go.Proofs.YtehakfbfjpolfaaDoor
