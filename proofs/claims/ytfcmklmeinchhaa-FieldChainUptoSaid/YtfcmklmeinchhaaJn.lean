/- Join: the moves as maps, and the product of polynomials. -/
import Derived.Test.YtfcmklmeinchhaaVF
import Derived.Test.YtfcmklmeinchhaaSum
import Derived.Test.YtfcmklmeinchhaaHlp
import Derived.Test.YtfcmklmeinchhaaProg
import Derived.Test.YtfcmklmeinchhaaFacts
set_option maxRecDepth 100000
set_option linter.all false
namespace Go.Proofs.Ytfcmklmeinchhaa
open Go Vw
theorem move_spec (w : World) (x : Nat) (hx : x < 4294967296) : Calls Try.prog 53 #[.int .u32 ((x : Nat) : Int)] w fun e w' => e = .returned (.int .u32 ((mv x : Nat) : Int)) ∧ w' = w := by
  refine c_enter (N := 11) Try.func53 rfl Try.ntmps53 (by simp) ?_
  intro a hf
  refine wp_seq ?_
  refine wp_region_lit ?_
  refine s_a hf rfl ?_; clear hf a; intro a hf
  refine s_nil ?_
  refine then_n ?_
  refine wp_seq ?_
  refine wp_seq ?_
  refine wp_region_lit ?_
  refine s_m hf rfl ?_; clear hf a; intro a hf
  refine s_v hf (x_bin (hf.eval rfl) (hf.eval rfl) (r_and_u32 _ (y := 1) hx (by omega))) ?_; clear hf a; intro a hf
  replace hf := hf.now (k := 4) (v' := .int .u32 ((x % 2 : Nat) : Int)) rfl (by rw [and1])
  refine s_v hf (x_bin (hf.eval rfl) (hf.eval rfl) (r_eq _ _ _ _)) ?_; clear hf a; intro a hf
  refine s_nil ?_
  refine then_n ?_
  refine c_cond hf rfl (fun hi0 => ?_) (fun hi0 => ?_)
  · simp only [decide_eq_true_eq, decide_eq_false_iff_not] at hi0
    refine wp_seq ?_
    refine wp_region_lit ?_
    refine s_m hf rfl ?_; clear hf a; intro a hf
    refine s_v hf (x_bin (hf.eval rfl) (hf.eval rfl) (r_shr_u32 _ (j := 1) (by omega))) ?_; clear hf a; intro a hf
    replace hf := hf.now (k := 7) (v' := .int .u32 ((x / 2 : Nat) : Int)) rfl (rfl)
    refine s_v hf (x_bin (hf.eval rfl) (hf.eval rfl) (r_xor_u32 _ (y := 3988292384) (by omega) (by omega))) ?_; clear hf a; intro a hf
    refine s_a hf rfl ?_; clear hf a; intro a hf
    refine s_nil ?_
    refine then_n ?_
    refine wp_ret ?_
    refine then_r ?_
    refine r_1 hf Try.results53 rfl ?_
    exact ⟨by unfold mv; rw [if_pos (by omega)], rfl⟩
  · simp only [decide_eq_true_eq, decide_eq_false_iff_not] at hi0
    refine wp_skip ?_
    refine then_n ?_
    refine wp_seq ?_
    refine wp_region_lit ?_
    refine s_m hf rfl ?_; clear hf a; intro a hf
    refine s_v hf (x_bin (hf.eval rfl) (hf.eval rfl) (r_shr_u32 _ (j := 1) (by omega))) ?_; clear hf a; intro a hf
    replace hf := hf.now (k := 10) (v' := .int .u32 ((x / 2 : Nat) : Int)) rfl (rfl)
    refine s_a hf rfl ?_; clear hf a; intro a hf
    refine s_nil ?_
    refine then_n ?_
    refine wp_ret ?_
    refine r_1 hf Try.results53 rfl ?_
    exact ⟨by unfold mv; rw [if_neg (by omega), Nat.xor_zero], rfl⟩

theorem of_spec (w0 : World) (t r : Nat) (hr : r < 4294967296) : Calls Try.prog 54 #[.agg (arrL t).toArray, .int .u32 ((r : Nat) : Int)] w0 fun e w' => e = .returned (.int .u32 ((mvN t r : Nat) : Int)) ∧ Kept w0 w' None_ := by
  have hs := St.start w0 None_
  refine c_enter (N := 22) Try.func54 rfl Try.ntmps54 (by simp) ?_
  intro a hf
  refine wp_seq ?_
  refine wp_region_lit ?_
  refine s_do hf rfl (y_box hs (hf.eval rfl) ?_); clear hf hs a; intro b w hs a hf
  change St _ _ (cb b 72 (arrL t) :: _) at hs
  refine s_a hf rfl ?_; clear hf a; intro a hf
  refine s_nil ?_
  refine then_n ?_
  refine wp_seq ?_
  refine wp_region_lit ?_
  refine s_a hf rfl ?_; clear hf a; intro a hf
  refine s_nil ?_
  refine then_n ?_
  refine wp_seq ?_
  refine wp_seq ?_
  refine wp_region_lit ?_
  refine s_m hf rfl ?_; clear hf a; intro a hf
  refine s_nil ?_
  refine then_n ?_
  refine wp_block ?_
  refine c_loop (L0 := [(1, _), (2, _), (4, _)]) (fun M w m => ∃ i : Nat, M = [(5, .int .u32 ((mvN t (r % 2 ^ i) : Nat) : Int)), (7, .int .i64 (i : Int))] ∧ 32 - i = m ∧ i ≤ 32 ∧ St ⟨w0, None_⟩ w [cb b 72 (arrL t)]) (M0 := [(5, .int .u32 0), (7, .int .i64 0)]) (⟨0, by rw [Nat.pow_zero, Nat.mod_one, mvN_zero]; rfl, rfl, Nat.zero_le _, hs⟩) (hf.sub ⟨rfl, rfl, rfl, rfl, rfl, trivial⟩) ?_
  clear hf hs a
  rintro M m a w ⟨i, rfl, rfl, hi, hs⟩ hf
  refine wp_seq ?_
  refine wp_region_lit ?_
  refine s_v hf (x_bin (hf.eval rfl) (hf.eval rfl) (r_lt _ _ _ _)) ?_; clear hf a; intro a hf
  refine s_nil ?_
  refine then_n ?_
  refine wp_seq ?_
  refine c_cond hf rfl (fun hi0 => ?_) (fun hi0 => ?_)
  · simp only [decide_eq_true_eq, decide_eq_false_iff_not, Bool.not_eq_true', Bool.not_eq_false', Bool.not_eq_true, Int.not_lt, Int.not_le] at hi0
    have hlt : i < 32 := by omega
    refine wp_skip ?_
    refine then_n ?_
    refine wp_seq ?_
    refine wp_block ?_
    refine wp_seq ?_
    refine wp_region_lit ?_
    refine s_m hf rfl ?_; clear hf a; intro a hf
    refine s_a hf rfl ?_; clear hf a; intro a hf
    refine s_nil ?_
    refine then_n ?_
    refine wp_seq ?_
    refine wp_region_lit ?_
    refine s_m hf rfl ?_; clear hf a; intro a hf
    refine s_m hf rfl ?_; clear hf a; intro a hf
    refine s_v hf (x_bin (hf.eval rfl) (hf.eval rfl) (r_shr_u32 _ (by omega))) ?_; clear hf a; intro a hf
    refine s_v hf (x_bin (hf.eval rfl) (hf.eval rfl) (r_and_u32 _ (y := 1) (Nat.lt_of_le_of_lt (Nat.div_le_self _ _) hr) (by omega))) ?_; clear hf a; intro a hf
    replace hf := hf.now (k := 13) (v' := .int .u32 ((r / 2 ^ i % 2 : Nat) : Int)) rfl (by rw [and1])
    refine s_v hf (x_bin (hf.eval rfl) (hf.eval rfl) (r_eq _ _ _ _)) ?_; clear hf a; intro a hf
    refine s_nil ?_
    refine then_n ?_
    refine c_cond hf rfl (fun hi1 => ?_) (fun hi1 => ?_)
    · simp only [decide_eq_true_eq, decide_eq_false_iff_not] at hi1
      replace hi1 := hi1
      replace hi1 : r / 2 ^ i % 2 = 1 := by omega
      refine wp_region_lit ?_
      refine s_m hf rfl ?_; clear hf a; intro a hf
      refine s_m hf rfl ?_; clear hf a; intro a hf
      refine s_v hf (x_indexArr (sz := 1) Try.underlying72 (by kernel_rfl) (hf.eval rfl) (hf.eval rfl) (by omega) (by omega)) ?_; clear hf a; intro a hf
      replace hf := hf.now (k := 17) (v' := .pointer (some ⟨b, i, none⟩)) rfl (by rw [addr0])
      refine s_r hf (x_load sc22 (hf.eval rfl) (hs.cell (.here _) (arrL_get t hlt))) ?_; clear hf a; intro a hf
      have hr2 : r % 2 ^ i < 4294967296 := Nat.lt_of_le_of_lt (Nat.mod_le _ _) hr
      refine s_v hf (x_bin (hf.eval rfl) (hf.eval rfl) (r_xor_u32 _ (mvN_lt t hr2) (mvN_lt t (Nat.pow_lt_pow_right (by omega) hlt)))) ?_; clear hf a; intro a hf
      refine s_a hf rfl ?_; clear hf a; intro a hf
      refine s_nil ?_
      refine blk_n ?_
      refine then_n ?_
      refine wp_region_lit ?_
      refine s_v hf (x_bin (hf.eval rfl) (hf.eval rfl) (r_addi _ (by omega) (by omega))) ?_; clear hf a; intro a hf
      refine s_m hf rfl ?_; clear hf a; intro a hf
      refine s_nil ?_
      replace hf := hf.now (k := 5) (v' := .int .u32 ((mvN t (r % 2 ^ (i + 1)) : Nat) : Int)) rfl (by rw [bit_step]; first | rw [if_pos hi1, mvN_xor, Nat.xor_comm] | rw [if_neg hi1])
      exact ⟨_, _, ⟨i + 1, rfl, rfl, by omega, hs⟩, by omega, hf.sub ⟨rfl, rfl, rfl, rfl, rfl, trivial⟩⟩
    · simp only [decide_eq_true_eq, decide_eq_false_iff_not] at hi1
      replace hi1 := hi1
      replace hi1 : ¬ r / 2 ^ i % 2 = 1 := by omega
      refine wp_skip ?_
      refine blk_n ?_
      refine then_n ?_
      refine wp_region_lit ?_
      refine s_v hf (x_bin (hf.eval rfl) (hf.eval rfl) (r_addi _ (by omega) (by omega))) ?_; clear hf a; intro a hf
      refine s_m hf rfl ?_; clear hf a; intro a hf
      refine s_nil ?_
      replace hf := hf.now (k := 5) (v' := .int .u32 ((mvN t (r % 2 ^ (i + 1)) : Nat) : Int)) rfl (by rw [bit_step]; first | rw [if_pos hi1, mvN_xor, Nat.xor_comm] | rw [if_neg hi1])
      exact ⟨_, _, ⟨i + 1, rfl, rfl, by omega, hs⟩, by omega, hf.sub ⟨rfl, rfl, rfl, rfl, rfl, trivial⟩⟩
  · simp only [decide_eq_true_eq, decide_eq_false_iff_not, Bool.not_eq_true', Bool.not_eq_false', Bool.not_eq_true, Int.not_lt, Int.not_le] at hi0
    refine wp_exit ?_
    refine then_x ?_
    refine then_x ?_
    refine blk_x ?_
    refine then_n ?_
    refine wp_seq ?_
    refine wp_region_lit ?_
    refine s_m hf rfl ?_; clear hf a; intro a hf
    refine s_a hf rfl ?_; clear hf a; intro a hf
    refine s_nil ?_
    refine then_n ?_
    refine wp_ret ?_
    refine r_1 hf Try.results54 rfl ?_
    obtain rfl : i = 32 := by omega
    exact ⟨by rw [Nat.mod_eq_of_lt (by simpa using hr)], hs.kept⟩

theorem twice_spec (w0 : World) (t : Nat) : Calls Try.prog 55 #[.agg (arrL t).toArray] w0 fun e w' => e = .returned (.agg (arrL (t + t)).toArray) ∧ Kept w0 w' None_ := by
  have hs := St.start w0 None_
  refine c_enter (N := 17) Try.func55 rfl Try.ntmps55 (by simp) ?_
  intro a hf
  refine wp_seq ?_
  refine wp_region_lit ?_
  refine s_do hf rfl (y_box hs (hf.eval rfl) ?_); clear hf hs a; intro b w hs a hf
  change St _ _ (cb b 72 (arrL t) :: _) at hs
  rename Nat => b1
  refine s_do hf rfl (y_alloc hs Try.zeroValue72 ?_); clear hf hs a; intro b w hs a hf
  rename Nat => b2
  change St _ _ (cb b2 72 (List.replicate 32 (.int .u32 0)) :: _) at hs
  refine s_nil ?_
  refine then_n ?_
  refine wp_seq ?_
  refine wp_region_lit ?_
  refine s_do hf rfl (y_alloc hs Try.zeroValue72 ?_); clear hf hs a; intro b w hs a hf
  rename Nat => b3
  change St _ _ (cb b3 72 (arrP (t + t) 0) :: _) at hs
  refine s_nil ?_
  refine then_n ?_
  refine wp_seq ?_
  refine wp_seq ?_
  refine wp_region_lit ?_
  refine s_m hf rfl ?_; clear hf a; intro a hf
  refine s_nil ?_
  refine then_n ?_
  refine wp_block ?_
  refine c_loop (L0 := [(1, _), (2, _), (3, _)]) (fun M w m => ∃ i : Nat, M = [(5, .int .i64 (i : Int))] ∧ 32 - i = m ∧ i ≤ 32 ∧ St ⟨w0, None_⟩ w [cb b3 72 (arrP (t + t) i), cb b2 72 (List.replicate 32 (.int .u32 0)), cb b1 72 (arrL t)]) (M0 := [(5, .int .i64 0)]) (⟨0, rfl, rfl, Nat.zero_le _, hs⟩) (hf.sub ⟨rfl, rfl, rfl, rfl, trivial⟩) ?_
  clear hf hs a
  rintro M m a w ⟨i, rfl, rfl, hi, hs⟩ hf
  refine wp_seq ?_
  refine wp_region_lit ?_
  refine s_v hf (x_bin (hf.eval rfl) (hf.eval rfl) (r_lt _ _ _ _)) ?_; clear hf a; intro a hf
  refine s_nil ?_
  refine then_n ?_
  refine wp_seq ?_
  refine c_cond hf rfl (fun hi0 => ?_) (fun hi0 => ?_)
  · simp only [decide_eq_true_eq, decide_eq_false_iff_not, Bool.not_eq_true', Bool.not_eq_false', Bool.not_eq_true, Int.not_lt, Int.not_le] at hi0
    have hlt : i < 32 := by omega
    refine wp_skip ?_
    refine then_n ?_
    refine wp_seq ?_
    refine wp_block ?_
    refine wp_seq ?_
    refine wp_region_lit ?_
    refine s_m hf rfl ?_; clear hf a; intro a hf
    refine s_a hf rfl ?_; clear hf a; intro a hf
    refine s_nil ?_
    refine then_n ?_
    refine c_draw hs (fun _ => True) [.held, .read, .held, .held, .read, .eff, .held, .fin] (by kernel_rfl) (by kernel_rfl) (fun _ _ _ => trivial) ?_
    clear hs; intro w hs hC hw
    refine m_held hf rfl (fun w' _ => x_move (hf.eval rfl) w') ?_; clear hf a; intro a hf
    refine m_read hf rfl (x_loadBlk hs ag72 (hf.eval rfl) (arrL_len t) (.there _ (.there _ (.here _)))) ?_; clear hf a; intro a hf
    refine m_held hf rfl (fun w' _ => x_move (hf.eval rfl) w') ?_; clear hf a; intro a hf
    refine m_held hf rfl (fun w' _ => x_indexArr (sz := 1) Try.underlying72 (by kernel_rfl) (hf.eval rfl) (hf.eval rfl) (by omega) (by omega) w') ?_; clear hf a; intro a hf
    replace hf := hf.now (k := 11) (v' := .pointer (some ⟨b1, i, none⟩)) rfl (by rw [addr0])
    refine m_read hf rfl (x_load sc22 (hf.eval rfl) (hs.cell (.there _ (.there _ (.here _))) (arrL_get t hlt))) ?_; clear hf a; intro a hf
    refine m_eff hf rfl (y_call (hf.eval rfl) (hf.evals rfl) Try.call54 ((of_spec _ t _ (mvN_lt t (Nat.pow_lt_pow_right (by omega) hlt))).mono ?_))
    rintro e w1 ⟨rfl, hk⟩
    replace hs := hs.ext hk
    refine ⟨_, rfl, ⟨trivial, ?_⟩⟩; clear hf a; intro a hf
    replace hf := hf.now (k := 13) (v' := .int .u32 ((mvN (t + t) (2 ^ i) : Nat) : Int)) rfl (by rw [mvN_add])
    refine m_held hf rfl (fun w' _ => x_indexArr (sz := 1) Try.underlying72 (by kernel_rfl) (hf.eval rfl) (hf.eval rfl) (by omega) (by omega) w') ?_; clear hf a; intro a hf
    replace hf := hf.now (k := 14) (v' := .pointer (some ⟨b3, i, none⟩)) rfl (by rw [addr0])
    refine m_fin0 hf rfl (y_store hs sc22 (hf.eval rfl) (hf.eval rfl) rfl (by first | exact .here _ | exact .there _ (.here _) | exact .there _ (.there _ (.here _)) | exact .there _ (.there _ (.there _ (.here _))) | exact .there _ (.there _ (.there _ (.there _ (.here _)))) | exact .there _ (.there _ (.there _ (.there _ (.there _ (.here _)))))) (by rw [arrP_len _ (by omega)]; exact hlt) ?_); clear hf hs a; intro w hs; intro a hf
    refine blk_n ?_
    refine then_n ?_
    refine wp_region_lit ?_
    refine s_v hf (x_bin (hf.eval rfl) (hf.eval rfl) (r_addi _ (by omega) (by omega))) ?_; clear hf a; intro a hf
    refine s_m hf rfl ?_; clear hf a; intro a hf
    refine s_nil ?_
    rw [arrP_set _ hlt] at hs
    exact ⟨_, _, ⟨i + 1, rfl, rfl, by omega, hs⟩, by omega, hf.sub ⟨rfl, rfl, rfl, rfl, trivial⟩⟩
  · simp only [decide_eq_true_eq, decide_eq_false_iff_not, Bool.not_eq_true', Bool.not_eq_false', Bool.not_eq_true, Int.not_lt, Int.not_le] at hi0
    refine wp_exit ?_
    refine then_x ?_
    refine then_x ?_
    refine blk_x ?_
    refine then_n ?_
    refine wp_seq ?_
    refine wp_region_lit ?_
    obtain rfl : i = 32 := by omega
    rw [arrP_32] at hs
    refine s_r hf (x_loadBlk hs ag72 (hf.eval rfl) (arrL_len _) (.here _)) ?_; clear hf a; intro a hf
    refine s_do0 hf rfl (y_storeAgg hs (n := 32) (by kernel_rfl) (hf.eval rfl) (hf.eval rfl) (arrL_one _) (arrL_len _) (by simp) (.there _ (.here _)) ?_); clear hf hs a; intro w hs a hf
    refine s_nil ?_
    refine then_n ?_
    refine wp_ret ?_
    refine r_1c hf Try.results55 rfl hs ag72 (arrL_len _) (.there _ (.here _)) ?_
    exact ⟨rfl, hs.kept⟩

theorem product_spec (w0 : World) (p m0 : Nat) (hp0 : p < 4294967296) : Calls Try.prog 57 #[.int .u32 ((p : Nat) : Int), .int .u32 ((mvN m0 2147483648 : Nat) : Int)] w0 fun e w' => e = .returned (.int .u32 ((mvN m0 p : Nat) : Int)) ∧ Kept w0 w' None_ := by
  have hs := St.start w0 None_
  refine c_enter (N := 21) Try.func57 rfl Try.ntmps57 (by simp) ?_
  intro a hf
  refine wp_seq ?_
  refine wp_region_lit ?_
  refine s_a hf rfl ?_; clear hf a; intro a hf
  refine s_nil ?_
  refine then_n ?_
  refine wp_seq ?_
  refine wp_region_lit ?_
  refine s_a hf rfl ?_; clear hf a; intro a hf
  refine s_nil ?_
  refine then_n ?_
  refine wp_seq ?_
  refine wp_seq ?_
  refine wp_region_lit ?_
  refine s_a hf rfl ?_; clear hf a; intro a hf
  refine s_nil ?_
  refine then_n ?_
  refine wp_block ?_
  refine c_loop (L0 := [(4, _)]) (fun M w m => ∃ k : Nat, M = [(0, .int .u32 ((p * 2 ^ k % 4294967296 : Nat) : Int)), (1, .int .u32 ((mvN k (mvN m0 2147483648) : Nat) : Int)), (5, .int .u32 ((mvN m0 (top p k) : Nat) : Int)), (6, .int .i64 (k : Int))] ∧ 32 - k = m ∧ k ≤ 32 ∧ St ⟨w0, None_⟩ w []) (M0 := [(0, .int .u32 ((p : Nat) : Int)), (1, .int .u32 ((mvN m0 2147483648 : Nat) : Int)), (5, .int .u32 0), (6, .int .i64 0)]) (⟨0, by rw [Nat.pow_zero, Nat.mul_one, Nat.mod_eq_of_lt hp0, top_0 hp0, mvN_zero]; rfl, rfl, Nat.zero_le _, hs⟩) (hf.sub ⟨rfl, rfl, rfl, rfl, rfl, trivial⟩) ?_
  clear hf hs a
  rintro M m a w ⟨k, rfl, rfl, hk, hs⟩ hf
  refine wp_seq ?_
  refine wp_seq ?_
  refine wp_region_lit ?_
  refine s_m hf rfl ?_; clear hf a; intro a hf
  refine s_v hf (x_bin (hf.eval rfl) (hf.eval rfl) (r_lt _ _ _ _)) ?_; clear hf a; intro a hf
  refine s_nil ?_
  refine then_n ?_
  refine c_cond hf rfl (fun hi0 => ?_) (fun hi0 => ?_)
  · simp only [decide_eq_true_eq, decide_eq_false_iff_not, Bool.not_eq_true', Bool.not_eq_false', Bool.not_eq_true, Int.not_lt, Int.not_le] at hi0
    have hlt : k < 32 := by omega
    refine wp_skip ?_
    refine then_n ?_
    refine wp_seq ?_
    refine wp_block ?_
    refine wp_seq ?_
    refine wp_seq ?_
    refine wp_region_lit ?_
    refine s_m hf rfl ?_; clear hf a; intro a hf
    refine s_v hf (x_bin (hf.eval rfl) (hf.eval rfl) (r_ge _ _ _ _)) ?_; clear hf a; intro a hf
    refine s_nil ?_
    refine then_n ?_
    refine c_cond hf rfl (fun hi1 => ?_) (fun hi1 => ?_)
    · simp only [ge_iff_le, decide_eq_true_eq, decide_eq_false_iff_not] at hi1
      replace hi1 : 2147483648 ≤ p * 2 ^ k % 4294967296 := by omega
      refine wp_region_lit ?_
      refine s_m hf rfl ?_; clear hf a; intro a hf
      refine s_m hf rfl ?_; clear hf a; intro a hf
      refine s_v hf (x_bin (hf.eval rfl) (hf.eval rfl) (r_xor_u32 _ (mvN_lt m0 (Nat.lt_of_le_of_lt (Nat.div_mul_le_self _ _) hp0)) (mvN_lt k (mvN_lt m0 (by decide))))) ?_; clear hf a; intro a hf
      refine s_a hf rfl ?_; clear hf a; intro a hf
      refine s_nil ?_
      refine then_n ?_
      refine wp_seq ?_
      refine wp_region_lit ?_
      refine s_m hf rfl ?_; clear hf a; intro a hf
      refine s_v hf (x_bin (hf.eval rfl) (hf.eval rfl) (r_mul _ _ _ _)) ?_; clear hf a; intro a hf
      replace hf := hf.now (k := 17) (v' := .int .u32 ((p * 2 ^ (k + 1) % 4294967296 : Nat) : Int)) rfl (by rw [wrap_u32, ← shl_step]; congr 1)
      refine s_a hf rfl ?_; clear hf a; intro a hf
      refine s_nil ?_
      refine then_n ?_
      refine wp_region_lit ?_
      refine s_m hf rfl ?_; clear hf a; intro a hf
      refine s_do hf rfl (y_call (hf.eval rfl) (hf.evals rfl) Try.call74 ((moved_spec _ _ (mvN_lt k (mvN_lt m0 (by decide)))).mono ?_))
      rintro e w1 ⟨rfl, rfl⟩
      refine ⟨_, rfl, ?_⟩; clear hf a; intro a hf
      refine s_a hf rfl ?_; clear hf a; intro a hf
      refine s_nil ?_
      refine blk_n ?_
      refine then_n ?_
      refine wp_region_lit ?_
      refine s_m hf rfl ?_; clear hf a; intro a hf
      refine s_v hf (x_bin (hf.eval rfl) (hf.eval rfl) (r_addi _ (by omega) (by omega))) ?_; clear hf a; intro a hf
      refine s_a hf rfl ?_; clear hf a; intro a hf
      refine s_nil ?_
      replace hf := hf.now (k := 5) (v' := .int .u32 ((mvN m0 (top p (k + 1)) : Nat) : Int)) rfl (by rw [prod_step p m0 hlt]; first | rw [if_pos hi1] | rw [if_neg hi1])
      replace hf := hf.now (k := 1) (v' := .int .u32 ((mvN (k + 1) (mvN m0 2147483648) : Nat) : Int)) rfl (by rw [mvN_succ'])
      exact ⟨_, _, ⟨k + 1, rfl, rfl, by omega, hs⟩, by omega, hf.sub ⟨rfl, rfl, rfl, rfl, rfl, trivial⟩⟩
    · simp only [ge_iff_le, decide_eq_true_eq, decide_eq_false_iff_not] at hi1
      replace hi1 : ¬ 2147483648 ≤ p * 2 ^ k % 4294967296 := by omega
      refine wp_skip ?_
      refine then_n ?_
      refine wp_seq ?_
      refine wp_region_lit ?_
      refine s_m hf rfl ?_; clear hf a; intro a hf
      refine s_v hf (x_bin (hf.eval rfl) (hf.eval rfl) (r_mul _ _ _ _)) ?_; clear hf a; intro a hf
      replace hf := hf.now (k := 17) (v' := .int .u32 ((p * 2 ^ (k + 1) % 4294967296 : Nat) : Int)) rfl (by rw [wrap_u32, ← shl_step]; congr 1)
      refine s_a hf rfl ?_; clear hf a; intro a hf
      refine s_nil ?_
      refine then_n ?_
      refine wp_region_lit ?_
      refine s_m hf rfl ?_; clear hf a; intro a hf
      refine s_do hf rfl (y_call (hf.eval rfl) (hf.evals rfl) Try.call74 ((moved_spec _ _ (mvN_lt k (mvN_lt m0 (by decide)))).mono ?_))
      rintro e w1 ⟨rfl, rfl⟩
      refine ⟨_, rfl, ?_⟩; clear hf a; intro a hf
      refine s_a hf rfl ?_; clear hf a; intro a hf
      refine s_nil ?_
      refine blk_n ?_
      refine then_n ?_
      refine wp_region_lit ?_
      refine s_m hf rfl ?_; clear hf a; intro a hf
      refine s_v hf (x_bin (hf.eval rfl) (hf.eval rfl) (r_addi _ (by omega) (by omega))) ?_; clear hf a; intro a hf
      refine s_a hf rfl ?_; clear hf a; intro a hf
      refine s_nil ?_
      replace hf := hf.now (k := 5) (v' := .int .u32 ((mvN m0 (top p (k + 1)) : Nat) : Int)) rfl (by rw [prod_step p m0 hlt]; first | rw [if_pos hi1] | rw [if_neg hi1])
      replace hf := hf.now (k := 1) (v' := .int .u32 ((mvN (k + 1) (mvN m0 2147483648) : Nat) : Int)) rfl (by rw [mvN_succ'])
      exact ⟨_, _, ⟨k + 1, rfl, rfl, by omega, hs⟩, by omega, hf.sub ⟨rfl, rfl, rfl, rfl, rfl, trivial⟩⟩
  · simp only [decide_eq_true_eq, decide_eq_false_iff_not, Bool.not_eq_true', Bool.not_eq_false', Bool.not_eq_true, Int.not_lt, Int.not_le] at hi0
    refine wp_exit ?_
    refine then_x ?_
    refine then_x ?_
    refine blk_x ?_
    refine then_n ?_
    refine wp_seq ?_
    refine wp_region_lit ?_
    refine s_m hf rfl ?_; clear hf a; intro a hf
    refine s_a hf rfl ?_; clear hf a; intro a hf
    refine s_nil ?_
    refine then_n ?_
    refine wp_ret ?_
    refine r_1 hf Try.results57 rfl ?_
    obtain rfl : k = 32 := by omega
    exact ⟨by rw [top_32], hs.kept⟩

theorem power_spec (w0 : World) (n : Nat) (hn : n ≤ 16777216) : Calls Try.prog 56 #[.int .i64 (n : Int)] w0 fun e w' => e = .returned (.int .u32 ((mvN (8 * n) 2147483648 : Nat) : Int)) ∧ Kept w0 w' None_ := by
  have hs := St.start w0 None_
  refine c_enter (N := 19) Try.func56 rfl Try.ntmps56 (by simp) ?_
  intro a hf
  refine wp_seq ?_
  refine wp_region_lit ?_
  refine s_a hf rfl ?_; clear hf a; intro a hf
  refine s_nil ?_
  refine then_n ?_
  refine wp_seq ?_
  refine wp_region_lit ?_
  refine s_a hf rfl ?_; clear hf a; intro a hf
  refine s_nil ?_
  refine then_n ?_
  refine wp_seq ?_
  refine wp_region_lit ?_
  refine s_a hf rfl ?_; clear hf a; intro a hf
  refine s_nil ?_
  refine then_n ?_
  refine wp_seq ?_
  refine wp_block ?_
  refine c_loop (L0 := [(2, _)]) (fun M w m => ∃ h i j : Nat, M = [(0, .int .i64 (h : Int)), (3, .int .u32 ((mvN i 2147483648 : Nat) : Int)), (4, .int .u32 ((mvN j 2147483648 : Nat) : Int))] ∧ h = m ∧ i + j * h = 8 * n ∧ h ≤ 16777216 ∧ St ⟨w0, None_⟩ w []) (M0 := [(0, .int .i64 (n : Int)), (3, .int .u32 2147483648), (4, .int .u32 8388608)]) (⟨n, 0, 8, by rw [show mvN 8 2147483648 = 8388608 by decide]; rfl, rfl, by omega, hn, hs⟩) (hf.sub ⟨rfl, rfl, rfl, rfl, trivial⟩) ?_
  clear hf hs a
  rintro M m a w ⟨h, i, j, rfl, rfl, he, hh, hs⟩ hf
  refine wp_seq ?_
  refine wp_seq ?_
  refine wp_region_lit ?_
  refine s_m hf rfl ?_; clear hf a; intro a hf
  refine s_v hf (x_bin (hf.eval rfl) (hf.eval rfl) (r_gt _ _ _ _)) ?_; clear hf a; intro a hf
  refine s_nil ?_
  refine then_n ?_
  refine c_cond hf rfl (fun hi0 => ?_) (fun hi0 => ?_)
  · simp only [decide_eq_true_eq, decide_eq_false_iff_not, Bool.not_eq_true', Bool.not_eq_false', Bool.not_eq_true, Int.not_lt, Int.not_le] at hi0
    refine wp_skip ?_
    refine then_n ?_
    refine wp_block ?_
    refine wp_seq ?_
    refine wp_seq ?_
    refine wp_region_lit ?_
    refine s_m hf rfl ?_; clear hf a; intro a hf
    refine s_v hf (x_bin (hf.eval rfl) (hf.eval rfl) (r_remn _ _ (by omega) (by omega))) ?_; clear hf a; intro a hf
    refine s_v hf (x_bin (hf.eval rfl) (hf.eval rfl) (r_eq _ _ _ _)) ?_; clear hf a; intro a hf
    refine s_nil ?_
    refine then_n ?_
    refine c_cond hf rfl (fun hi1 => ?_) (fun hi1 => ?_)
    · simp only [decide_eq_true_eq, decide_eq_false_iff_not] at hi1
      replace hi1 : h % 2 = 1 := by omega
      refine wp_region_lit ?_
      refine s_m hf rfl ?_; clear hf a; intro a hf
      refine s_m hf rfl ?_; clear hf a; intro a hf
      refine s_do hf rfl (y_call (hf.eval rfl) (hf.evals rfl) Try.call57 ((product_spec _ (mvN i 2147483648) j (mvN_lt i (by decide))).mono ?_))
      rintro e w1 ⟨rfl, hk⟩
      replace hs := hs.ext hk
      refine ⟨_, rfl, ?_⟩; clear hf a; intro a hf
      replace hf := hf.now (k := 12) (v' := .int .u32 ((mvN (i + j) 2147483648 : Nat) : Int)) rfl (by rw [mvN_add])
      refine s_a hf rfl ?_; clear hf a; intro a hf
      refine s_nil ?_
      refine then_n ?_
      refine wp_seq ?_
      refine wp_region_lit ?_
      refine s_m hf rfl ?_; clear hf a; intro a hf
      refine s_m hf rfl ?_; clear hf a; intro a hf
      refine s_do hf rfl (y_call (hf.eval rfl) (hf.evals rfl) Try.call57 ((product_spec _ (mvN j 2147483648) j (mvN_lt j (by decide))).mono ?_))
      rintro e w1 ⟨rfl, hk⟩
      replace hs := hs.ext hk
      refine ⟨_, rfl, ?_⟩; clear hf a; intro a hf
      replace hf := hf.now (k := 15) (v' := .int .u32 ((mvN (j + j) 2147483648 : Nat) : Int)) rfl (by rw [mvN_add])
      refine s_a hf rfl ?_; clear hf a; intro a hf
      refine s_nil ?_
      refine then_n ?_
      refine wp_region_lit ?_
      refine s_m hf rfl ?_; clear hf a; intro a hf
      refine s_v hf (x_bin (hf.eval rfl) (hf.eval rfl) (r_quon _ (by omega) (by omega) (by omega))) ?_; clear hf a; intro a hf
      replace hf := hf.now (k := 17) (v' := .int .i64 ((h / 2 : Nat) : Int)) rfl (by congr 1)
      refine s_a hf rfl ?_; clear hf a; intro a hf
      refine s_nil ?_
      refine blk_n ?_
      exact ⟨_, _, ⟨h / 2, _, _, rfl, rfl, by first | exact pw_odd hi1 he | exact pw_even hi1 he, by omega, hs⟩, by omega, hf.sub ⟨rfl, rfl, rfl, rfl, trivial⟩⟩
    · simp only [decide_eq_true_eq, decide_eq_false_iff_not] at hi1
      replace hi1 : ¬ h % 2 = 1 := by omega
      refine wp_skip ?_
      refine then_n ?_
      refine wp_seq ?_
      refine wp_region_lit ?_
      refine s_m hf rfl ?_; clear hf a; intro a hf
      refine s_m hf rfl ?_; clear hf a; intro a hf
      refine s_do hf rfl (y_call (hf.eval rfl) (hf.evals rfl) Try.call57 ((product_spec _ (mvN j 2147483648) j (mvN_lt j (by decide))).mono ?_))
      rintro e w1 ⟨rfl, hk⟩
      replace hs := hs.ext hk
      refine ⟨_, rfl, ?_⟩; clear hf a; intro a hf
      replace hf := hf.now (k := 15) (v' := .int .u32 ((mvN (j + j) 2147483648 : Nat) : Int)) rfl (by rw [mvN_add])
      refine s_a hf rfl ?_; clear hf a; intro a hf
      refine s_nil ?_
      refine then_n ?_
      refine wp_region_lit ?_
      refine s_m hf rfl ?_; clear hf a; intro a hf
      refine s_v hf (x_bin (hf.eval rfl) (hf.eval rfl) (r_quon _ (by omega) (by omega) (by omega))) ?_; clear hf a; intro a hf
      replace hf := hf.now (k := 17) (v' := .int .i64 ((h / 2 : Nat) : Int)) rfl (by congr 1)
      refine s_a hf rfl ?_; clear hf a; intro a hf
      refine s_nil ?_
      refine blk_n ?_
      exact ⟨_, _, ⟨h / 2, _, _, rfl, rfl, by first | exact pw_odd hi1 he | exact pw_even hi1 he, by omega, hs⟩, by omega, hf.sub ⟨rfl, rfl, rfl, rfl, trivial⟩⟩
  · simp only [decide_eq_true_eq, decide_eq_false_iff_not, Bool.not_eq_true', Bool.not_eq_false', Bool.not_eq_true, Int.not_lt, Int.not_le] at hi0
    refine wp_exit ?_
    refine then_x ?_
    refine then_x ?_
    refine blk_x ?_
    refine then_n ?_
    refine wp_seq ?_
    refine wp_region_lit ?_
    refine s_m hf rfl ?_; clear hf a; intro a hf
    refine s_a hf rfl ?_; clear hf a; intro a hf
    refine s_nil ?_
    refine then_n ?_
    refine wp_ret ?_
    refine r_1 hf Try.results56 rfl ?_
    obtain rfl : h = 0 := by omega
    have he2 : i = 8 * n := by omega
    exact ⟨by rw [he2], hs.kept⟩

theorem refJoin_spec (w0 : World) (p q : Nat) (n : Int) (hp0 : p < 4294967296) (hq0 : q < 4294967296) : Calls Try.prog 13 #[.int .u32 ((p : Nat) : Int), .int .u32 ((q : Nat) : Int), .int .i64 n] w0 fun e w' => e = .returned (.tuple #[.int .u32 ((joinR p q n : Nat) : Int), .int .i64 (joinE n)]) ∧ Kept w0 w' None_ := by
  have hs := St.start w0 None_
  refine c_enter (N := 24) Try.func13 rfl Try.ntmps13 (by simp) ?_
  intro a hf
  refine wp_seq ?_
  refine wp_region_lit ?_
  refine s_a hf rfl ?_; clear hf a; intro a hf
  refine s_a hf rfl ?_; clear hf a; intro a hf
  refine s_nil ?_
  refine then_n ?_
  refine wp_seq ?_
  refine wp_seq ?_
  refine wp_region_lit ?_
  refine s_m hf rfl ?_; clear hf a; intro a hf
  refine s_v hf (x_bin (hf.eval rfl) (hf.eval rfl) (r_lt _ _ _ _)) ?_; clear hf a; intro a hf
  refine s_m hf rfl ?_; clear hf a; intro a hf
  refine s_bool hf (k := 12) rfl (fun hg1_2 hf' => ?_) (fun hg1_2 hf' => ?_)
  · clear hf
    have hf := hf'
    clear hf'
    simp only [decide_eq_true_eq, decide_eq_false_iff_not, Bool.not_eq_true', Bool.not_eq_false', Bool.not_eq_true, Int.not_lt, Int.not_le] at hg1_2
    refine s_pass hf rfl rfl ?_; clear hf a; intro a hf
    refine s_pass hf rfl rfl ?_; clear hf a; intro a hf
    refine s_v hf (x_pick_t (hf.eval rfl) (hf.eval rfl)) ?_; clear hf a; intro a hf
    refine s_nil ?_
    refine then_n ?_
    refine c_cond_t hf rfl rfl ?_
    refine wp_seq ?_
    refine wp_region_lit ?_
    refine s_a hf rfl ?_; clear hf a; intro a hf
    refine s_a hf rfl ?_; clear hf a; intro a hf
    refine s_nil ?_
    refine then_n ?_
    refine wp_ret ?_
    refine then_r ?_
    refine r_2 hf Try.results13 rfl rfl ?_
    have hbad : n < 0 ∨ 16777216 < n := by omega
    exact ⟨by unfold joinR joinE; rw [if_pos hbad, if_pos hbad]; rfl, hs.kept⟩
  · clear hf
    have hf := hf'
    clear hf'
    simp only [decide_eq_true_eq, decide_eq_false_iff_not, Bool.not_eq_true', Bool.not_eq_false', Bool.not_eq_true, Int.not_lt, Int.not_le] at hg1_2
    refine s_do hf (wanted_of hf rfl rfl rfl) (.value (x_move (hf.eval rfl) _) ?_); clear hf a; intro a hf
    refine s_do hf (wanted_of hf rfl rfl rfl) (.value (x_bin (hf.eval rfl) (hf.eval rfl) (r_gt _ _ _ _) _) ?_); clear hf a; intro a hf
    refine s_v hf (x_pick_f (hf.eval rfl) (hf.eval rfl)) ?_; clear hf a; intro a hf
    refine s_nil ?_
    refine then_n ?_
    refine c_cond hf rfl (fun hi0 => ?_) (fun hi0 => ?_)
    · simp only [decide_eq_true_eq, decide_eq_false_iff_not, Bool.not_eq_true', Bool.not_eq_false', Bool.not_eq_true, Int.not_lt, Int.not_le] at hi0
      refine wp_seq ?_
      refine wp_region_lit ?_
      refine s_a hf rfl ?_; clear hf a; intro a hf
      refine s_a hf rfl ?_; clear hf a; intro a hf
      refine s_nil ?_
      refine then_n ?_
      refine wp_ret ?_
      refine then_r ?_
      refine r_2 hf Try.results13 rfl rfl ?_
      have hbad : n < 0 ∨ 16777216 < n := by omega
      exact ⟨by unfold joinR joinE; rw [if_pos hbad, if_pos hbad]; rfl, hs.kept⟩
    · simp only [decide_eq_true_eq, decide_eq_false_iff_not, Bool.not_eq_true', Bool.not_eq_false', Bool.not_eq_true, Int.not_lt, Int.not_le] at hi0
      obtain ⟨N, rfl⟩ := Int.eq_ofNat_of_zero_le (show 0 ≤ n by omega)
      refine wp_skip ?_
      refine then_n ?_
      refine wp_seq ?_
      refine wp_region_lit ?_
      refine s_m hf rfl ?_; clear hf a; intro a hf
      refine s_do hf rfl (y_call (hf.eval rfl) (hf.evals rfl) Try.call56 ((power_spec _ N (by omega)).mono ?_))
      rintro e w1 ⟨rfl, hk⟩
      replace hs := hs.ext hk
      refine ⟨_, rfl, ?_⟩; clear hf a; intro a hf
      refine s_a hf rfl ?_; clear hf a; intro a hf
      refine s_nil ?_
      refine then_n ?_
      refine wp_seq ?_
      refine wp_region_lit ?_
      refine s_m hf rfl ?_; clear hf a; intro a hf
      refine s_m hf rfl ?_; clear hf a; intro a hf
      refine s_do hf rfl (y_call (hf.eval rfl) (hf.evals rfl) Try.call57 ((product_spec _ p (8 * N) hp0).mono ?_))
      rintro e w1 ⟨rfl, hk⟩
      replace hs := hs.ext hk
      refine ⟨_, rfl, ?_⟩; clear hf a; intro a hf
      refine s_a hf rfl ?_; clear hf a; intro a hf
      refine s_nil ?_
      refine then_n ?_
      refine wp_seq ?_
      refine wp_region_lit ?_
      refine s_m hf rfl ?_; clear hf a; intro a hf
      refine s_m hf rfl ?_; clear hf a; intro a hf
      refine s_v hf (x_bin (hf.eval rfl) (hf.eval rfl) (r_xor_u32 _ (mvN_lt _ hp0) hq0)) ?_; clear hf a; intro a hf
      refine s_a hf rfl ?_; clear hf a; intro a hf
      refine s_a hf rfl ?_; clear hf a; intro a hf
      refine s_nil ?_
      refine then_n ?_
      refine wp_ret ?_
      refine r_2 hf Try.results13 rfl rfl ?_
      have hgood : ¬ ((N : Int) < 0 ∨ (16777216 : Int) < N) := by omega
      exact ⟨by unfold joinR joinE; rw [if_neg hgood, if_neg hgood]; rfl, hs.kept⟩

theorem join_spec (w0 : World) (p q : Nat) (n : Int) (hp0 : p < 4294967296) (hq0 : q < 4294967296) : Calls Try.prog 12 #[.int .u32 ((p : Nat) : Int), .int .u32 ((q : Nat) : Int), .int .i64 n] w0 fun e w' => e = .returned (.tuple #[.int .u32 ((joinR p q n : Nat) : Int), .int .i64 (joinE n)]) ∧ Kept w0 w' None_ := by
  have hs := St.start w0 None_
  refine c_enter (N := 43) Try.func12 rfl Try.ntmps12 (by simp) ?_
  intro a hf
  refine wp_seq ?_
  refine wp_region_lit ?_
  refine s_a hf rfl ?_; clear hf a; intro a hf
  refine s_a hf rfl ?_; clear hf a; intro a hf
  refine s_nil ?_
  refine then_n ?_
  refine wp_seq ?_
  refine wp_seq ?_
  refine wp_region_lit ?_
  refine s_m hf rfl ?_; clear hf a; intro a hf
  refine s_v hf (x_bin (hf.eval rfl) (hf.eval rfl) (r_lt _ _ _ _)) ?_; clear hf a; intro a hf
  refine s_m hf rfl ?_; clear hf a; intro a hf
  refine s_bool hf (k := 13) rfl (fun hg1_2 hf' => ?_) (fun hg1_2 hf' => ?_)
  · clear hf
    have hf := hf'
    clear hf'
    simp only [decide_eq_true_eq, decide_eq_false_iff_not, Bool.not_eq_true', Bool.not_eq_false', Bool.not_eq_true, Int.not_lt, Int.not_le] at hg1_2
    refine s_pass hf rfl rfl ?_; clear hf a; intro a hf
    refine s_pass hf rfl rfl ?_; clear hf a; intro a hf
    refine s_v hf (x_pick_t (hf.eval rfl) (hf.eval rfl)) ?_; clear hf a; intro a hf
    refine s_nil ?_
    refine then_n ?_
    refine c_cond_t hf rfl rfl ?_
    refine wp_seq ?_
    refine wp_region_lit ?_
    refine s_a hf rfl ?_; clear hf a; intro a hf
    refine s_a hf rfl ?_; clear hf a; intro a hf
    refine s_nil ?_
    refine then_n ?_
    refine wp_ret ?_
    refine then_r ?_
    refine r_2 hf Try.results12 rfl rfl ?_
    have hbad : n < 0 ∨ 16777216 < n := by omega
    exact ⟨by unfold joinR joinE; rw [if_pos hbad, if_pos hbad]; rfl, hs.kept⟩
  · clear hf
    have hf := hf'
    clear hf'
    simp only [decide_eq_true_eq, decide_eq_false_iff_not, Bool.not_eq_true', Bool.not_eq_false', Bool.not_eq_true, Int.not_lt, Int.not_le] at hg1_2
    refine s_do hf (wanted_of hf rfl rfl rfl) (.value (x_move (hf.eval rfl) _) ?_); clear hf a; intro a hf
    refine s_do hf (wanted_of hf rfl rfl rfl) (.value (x_bin (hf.eval rfl) (hf.eval rfl) (r_gt _ _ _ _) _) ?_); clear hf a; intro a hf
    refine s_v hf (x_pick_f (hf.eval rfl) (hf.eval rfl)) ?_; clear hf a; intro a hf
    refine s_nil ?_
    refine then_n ?_
    refine c_cond hf rfl (fun hi0 => ?_) (fun hi0 => ?_)
    · simp only [decide_eq_true_eq, decide_eq_false_iff_not, Bool.not_eq_true', Bool.not_eq_false', Bool.not_eq_true, Int.not_lt, Int.not_le] at hi0
      refine wp_seq ?_
      refine wp_region_lit ?_
      refine s_a hf rfl ?_; clear hf a; intro a hf
      refine s_a hf rfl ?_; clear hf a; intro a hf
      refine s_nil ?_
      refine then_n ?_
      refine wp_ret ?_
      refine then_r ?_
      refine r_2 hf Try.results12 rfl rfl ?_
      have hbad : n < 0 ∨ 16777216 < n := by omega
      exact ⟨by unfold joinR joinE; rw [if_pos hbad, if_pos hbad]; rfl, hs.kept⟩
    · simp only [decide_eq_true_eq, decide_eq_false_iff_not, Bool.not_eq_true', Bool.not_eq_false', Bool.not_eq_true, Int.not_lt, Int.not_le] at hi0
      obtain ⟨N, rfl⟩ := Int.eq_ofNat_of_zero_le (show 0 ≤ n by omega)
      refine wp_skip ?_
      refine then_n ?_
      refine wp_seq ?_
      refine wp_region_lit ?_
      refine s_do hf rfl (y_alloc hs Try.zeroValue72 ?_); clear hf hs a; intro b w hs a hf
      change St _ _ (cb b 72 (arrP 1 0) :: _) at hs
      refine s_nil ?_
      refine then_n ?_
      refine wp_seq ?_
      refine wp_seq ?_
      refine wp_region_lit ?_
      refine s_m hf rfl ?_; clear hf a; intro a hf
      refine s_nil ?_
      refine then_n ?_
      refine wp_block ?_
      refine c_loop (L0 := [(0, _), (1, _), (2, _), (6, _), (7, _), (8, _)]) (fun M w m => ∃ i : Nat, M = [(17, .int .i64 (i : Int))] ∧ 32 - i = m ∧ i ≤ 32 ∧ St ⟨w0, None_⟩ w [cb b 72 (arrP 1 i)]) (M0 := [(17, .int .i64 0)]) (⟨0, rfl, rfl, Nat.zero_le _, hs⟩) (hf.sub ⟨rfl, rfl, rfl, rfl, rfl, rfl, rfl, trivial⟩) ?_
      clear hf hs a
      rintro M m a w ⟨i, rfl, rfl, hi, hs⟩ hf
      refine wp_seq ?_
      refine wp_region_lit ?_
      refine s_v hf (x_bin (hf.eval rfl) (hf.eval rfl) (r_lt _ _ _ _)) ?_; clear hf a; intro a hf
      refine s_nil ?_
      refine then_n ?_
      refine wp_seq ?_
      refine c_cond hf rfl (fun hi1 => ?_) (fun hi1 => ?_)
      · simp only [decide_eq_true_eq, decide_eq_false_iff_not, Bool.not_eq_true', Bool.not_eq_false', Bool.not_eq_true, Int.not_lt, Int.not_le] at hi1
        have hlt : i < 32 := by omega
        refine wp_skip ?_
        refine then_n ?_
        refine wp_seq ?_
        refine wp_block ?_
        refine wp_seq ?_
        refine wp_region_lit ?_
        refine s_m hf rfl ?_; clear hf a; intro a hf
        refine s_a hf rfl ?_; clear hf a; intro a hf
        refine s_nil ?_
        refine then_n ?_
        refine wp_region_lit ?_
        refine s_m hf rfl ?_; clear hf a; intro a hf
        refine s_m hf rfl ?_; clear hf a; intro a hf
        refine s_v hf (x_bin (hf.eval rfl) (hf.eval rfl) (r_shl1_u32 _ hlt)) ?_; clear hf a; intro a hf
        refine s_do hf rfl (y_call (hf.eval rfl) (hf.evals rfl) Try.call53 ((move_spec _ _ (Nat.pow_lt_pow_right (n := 32) (by omega) hlt)).mono ?_))
        rintro e w1 ⟨rfl, rfl⟩
        refine ⟨_, rfl, ?_⟩; clear hf a; intro a hf
        replace hf := hf.now (k := 23) (v' := .int .u32 ((mvN 1 (2 ^ i) : Nat) : Int)) rfl (rfl)
        refine s_v hf (x_indexArr (sz := 1) Try.underlying72 (by kernel_rfl) (hf.eval rfl) (hf.eval rfl) (by omega) (by omega)) ?_; clear hf a; intro a hf
        replace hf := hf.now (k := 24) (v' := .pointer (some ⟨b, i, none⟩)) rfl (by rw [addr0])
        refine s_do0 hf rfl (y_store hs sc22 (hf.eval rfl) (hf.eval rfl) rfl (by first | exact .here _ | exact .there _ (.here _) | exact .there _ (.there _ (.here _)) | exact .there _ (.there _ (.there _ (.here _))) | exact .there _ (.there _ (.there _ (.there _ (.here _)))) | exact .there _ (.there _ (.there _ (.there _ (.there _ (.here _)))))) (by rw [arrP_len _ (by omega)]; exact hlt) ?_); clear hf hs a; intro w hs a hf
        refine s_nil ?_
        refine blk_n ?_
        refine then_n ?_
        refine wp_region_lit ?_
        refine s_v hf (x_bin (hf.eval rfl) (hf.eval rfl) (r_addi _ (by omega) (by omega))) ?_; clear hf a; intro a hf
        refine s_m hf rfl ?_; clear hf a; intro a hf
        refine s_nil ?_
        rw [arrP_set _ hlt] at hs
        exact ⟨_, _, ⟨i + 1, rfl, rfl, by omega, hs⟩, by omega, hf.sub ⟨rfl, rfl, rfl, rfl, rfl, rfl, rfl, trivial⟩⟩
      · simp only [decide_eq_true_eq, decide_eq_false_iff_not, Bool.not_eq_true', Bool.not_eq_false', Bool.not_eq_true, Int.not_lt, Int.not_le] at hi1
        refine wp_exit ?_
        refine then_x ?_
        refine then_x ?_
        refine blk_x ?_
        refine then_n ?_
        refine wp_seq ?_
        refine wp_seq ?_
        refine wp_region_lit ?_
        refine s_m hf rfl ?_; clear hf a; intro a hf
        obtain rfl : i = 32 := by omega
        rw [arrP_32] at hs
        refine s_v hf (x_bin (hf.eval rfl) (hf.eval rfl) (r_muli _ (by omega) (by omega))) ?_; clear hf a; intro a hf
        replace hf := hf.now (k := 27) (v' := .int .i64 ((8 * N : Nat) : Int)) rfl (by congr 1)
        refine s_a hf rfl ?_; clear hf a; intro a hf
        refine s_nil ?_
        refine then_n ?_
        refine wp_block ?_
        refine c_loop (L0 := [(1, _), (2, _), (6, _), (7, _), (8, _), (17, _), (18, _), (26, _), (27, _)]) (fun M w m => ∃ h c t : Nat, M = [(0, .int .u32 ((mvN c p : Nat) : Int)), (10, .int .i64 (h : Int))] ∧ h = m ∧ c + t * h = 8 * N ∧ h ≤ 134217728 ∧ St ⟨w0, None_⟩ w [cb b 72 (arrL t)]) (M0 := [(0, .int .u32 ((p : Nat) : Int)), (10, .int .i64 ((8 * N : Nat) : Int))]) (⟨8 * N, 0, 1, rfl, rfl, by omega, by omega, hs⟩) (hf.sub ⟨rfl, rfl, rfl, rfl, rfl, rfl, rfl, rfl, rfl, rfl, rfl, trivial⟩) ?_
        clear hf hs a
        rintro M m a w ⟨h, c, t, rfl, rfl, he, hh, hs⟩ hf
        refine wp_seq ?_
        refine wp_seq ?_
        refine wp_region_lit ?_
        refine s_m hf rfl ?_; clear hf a; intro a hf
        refine s_v hf (x_bin (hf.eval rfl) (hf.eval rfl) (r_gt _ _ _ _)) ?_; clear hf a; intro a hf
        refine s_nil ?_
        refine then_n ?_
        refine c_cond hf rfl (fun hi2 => ?_) (fun hi2 => ?_)
        · simp only [decide_eq_true_eq, decide_eq_false_iff_not, Bool.not_eq_true', Bool.not_eq_false', Bool.not_eq_true, Int.not_lt, Int.not_le] at hi2
          refine wp_skip ?_
          refine then_n ?_
          refine wp_seq ?_
          refine wp_block ?_
          refine wp_seq ?_
          refine wp_seq ?_
          refine wp_region_lit ?_
          refine s_m hf rfl ?_; clear hf a; intro a hf
          refine s_v hf (x_bin (hf.eval rfl) (hf.eval rfl) (r_and1_i64 _ (by omega))) ?_; clear hf a; intro a hf
          refine s_v hf (x_bin (hf.eval rfl) (hf.eval rfl) (r_eq _ _ _ _)) ?_; clear hf a; intro a hf
          refine s_nil ?_
          refine then_n ?_
          refine c_cond hf rfl (fun hi3 => ?_) (fun hi3 => ?_)
          · simp only [decide_eq_true_eq, decide_eq_false_iff_not] at hi3
            replace hi3 : h % 2 = 1 := by omega
            refine wp_region_lit ?_
            refine s_r hf (x_loadBlk hs ag72 (hf.eval rfl) (arrL_len t) (.here _)) ?_; clear hf a; intro a hf
            refine s_m hf rfl ?_; clear hf a; intro a hf
            refine s_do hf rfl (y_call (hf.eval rfl) (hf.evals rfl) Try.call54 ((of_spec _ t _ (mvN_lt c hp0)).mono ?_))
            rintro e w1 ⟨rfl, hk⟩
            replace hs := hs.ext hk
            refine ⟨_, rfl, ?_⟩; clear hf a; intro a hf
            replace hf := hf.now (k := 37) (v' := .int .u32 ((mvN (c + t) p : Nat) : Int)) rfl (by rw [mvN_add])
            refine s_a hf rfl ?_; clear hf a; intro a hf
            refine s_nil ?_
            refine then_n ?_
            refine wp_region_lit ?_
            refine s_r hf (x_loadBlk hs ag72 (hf.eval rfl) (arrL_len t) (.here _)) ?_; clear hf a; intro a hf
            refine s_do hf rfl (y_call (hf.eval rfl) (hf.evals rfl) Try.call55 ((twice_spec _ t).mono ?_))
            rintro e w1 ⟨rfl, hk⟩
            replace hs := hs.ext hk
            refine ⟨_, rfl, ?_⟩; clear hf a; intro a hf
            refine s_do0 hf rfl (y_storeAgg hs (n := 32) (by kernel_rfl) (hf.eval rfl) (hf.eval rfl) (arrL_one _) (arrL_len _) (arrL_len _) (.here _) ?_); clear hf hs a; intro w hs a hf
            refine s_nil ?_
            refine blk_n ?_
            refine then_n ?_
            refine wp_region_lit ?_
            refine s_m hf rfl ?_; clear hf a; intro a hf
            refine s_v hf (x_bin (hf.eval rfl) (hf.eval rfl) (r_shr_i64 _ (j := 1) (by omega))) ?_; clear hf a; intro a hf
            refine s_a hf rfl ?_; clear hf a; intro a hf
            refine s_nil ?_
            exact ⟨_, _, ⟨h / 2, _, _, rfl, rfl, by first | exact pw_odd hi3 he | exact pw_even hi3 he, by omega, hs⟩, by omega, hf.sub ⟨rfl, rfl, rfl, rfl, rfl, rfl, rfl, rfl, rfl, rfl, rfl, trivial⟩⟩
          · simp only [decide_eq_true_eq, decide_eq_false_iff_not] at hi3
            replace hi3 : ¬ h % 2 = 1 := by omega
            refine wp_skip ?_
            refine then_n ?_
            refine wp_region_lit ?_
            refine s_r hf (x_loadBlk hs ag72 (hf.eval rfl) (arrL_len t) (.here _)) ?_; clear hf a; intro a hf
            refine s_do hf rfl (y_call (hf.eval rfl) (hf.evals rfl) Try.call55 ((twice_spec _ t).mono ?_))
            rintro e w1 ⟨rfl, hk⟩
            replace hs := hs.ext hk
            refine ⟨_, rfl, ?_⟩; clear hf a; intro a hf
            refine s_do0 hf rfl (y_storeAgg hs (n := 32) (by kernel_rfl) (hf.eval rfl) (hf.eval rfl) (arrL_one _) (arrL_len _) (arrL_len _) (.here _) ?_); clear hf hs a; intro w hs a hf
            refine s_nil ?_
            refine blk_n ?_
            refine then_n ?_
            refine wp_region_lit ?_
            refine s_m hf rfl ?_; clear hf a; intro a hf
            refine s_v hf (x_bin (hf.eval rfl) (hf.eval rfl) (r_shr_i64 _ (j := 1) (by omega))) ?_; clear hf a; intro a hf
            refine s_a hf rfl ?_; clear hf a; intro a hf
            refine s_nil ?_
            exact ⟨_, _, ⟨h / 2, _, _, rfl, rfl, by first | exact pw_odd hi3 he | exact pw_even hi3 he, by omega, hs⟩, by omega, hf.sub ⟨rfl, rfl, rfl, rfl, rfl, rfl, rfl, rfl, rfl, rfl, rfl, trivial⟩⟩
        · simp only [decide_eq_true_eq, decide_eq_false_iff_not, Bool.not_eq_true', Bool.not_eq_false', Bool.not_eq_true, Int.not_lt, Int.not_le] at hi2
          refine wp_exit ?_
          refine then_x ?_
          refine then_x ?_
          refine blk_x ?_
          refine then_n ?_
          refine wp_seq ?_
          refine wp_region_lit ?_
          refine s_m hf rfl ?_; clear hf a; intro a hf
          refine s_m hf rfl ?_; clear hf a; intro a hf
          refine s_v hf (x_bin (hf.eval rfl) (hf.eval rfl) (r_xor_u32 _ (mvN_lt c hp0) hq0)) ?_; clear hf a; intro a hf
          refine s_a hf rfl ?_; clear hf a; intro a hf
          refine s_a hf rfl ?_; clear hf a; intro a hf
          refine s_nil ?_
          refine then_n ?_
          refine wp_ret ?_
          refine r_2 hf Try.results12 rfl rfl ?_
          obtain rfl : h = 0 := by omega
          have he2 : c = 8 * N := by omega
          have hgood : ¬ ((N : Int) < 0 ∨ (16777216 : Int) < N) := by omega
          exact ⟨by unfold joinR joinE; rw [if_neg hgood, if_neg hgood]; rw [he2]; rfl, hs.kept⟩

end Go.Proofs.Ytfcmklmeinchhaa
