/- Texts 14 of 17 that the law rests on: the small library, contracts of functions, printed by a program. -/
import Derived.Test.YtehakfbfjpolfaaDoorProg
import Derived.Test.YtehakfbfjpolfaaDoorRv1
import Derived.Test.YtehakfbfjpolfaaDoorRv2
import Derived.Test.YtehakfbfjpolfaaDoorRv3
import Derived.Test.YtehakfbfjpolfaaDoorRv4
import Derived.Test.YtehakfbfjpolfaaDoorRv5
import Derived.Test.YtehakfbfjpolfaaDoorRv6
import Derived.Test.YtehakfbfjpolfaaDoorRv7
import Derived.Test.YtehakfbfjpolfaaDoorRv8
import Derived.Test.YtehakfbfjpolfaaDoorRv9
import Derived.Test.YtehakfbfjpolfaaDoorRv10
import Derived.Test.YtehakfbfjpolfaaDoorRv11
import Derived.Test.YtehakfbfjpolfaaDoorRv12
import Derived.Test.YtehakfbfjpolfaaDoorRv13
set_option maxRecDepth 100000
set_option linter.all false
namespace Go.Proofs.YtehakfbfjpolfaaDoor
open Go Vw
theorem up_spec (w : World) (n : Int) (h0 : 0 ≤ n) (h1 : n ≤ 1125899906842624) : Calls Tryd.prog 114 #[.int .i64 n] w fun e w' => e = .returned (.int .i64 (upZ n)) ∧ w' = w := by
  refine c_enter (N := 8) Tryd.func114 rfl Tryd.ntmps114 (by simp) ?_
  intro a hf
  refine wp_seq ?_
  refine wp_region_lit ?_
  refine s_a hf rfl ?_; clear hf a; intro a hf
  refine s_nil ?_
  refine then_n ?_
  refine wp_seq ?_
  refine wp_region_lit ?_
  refine s_m hf rfl ?_; clear hf a; intro a hf
  refine s_v hf (x_bin (hf.eval rfl) (hf.eval rfl) (r_addi _ (by omega) (by omega))) ?_; clear hf a; intro a hf
  refine s_v hf (x_bin (hf.eval rfl) (hf.eval rfl) (r_subi _ (by omega) (by omega))) ?_; clear hf a; intro a hf
  refine s_v hf (x_bin (hf.eval rfl) (hf.eval rfl) (r_quon _ (by omega) (by omega) (by omega))) ?_; clear hf a; intro a hf
  refine s_v hf (x_bin (hf.eval rfl) (hf.eval rfl) (r_muli _ (by omega) (by omega))) ?_; clear hf a; intro a hf
  refine s_a hf rfl ?_; clear hf a; intro a hf
  refine s_nil ?_
  refine then_n ?_
  refine wp_ret ?_
  refine r_1 hf Tryd.results114 rfl ?_
  exact ⟨rfl, rfl⟩
theorem sized_spec (w : World) (n : Int) : Calls Tryd.prog 99 #[.int .i64 n] w fun e w' => e = .returned (.bool (decide (0 ≤ n ∧ n ≤ 16777216))) ∧ w' = w := by
  refine c_enter (N := 9) Tryd.func99 rfl Tryd.ntmps99 (by simp) ?_
  intro a hf
  refine wp_seq ?_
  refine wp_region_lit ?_
  refine s_a hf rfl ?_; clear hf a; intro a hf
  refine s_nil ?_
  refine then_n ?_
  refine wp_seq ?_
  refine wp_region_lit ?_
  refine s_m hf rfl ?_; clear hf a; intro a hf
  refine s_v hf (x_bin (hf.eval rfl) (hf.eval rfl) (r_ge _ _ _ _)) ?_; clear hf a; intro a hf
  refine s_m hf rfl ?_; clear hf a; intro a hf
  refine s_bool hf (k := 5) rfl (fun hg1_2 hf' => ?_) (fun hg1_2 hf' => ?_)
  · clear hf
    have hf := hf'
    clear hf'
    simp only [decide_eq_true_eq, decide_eq_false_iff_not, Bool.not_eq_true', Bool.not_eq_false', Bool.not_eq_true, Int.not_lt, Int.not_le] at hg1_2
    refine s_do hf (wanted_of hf rfl rfl rfl) (.value (x_move (hf.eval rfl) _) ?_); clear hf a; intro a hf
    refine s_do hf (wanted_of hf rfl rfl rfl) (.value (x_bin (hf.eval rfl) (hf.eval rfl) (r_le _ _ _ _) _) ?_); clear hf a; intro a hf
    refine s_v hf (x_pick_t (hf.eval rfl) (hf.eval rfl)) ?_; clear hf a; intro a hf
    refine s_a hf rfl ?_; clear hf a; intro a hf
    refine s_nil ?_
    refine then_n ?_
    refine wp_ret ?_
    refine r_1 hf Tryd.results99 rfl ?_
    exact ⟨by congr 2; simp; omega, rfl⟩
  · clear hf
    have hf := hf'
    clear hf'
    simp only [decide_eq_true_eq, decide_eq_false_iff_not, Bool.not_eq_true', Bool.not_eq_false', Bool.not_eq_true, Int.not_lt, Int.not_le] at hg1_2
    refine s_pass hf rfl rfl ?_; clear hf a; intro a hf
    refine s_pass hf rfl rfl ?_; clear hf a; intro a hf
    refine s_v hf (x_pick_f (hf.eval rfl) (hf.eval rfl)) ?_; clear hf a; intro a hf
    refine s_a hf rfl ?_; clear hf a; intro a hf
    refine s_nil ?_
    refine then_n ?_
    refine wp_ret ?_
    refine r_1 hf Tryd.results99 rfl ?_
    exact ⟨by congr 2; simp; omega, rfl⟩
theorem placedF_spec (w0 : World) (old size length : Int) (ho : 0 ≤ old) (ho2 : old ≤ 16777216) (hz : 0 ≤ size) (hz2 : size ≤ 16777216) (hl : 0 ≤ length) (hl2 : length ≤ 1125899906842624) : Calls Tryd.prog 100 #[.int .i64 old, .int .i64 size, .int .i64 length] w0 fun e w' => e = .returned (.agg #[.int .i64 (upZ (max old size)), .int .i64 (filZ old size length / 512 * 512 - 512), .int .i64 (filZ old size length)]) ∧ Kept w0 w' None_ := by
  have hs := St.start w0 None_
  refine c_enter (N := 40) Tryd.func100 rfl Tryd.ntmps100 (by simp) ?_
  intro a hf
  refine wp_seq ?_
  refine wp_region_lit ?_
  refine s_do hf rfl (y_alloc hs Tryd.zeroValue100 ?_); clear hf hs a; intro b6 w hs a hf
  change St _ _ (cb b6 100 [.int .i64 (0), .int .i64 (0), .int .i64 (0)] :: _) at hs
  refine s_nil ?_
  refine then_n ?_
  refine wp_seq ?_
  refine wp_region_lit ?_
  refine s_m hf rfl ?_; clear hf a; intro a hf
  refine s_m hf rfl ?_; clear hf a; intro a hf
  refine s_v hf (x_maxI (hf.eval rfl) (hf.eval rfl)) ?_; clear hf a; intro a hf
  refine s_do hf rfl (y_call (hf.eval rfl) (hf.evals rfl) Tryd.call114 ((up_spec _ _ (by omega) (by omega)).mono ?_))
  rintro e w1 ⟨rfl, rfl⟩
  refine ⟨_, rfl, ?_⟩; clear hf a; intro a hf
  have hu1 : old ≤ upZ (max old size) ∧ upZ (max old size) ≤ 16777727 := by unfold upZ; omega
  have hu2 : 0 ≤ upZ length ∧ upZ length ≤ 1125899906843136 := by unfold upZ; omega
  refine s_r hf (x_build (v := .agg #[.int .i64 (upZ (max old size)), .int .i64 0, .int .i64 0]) (hf.parts rfl) (fun w => by kernel_rfl) _) ?_; clear hf a; intro a hf
  refine s_do hf rfl (y_alloc hs Tryd.zeroValue100 ?_); clear hf hs a; intro b7 w hs a hf
  change St _ _ (cb b7 100 [.int .i64 (0), .int .i64 (0), .int .i64 (0)] :: _) at hs
  refine s_do0 hf rfl (y_storeAgg (cs := [.int .i64 (upZ (max old size)), .int .i64 0, .int .i64 0]) hs (n := 3) (by kernel_rfl) (hf.eval rfl) (hf.eval rfl) (by simp [Value.oneCell']) rfl rfl .k0 ?_); clear hf hs a; intro w hs a hf
  refine s_nil ?_
  refine then_n ?_
  refine wp_seq ?_
  refine c_draw hs (fun w' => w'.cell? ⟨b7, 0, none⟩ = some (.int .i64 (upZ (max old size)))) [.held, .held, .held, .eff, .held, .held, .held] (by kernel_rfl) (by kernel_rfl) (fun w' _ hs => hs.cell .k0 rfl) ?_
  clear hs; intro w hs hC hw
  refine m_held hf rfl (fun w' _ => x_fieldAddr fo100_0 (hf.eval rfl) w') ?_; clear hf a; intro a hf
  refine m_held hf rfl (fun w' hc => x_load sc3 (hf.eval rfl) hc) ?_; clear hf a; intro a hf
  refine m_held hf rfl (fun w' _ => x_move (hf.eval rfl) w') ?_; clear hf a; intro a hf
  refine m_eff hf rfl (y_call (hf.eval rfl) (hf.evals rfl) Tryd.call114 ((up_spec _ _ hl hl2).mono ?_))
  rintro e w1 ⟨rfl, rfl⟩
  refine ⟨_, rfl, ⟨hs.cell .k0 rfl, ?_⟩⟩; clear hf a; intro a hf
  refine m_held hf rfl (fun w' _ => x_bin (hf.eval rfl) (hf.eval rfl) (r_addi _ (by omega) (by omega)) w') ?_; clear hf a; intro a hf
  refine m_held hf rfl (fun w' _ => x_bin (hf.eval rfl) (hf.eval rfl) (r_addi _ (by omega) (by omega)) w') ?_; clear hf a; intro a hf
  refine m_held hf rfl (fun w' _ => x_assign (hf.eval rfl) w') ?_; clear hf a; intro a hf
  refine m_nil ?_
  refine then_n ?_
  refine wp_seq ?_
  refine wp_region_lit ?_
  refine s_m hf rfl ?_; clear hf a; intro a hf
  refine s_m hf rfl ?_; clear hf a; intro a hf
  refine s_v hf (x_bin (hf.eval rfl) (hf.eval rfl) (r_subi _ (by omega) (by omega))) ?_; clear hf a; intro a hf
  refine s_v hf (x_bin (hf.eval rfl) (hf.eval rfl) (r_addi _ (by omega) (by omega))) ?_; clear hf a; intro a hf
  refine s_v hf (x_bin (hf.eval rfl) (hf.eval rfl) (r_subi _ (by omega) (by omega))) ?_; clear hf a; intro a hf
  refine s_v hf (x_bin (hf.eval rfl) (hf.eval rfl) (r_quon _ (by omega) (by omega) (by omega))) ?_; clear hf a; intro a hf
  refine s_v hf (x_maxI (hf.eval rfl) (hf.eval rfl)) ?_; clear hf a; intro a hf
  refine s_a hf rfl ?_; clear hf a; intro a hf
  refine s_nil ?_
  refine then_n ?_
  refine wp_seq ?_
  refine wp_region_lit ?_
  refine s_m hf rfl ?_; clear hf a; intro a hf
  refine s_m hf rfl ?_; clear hf a; intro a hf
  refine s_v hf (x_bin (hf.eval rfl) (hf.eval rfl) (r_muli _ (by omega) (by omega))) ?_; clear hf a; intro a hf
  refine s_v hf (x_bin (hf.eval rfl) (hf.eval rfl) (r_addi _ (by omega) (by omega))) ?_; clear hf a; intro a hf
  refine s_v hf (x_fieldAddr fo100_2 (hf.eval rfl)) ?_; clear hf a; intro a hf
  refine s_do0 hf rfl (y_store hs sc3 (hf.eval rfl) (hf.eval rfl) rfl (by first | exact .k0 | exact .k1 | exact .k2 | exact .k3 | exact .k4 | exact .k5) (by simp) ?_); clear hf hs a; intro w hs a hf
  refine s_nil ?_
  refine then_n ?_
  refine wp_seq ?_
  refine wp_region_lit ?_
  refine s_v hf (x_fieldAddr fo100_2 (hf.eval rfl)) ?_; clear hf a; intro a hf
  refine s_r hf (x_load sc3 (hf.eval rfl) (by first | exact hs.cell .k0 rfl | exact hs.cell .k1 rfl | exact hs.cell .k2 rfl | exact hs.cell .k3 rfl | exact hs.cell .k4 rfl | exact hs.cell .k5 rfl)) ?_; clear hf a; intro a hf
  refine s_v hf (x_bin (hf.eval rfl) (hf.eval rfl) (r_quon _ (by omega) (by omega) (by omega))) ?_; clear hf a; intro a hf
  refine s_v hf (x_bin (hf.eval rfl) (hf.eval rfl) (r_muli _ (by omega) (by omega))) ?_; clear hf a; intro a hf
  refine s_v hf (x_bin (hf.eval rfl) (hf.eval rfl) (r_subi _ (by omega) (by omega))) ?_; clear hf a; intro a hf
  refine s_v hf (x_fieldAddr fo100_1 (hf.eval rfl)) ?_; clear hf a; intro a hf
  refine s_do0 hf rfl (y_store hs sc3 (hf.eval rfl) (hf.eval rfl) rfl (by first | exact .k0 | exact .k1 | exact .k2 | exact .k3 | exact .k4 | exact .k5) (by simp) ?_); clear hf hs a; intro w hs a hf
  refine s_nil ?_
  refine then_n ?_
  refine wp_seq ?_
  refine wp_region_lit ?_
  refine s_r hf (x_loadBlk hs ag100 (hf.eval rfl) rfl .k0) ?_; clear hf a; intro a hf
  refine s_do0 hf rfl (y_storeAgg hs (n := 3) (by kernel_rfl) (hf.eval rfl) (hf.eval rfl) (by simp [Value.oneCell']) rfl rfl .k1 ?_); clear hf hs a; intro w hs a hf
  refine s_nil ?_
  refine then_n ?_
  refine wp_ret ?_
  refine r_1c hf Tryd.results100 rfl hs ag100 rfl .k1 ?_
  exact ⟨rfl, hs.kept⟩
theorem rup_spec (w0 : World) (n : Int) (h0 : 0 ≤ n) (h1 : n ≤ 1125899906842624) : Calls Tryd.prog 84 #[.int .i64 n] w0 fun e w' => e = .returned (.int .i64 (upZ n)) ∧ Kept w0 w' None_ := by
  have hs := St.start w0 None_
  have hu : upZ n = (n + 512 - 1) / 512 * 512 := rfl
  refine c_enter (N := 9) Tryd.func84 rfl Tryd.ntmps84 (by simp) ?_
  intro a hf
  refine wp_seq ?_
  refine wp_region_lit ?_
  refine s_a hf rfl ?_; clear hf a; intro a hf
  refine s_nil ?_
  refine then_n ?_
  refine wp_seq ?_
  refine wp_block ?_
  refine c_loop (L0 := [(2, _)]) (fun M w m => ∃ x : Int, M = [(0, .int .i64 x)] ∧ (upZ n - x).toNat = m ∧ n ≤ x ∧ x ≤ upZ n ∧ St ⟨w0, None_⟩ w []) (M0 := [(0, .int .i64 n)]) (⟨n, rfl, rfl, by omega, by omega, hs⟩) (hf.sub ⟨rfl, rfl, trivial⟩) ?_
  clear hf hs a
  rintro M m a w ⟨x, rfl, rfl, hx0, hx1, hs⟩ hf
  refine wp_seq ?_
  refine wp_seq ?_
  refine wp_region_lit ?_
  refine s_m hf rfl ?_; clear hf a; intro a hf
  refine s_v hf (x_bin (hf.eval rfl) (hf.eval rfl) (r_remn _ _ (by omega) (by omega))) ?_; clear hf a; intro a hf
  refine s_v hf (x_bin (hf.eval rfl) (hf.eval rfl) (r_ne _ _ _ _)) ?_; clear hf a; intro a hf
  refine s_nil ?_
  refine then_n ?_
  refine c_cond hf rfl (fun hi0 => ?_) (fun hi0 => ?_)
  · simp at hi0
    refine wp_skip ?_
    refine then_n ?_
    refine wp_block ?_
    refine wp_region_lit ?_
    refine s_m hf rfl ?_; clear hf a; intro a hf
    refine s_v hf (x_bin (hf.eval rfl) (hf.eval rfl) (r_addi _ (by omega) (by omega))) ?_; clear hf a; intro a hf
    refine s_a hf rfl ?_; clear hf a; intro a hf
    refine s_nil ?_
    refine blk_n ?_
    exact ⟨_, _, ⟨x + 1, rfl, rfl, by omega, by omega, hs⟩, by omega, hf.sub ⟨rfl, rfl, trivial⟩⟩
  · simp at hi0
    refine wp_exit ?_
    refine then_x ?_
    refine then_x ?_
    refine blk_x ?_
    refine then_n ?_
    refine wp_seq ?_
    refine wp_region_lit ?_
    refine s_m hf rfl ?_; clear hf a; intro a hf
    refine s_a hf rfl ?_; clear hf a; intro a hf
    refine s_nil ?_
    refine then_n ?_
    refine wp_ret ?_
    refine r_1 hf Tryd.results84 rfl ?_
    exact ⟨by rw [show x = upZ n by omega], hs.kept⟩
theorem seal_spec (w : World) (n : Int) (h0 : 0 ≤ n) (h1 : n ≤ 2251799813685248) : Calls Tryd.prog 82 #[.int .i64 n] w fun e w' => e = .returned (.int .i64 (n / 512 * 512 - 512)) ∧ w' = w := by
  refine c_enter (N := 7) Tryd.func82 rfl Tryd.ntmps82 (by simp) ?_
  intro a hf
  refine wp_seq ?_
  refine wp_region_lit ?_
  refine s_a hf rfl ?_; clear hf a; intro a hf
  refine s_nil ?_
  refine then_n ?_
  refine wp_seq ?_
  refine wp_region_lit ?_
  refine s_m hf rfl ?_; clear hf a; intro a hf
  refine s_v hf (x_bin (hf.eval rfl) (hf.eval rfl) (r_quon _ (by omega) (by omega) (by omega))) ?_; clear hf a; intro a hf
  refine s_v hf (x_bin (hf.eval rfl) (hf.eval rfl) (r_muli _ (by omega) (by omega))) ?_; clear hf a; intro a hf
  refine s_v hf (x_bin (hf.eval rfl) (hf.eval rfl) (r_subi _ (by omega) (by omega))) ?_; clear hf a; intro a hf
  refine s_a hf rfl ?_; clear hf a; intro a hf
  refine s_nil ?_
  refine then_n ?_
  refine wp_ret ?_
  refine r_1 hf Tryd.results82 rfl ?_
  exact ⟨rfl, rfl⟩
theorem body_spec (w0 : World) (old size : Int) (ho : 0 ≤ old) (ho2 : old ≤ 16777216) (hz : 0 ≤ size) (hz2 : size ≤ 16777216) : Calls Tryd.prog 58 #[.int .i64 old, .int .i64 size] w0 fun e w' => e = .returned (.int .i64 (upZ (max old size))) ∧ Kept w0 w' None_ := by
  have hs := St.start w0 None_
  refine c_enter (N := 9) Tryd.func58 rfl Tryd.ntmps58 (by simp) ?_
  intro a hf
  refine wp_seq ?_
  refine wp_region_lit ?_
  refine s_a hf rfl ?_; clear hf a; intro a hf
  refine s_nil ?_
  refine then_n ?_
  refine wp_seq ?_
  refine wp_region_lit ?_
  refine s_m hf rfl ?_; clear hf a; intro a hf
  refine s_m hf rfl ?_; clear hf a; intro a hf
  refine s_v hf (x_maxI (hf.eval rfl) (hf.eval rfl)) ?_; clear hf a; intro a hf
  refine s_do hf rfl (y_call (hf.eval rfl) (hf.evals rfl) Tryd.call84 ((rup_spec _ _ (by omega) (by omega)).mono ?_))
  rintro e w1 ⟨rfl, hk⟩
  replace hs := hs.ext hk
  refine ⟨_, rfl, ?_⟩; clear hf a; intro a hf
  refine s_a hf rfl ?_; clear hf a; intro a hf
  refine s_nil ?_
  refine then_n ?_
  refine wp_ret ?_
  refine r_1 hf Tryd.results58 rfl ?_
  exact ⟨rfl, hs.kept⟩
theorem file_spec (w0 : World) (old size length : Int) (ho : 0 ≤ old) (ho2 : old ≤ 16777216) (hz : 0 ≤ size) (hz2 : size ≤ 16777216) (hl : 0 ≤ length) (hl2 : length ≤ 1125899906842624) : Calls Tryd.prog 83 #[.int .i64 old, .int .i64 size, .int .i64 length] w0 fun e w' => e = .returned (.int .i64 (filZ old size length)) ∧ Kept w0 w' None_ := by
  have hs := St.start w0 None_
  obtain ⟨u1, hu1⟩ : ∃ u1, upZ (max old size) = u1 * 512 := ⟨_, rfl⟩
  obtain ⟨u2, hu2⟩ : ∃ u2, upZ length = u2 * 512 := ⟨_, rfl⟩
  have hb1 : old ≤ upZ (max old size) ∧ upZ (max old size) ≤ 16777727 := by unfold upZ; omega
  have hb2 : 0 ≤ upZ length ∧ upZ length ≤ 1125899906843136 := by unfold upZ; omega
  have hF : filZ old size length = old + max 1 ((upZ (max old size) + upZ length + 512 - old + 1024 - 1) / 1024) * 1024 := rfl
  generalize filZ old size length = F at hF ⊢
  generalize hA : upZ (max old size) = A at hu1 hb1 hF
  generalize hB : upZ length = B at hu2 hb2 hF
  refine c_enter (N := 24) Tryd.func83 rfl Tryd.ntmps83 (by simp) ?_
  intro a hf
  refine wp_seq ?_
  refine wp_region_lit ?_
  refine s_a hf rfl ?_; clear hf a; intro a hf
  refine s_nil ?_
  refine then_n ?_
  refine wp_seq ?_
  refine wp_region_lit ?_
  refine s_m hf rfl ?_; clear hf a; intro a hf
  refine s_m hf rfl ?_; clear hf a; intro a hf
  refine s_do hf rfl (y_call (hf.eval rfl) (hf.evals rfl) Tryd.call58 ((body_spec _ old size ho ho2 hz hz2).mono ?_))
  rintro e w1 ⟨rfl, hk⟩
  replace hs := hs.ext hk
  rw [hA]
  refine ⟨_, rfl, ?_⟩; clear hf a; intro a hf
  refine s_m hf rfl ?_; clear hf a; intro a hf
  refine s_do hf rfl (y_call (hf.eval rfl) (hf.evals rfl) Tryd.call84 ((rup_spec _ length hl hl2).mono ?_))
  rintro e w1 ⟨rfl, hk⟩
  replace hs := hs.ext hk
  rw [hB]
  refine ⟨_, rfl, ?_⟩; clear hf a; intro a hf
  refine s_v hf (x_bin (hf.eval rfl) (hf.eval rfl) (r_addi _ (by omega) (by omega))) ?_; clear hf a; intro a hf
  refine s_a hf rfl ?_; clear hf a; intro a hf
  refine s_nil ?_
  refine then_n ?_
  refine wp_seq ?_
  refine wp_region_lit ?_
  refine s_m hf rfl ?_; clear hf a; intro a hf
  refine s_v hf (x_bin (hf.eval rfl) (hf.eval rfl) (r_addi _ (by omega) (by omega))) ?_; clear hf a; intro a hf
  refine s_a hf rfl ?_; clear hf a; intro a hf
  refine s_nil ?_
  refine then_n ?_
  refine wp_seq ?_
  refine wp_block ?_
  refine c_loop (L0 := [(6, _), (7, _)]) (fun M w m => ∃ f : Int, M = [(8, .int .i64 f)] ∧ (F - f).toNat = m ∧ old + 1024 ≤ f ∧ f ≤ F ∧ (F - f) % 1024 = 0 ∧ St ⟨w0, None_⟩ w []) (M0 := [(8, .int .i64 (old + 1024))]) (⟨old + 1024, rfl, rfl, by omega, by omega, by omega, hs⟩) (hf.sub ⟨rfl, rfl, rfl, trivial⟩) ?_
  clear hf hs a
  rintro M m a w ⟨f, rfl, rfl, hf0, hf1, hf2, hs⟩ hf
  refine wp_seq ?_
  refine wp_seq ?_
  refine wp_region_lit ?_
  refine s_m hf rfl ?_; clear hf a; intro a hf
  refine s_do hf rfl (y_call (hf.eval rfl) (hf.evals rfl) Tryd.call82 ((seal_spec _ f (by omega) (by omega)).mono ?_))
  rintro e w1 ⟨rfl, rfl⟩
  refine ⟨_, rfl, ?_⟩; clear hf a; intro a hf
  refine s_m hf rfl ?_; clear hf a; intro a hf
  refine s_v hf (x_bin (hf.eval rfl) (hf.eval rfl) (r_lt _ _ _ _)) ?_; clear hf a; intro a hf
  refine s_nil ?_
  refine then_n ?_
  refine c_cond hf rfl (fun hi0 => ?_) (fun hi0 => ?_)
  · simp only [decide_eq_true_eq, decide_eq_false_iff_not, Bool.not_eq_true', Bool.not_eq_false', Bool.not_eq_true, Int.not_lt, Int.not_le] at hi0
    refine wp_skip ?_
    refine then_n ?_
    refine wp_block ?_
    refine wp_region_lit ?_
    refine s_m hf rfl ?_; clear hf a; intro a hf
    refine s_v hf (x_bin (hf.eval rfl) (hf.eval rfl) (r_addi _ (by omega) (by omega))) ?_; clear hf a; intro a hf
    refine s_a hf rfl ?_; clear hf a; intro a hf
    refine s_nil ?_
    refine blk_n ?_
    exact ⟨_, _, ⟨f + 1024, rfl, rfl, by omega, by omega, by omega, hs⟩, by omega, hf.sub ⟨rfl, rfl, rfl, trivial⟩⟩
  · simp only [decide_eq_true_eq, decide_eq_false_iff_not, Bool.not_eq_true', Bool.not_eq_false', Bool.not_eq_true, Int.not_lt, Int.not_le] at hi0
    refine wp_exit ?_
    refine then_x ?_
    refine then_x ?_
    refine blk_x ?_
    refine then_n ?_
    refine wp_seq ?_
    refine wp_region_lit ?_
    refine s_m hf rfl ?_; clear hf a; intro a hf
    refine s_a hf rfl ?_; clear hf a; intro a hf
    refine s_nil ?_
    refine then_n ?_
    refine wp_ret ?_
    refine r_1 hf Tryd.results83 rfl ?_
    exact ⟨by rw [show f = F by omega], hs.kept⟩
theorem fil_ge {old size length : Int} (h0 : 0 ≤ old) (h1 : 0 ≤ size) (h2 : 0 ≤ length) : upZ (max old size) + upZ length + 512 ≤ filZ old size length ∧ old + 1024 ≤ filZ old size length ∧ max old size ≤ upZ (max old size) ∧ length ≤ upZ length := by
  unfold filZ upZ
  omega
end Go.Proofs.YtehakfbfjpolfaaDoor

namespace Go.Proofs.YtehakfbfjpolfaaDoor
open Go Vw
theorem cells_of {σ : Sig} {w : World} {L R : List Asrt} {b T : Nat} {vs : List Value} (hs : St σ w L) (tk : Take (cb b T vs) L R) : ∀ (j : Nat) (v : Value), vs[j]? = some v → w.cell? ((⟨b, 0, none⟩ : Addr).add j) = some v := fun j v hv => by
  have := hs.cell tk hv
  rwa [show (⟨b, 0, none⟩ : Addr).add j = ⟨b, j, none⟩ by unfold Addr.add; split <;> simp_all]
theorem seg_rd {h : Heaplet} {a : Option Addr} {c : Nat} {l : List UInt8} (hr : RdB h (.slice a l.length c) l) (hn : 512 ≤ l.length) : RdB h (.slice (subA a c (seAt l.length) 1) (segS l).length (c - seAt l.length)) (segS l) := by
  have h2 := seAt_le hn
  have h1 := RdB.sub (i := seAt l.length) (j := seAt l.length + 512) hr rfl (by omega) h2
  rw [show seAt l.length + 512 - seAt l.length = 512 by omega] at h1
  rw [segS_len hn]
  exact h1
theorem tl_rd {h : Heaplet} {a : Option Addr} {c k : Nat} {l : List UInt8} (hr : RdB h (.slice a l.length c) l) (hk : k ≤ l.length) : RdB h (.slice (subA a c k 1) (l.drop k).length (c - k)) (l.drop k) := by
  have h1 := RdB.sub (i := k) (j := l.length) hr rfl hk (Nat.le_refl _)
  rw [List.take_of_length_le (by rw [List.length_drop]; exact Nat.le_refl _)] at h1
  rw [List.length_drop]
  exact h1
theorem decE_yes {l : List UInt8} (h : decE l = 0) : decOk l = true := by
  unfold decE at h
  cases e : decOk l with
  | true => rfl
  | false => rw [e] at h; simp at h
theorem dec_ne {l : List UInt8} (h : decE l ≠ 0) : decOk l = false := by
  cases e : decOk l with
  | false => rfl
  | true => exact absurd (dec_yes e).2 h
theorem dec_flds {l : List UInt8} (h : decOk l = true) : (2 ≤ (dsF l).1 ∧ (dsF l).1 ≤ 4) ∧ (0 ≤ (dsF l).2.1 ∧ (dsF l).2.1 ≤ 4294967295) ∧ (0 ≤ (dsF l).2.2.1 ∧ (dsF l).2.2.1 ≤ 4294967295) ∧ (0 ≤ (dsF l).2.2.2.1 ∧ (dsF l).2.2.2.1 ≤ 4294967295) ∧ (0 ≤ (dsF l).2.2.2.2.1 ∧ (dsF l).2.2.2.2.1 ≤ 4294967295) ∧ (0 ≤ (dsF l).2.2.2.2.2.1 ∧ (dsF l).2.2.2.2.2.1 ≤ 4294967295) := by
  unfold decOk at h
  simp only [Bool.and_eq_true, decide_eq_true_eq] at h
  exact ⟨slOk_st h.1.2, slOk_in h.1.2⟩
theorem rsealed_spec (w0 : World) (a1 : Option Addr) (c1 : Nat) (l : List UInt8) (hr1 : RdB (hp w0) (.slice a1 l.length c1) l) (hl1 : l.length ≤ 16777216) : Calls Tryd.prog 57 #[.slice a1 l.length c1] w0 fun e w' => ∃ sv : Sl, e = .returned (.tuple #[.agg (slF sv).toArray, .bool (seOk l)]) ∧ (seOk l = true → sv = sdS l) ∧ Kept w0 w' None_ := by
  have hs := St.start w0 None_
  have hcp := RdB.cap hr1
  refine c_enter (N := 65) Tryd.func57 rfl Tryd.ntmps57 (by simp) ?_
  intro a hf
  refine wp_seq ?_
  refine wp_region_lit ?_
  refine s_do hf rfl (y_alloc hs Tryd.zeroValue24 ?_); clear hf hs a; intro b2 w hs a hf
  change St _ _ (cb b2 24 (slF zSl) :: _) at hs
  refine s_a hf rfl ?_; clear hf a; intro a hf
  refine s_nil ?_
  refine then_n ?_
  refine wp_seq ?_
  refine wp_region_lit ?_
  refine s_m hf rfl ?_; clear hf a; intro a hf
  refine s_v hf (x_len Tryd.underlying25 (hf.eval rfl)) ?_; clear hf a; intro a hf
  refine s_a hf rfl ?_; clear hf a; intro a hf
  refine s_nil ?_
  refine then_n ?_
  refine wp_seq ?_
  refine wp_seq ?_
  refine wp_region_lit ?_
  refine s_m hf rfl ?_; clear hf a; intro a hf
  refine s_v hf (x_bin (hf.eval rfl) (hf.eval rfl) (r_lt _ _ _ _)) ?_; clear hf a; intro a hf
  refine s_nil ?_
  refine then_n ?_
  refine c_cond hf rfl (fun hi0 => ?_) (fun hi0 => ?_)
  · first | simp only [decide_eq_true_eq, decide_eq_false_iff_not, Bool.not_eq_true', Bool.not_eq_false'] at hi0 | skip
    refine wp_seq ?_
    refine wp_region_lit ?_
    refine s_r hf (x_build (v := .agg (slF zSl).toArray) (hf.parts rfl) (fun w => by kernel_rfl) _) ?_; clear hf a; intro a hf
    replace hs := hs.take (A := cb b2 24 (slF zSl)) (by first | exact .k0 | exact .k1 | exact .k2 | exact .k3 | exact .k4 | exact .k5 | exact .k6 | exact .k7 | exact .k8 | exact .k9 | exact .k10 | exact .k11)
    refine s_do0 hf rfl (y_storeAgg (cs := slF zSl) hs (n := 7) (by kernel_rfl) (hf.eval rfl) (hf.eval rfl) (by simp [Value.oneCell', slF]) rfl rfl .k0 ?_); clear hf hs a; intro w hs a hf
    refine s_a hf rfl ?_; clear hf a; intro a hf
    refine s_nil ?_
    refine then_n ?_
    refine wp_ret ?_
    refine then_r ?_
    refine r_2c hf Tryd.results57 rfl rfl hs ag24 rfl .k0 ?_
    have hno : seOk l = false := by
      unfold seOk
      first
      | (rw [decide_eq_false (show ¬ 512 ≤ l.length by omega)]; simp; done)
      | (rw [dec_ne hg6_2]; simp; done)
      | (rw [decide_eq_false (show ¬ (sdS l).2.2.1 ≤ 16777216 by omega)]; simp; done)
      | (rw [decide_eq_false (show ¬ (sdS l).2.2.2.1 ≤ 16777216 by omega)]; simp; done)
      | (have h9 := fil_ge (old := (sdS l).2.2.1) (size := (sdS l).2.2.2.1) (length := (sdS l).2.2.2.2.2.1) (by omega) (by omega) (by omega); rw [decide_eq_false (show ¬ filZ (sdS l).2.2.1 (sdS l).2.2.2.1 (sdS l).2.2.2.2.2.1 = (l.length : Int) by omega)]; simp; done)
    rw [hno]
    exact ⟨_, rfl, fun h => (by cases h), hs.kept⟩
  · first | simp only [decide_eq_true_eq, decide_eq_false_iff_not, Bool.not_eq_true', Bool.not_eq_false'] at hi0 | skip
    have hn5 : 512 ≤ l.length := by omega
    have hsa := seAt_le hn5
    have hsl := segS_len hn5
    refine wp_skip ?_
    refine then_n ?_
    refine wp_seq ?_
    refine wp_region_lit ?_
    refine s_m hf rfl ?_; clear hf a; intro a hf
    refine s_do hf rfl (y_call (hf.eval rfl) (hf.evals rfl) Tryd.call82 ((seal_spec _ _ (by omega) (by omega)).mono ?_))
    rintro e w1 ⟨rfl, hw9⟩
    rw [hw9]
    clear hw9 w1
    refine ⟨_, rfl, ?_⟩; clear hf a; intro a hf
    refine s_a hf rfl ?_; clear hf a; intro a hf
    replace hf := hf.now (k := 5) (v' := .int .i64 (((seAt l.length) : Nat) : Int)) rfl (by congr 1; unfold seAt; omega)
    refine s_nil ?_
    refine then_n ?_
    refine wp_seq ?_
    refine wp_region_lit ?_
    refine s_m hf rfl ?_; clear hf a; intro a hf
    refine s_m hf rfl ?_; clear hf a; intro a hf
    refine s_m hf rfl ?_; clear hf a; intro a hf
    refine s_v hf (x_bin (hf.eval rfl) (hf.eval rfl) (r_addi _ (by omega) (by omega))) ?_; clear hf a; intro a hf
    refine s_v hf (x_slice sl25 (hf.eval rfl) (hf.eval rfl) (hf.eval rfl)  (by omega) (by omega) (by omega)) ?_; clear hf a; intro a hf
    replace hf := hf.now (k := 20) (v' := .slice (subA a1 c1 (seAt l.length) 1) (segS l).length (c1 - (seAt l.length))) rfl (by rw [hsl]; congr 1 <;> omega)
    refine s_do hf rfl (y_call (hf.eval rfl) (hf.evals rfl) Tryd.call17 ((rdecode_spec _ _ _ (segS l) (hs.oldB (seg_rd hr1 hn5)) (by omega)).mono ?_))
    rintro e w1 ⟨rfl, hk⟩
    replace hs := hs.ext hk
    refine ⟨_, rfl, ?_⟩; clear hf a; intro a hf
    refine s_m hf rfl ?_; clear hf a; intro a hf
    refine s_v hf (x_extract (hf.eval rfl) rfl) ?_; clear hf a; intro a hf
    refine s_v hf (x_extract (hf.eval rfl) rfl) ?_; clear hf a; intro a hf
    refine s_do hf rfl (y_alloc hs Tryd.zeroValue24 ?_); clear hf hs a; intro b6 w hs a hf
    change St _ _ (cb b6 24 (slF zSl) :: _) at hs
    refine s_do0 hf rfl (y_storeAgg (cs := slF (decV (segS l))) hs (n := 7) (by kernel_rfl) (hf.eval rfl) (hf.eval rfl) (by simp [Value.oneCell', slF]) rfl rfl .k0 ?_); clear hf hs a; intro w hs a hf
    refine s_a hf rfl ?_; clear hf a; intro a hf
    refine s_nil ?_
    refine then_n ?_
    refine wp_seq ?_
    refine wp_seq ?_
    refine wp_region_lit ?_
    refine s_m hf rfl ?_; clear hf a; intro a hf
    refine s_v hf (x_bin (hf.eval rfl) (hf.eval rfl) (r_ne _ _ _ _)) ?_; clear hf a; intro a hf
    refine s_m hf rfl ?_; clear hf a; intro a hf
    refine s_bool hf (k := 26) rfl (fun hg6_2 hf' => ?_) (fun hg6_2 hf' => ?_)
    · clear hf
      have hf := hf'
      clear hf'
      first | simp only [decide_eq_true_eq, decide_eq_false_iff_not, Bool.not_eq_true', Bool.not_eq_false'] at hg6_2 | skip
      refine s_pass hf rfl rfl ?_; clear hf a; intro a hf
      refine s_pass hf rfl rfl ?_; clear hf a; intro a hf
      refine s_pass hf rfl rfl ?_; clear hf a; intro a hf
      refine s_v hf (x_pick_t (hf.eval rfl) (hf.eval rfl)) ?_; clear hf a; intro a hf
      refine s_m hf rfl ?_; clear hf a; intro a hf
      refine s_pass hf rfl rfl ?_; clear hf a; intro a hf
      refine s_pass hf rfl rfl ?_; clear hf a; intro a hf
      refine s_pass hf rfl rfl ?_; clear hf a; intro a hf
      refine s_v hf (x_pick_t (hf.eval rfl) (hf.eval rfl)) ?_; clear hf a; intro a hf
      refine s_m hf rfl ?_; clear hf a; intro a hf
      refine s_pass hf rfl rfl ?_; clear hf a; intro a hf
      refine s_pass hf rfl rfl ?_; clear hf a; intro a hf
      refine s_pass hf rfl rfl ?_; clear hf a; intro a hf
      refine s_pass hf rfl rfl ?_; clear hf a; intro a hf
      refine s_v hf (x_pick_t (hf.eval rfl) (hf.eval rfl)) ?_; clear hf a; intro a hf
      refine s_m hf rfl ?_; clear hf a; intro a hf
      refine s_pass hf rfl rfl ?_; clear hf a; intro a hf
      refine s_pass hf rfl rfl ?_; clear hf a; intro a hf
      refine s_pass hf rfl rfl ?_; clear hf a; intro a hf
      refine s_pass hf rfl rfl ?_; clear hf a; intro a hf
      refine s_pass hf rfl rfl ?_; clear hf a; intro a hf
      refine s_pass hf rfl rfl ?_; clear hf a; intro a hf
      refine s_pass hf rfl rfl ?_; clear hf a; intro a hf
      refine s_pass hf rfl rfl ?_; clear hf a; intro a hf
      refine s_pass hf rfl rfl ?_; clear hf a; intro a hf
      refine s_v hf (x_pick_t (hf.eval rfl) (hf.eval rfl)) ?_; clear hf a; intro a hf
      refine s_nil ?_
      refine then_n ?_
      refine c_cond_t hf rfl rfl ?_
      refine wp_seq ?_
      refine wp_region_lit ?_
      refine s_r hf (x_build (v := .agg (slF zSl).toArray) (hf.parts rfl) (fun w => by kernel_rfl) _) ?_; clear hf a; intro a hf
      replace hs := hs.take (A := cb b2 24 (slF zSl)) (by first | exact .k0 | exact .k1 | exact .k2 | exact .k3 | exact .k4 | exact .k5 | exact .k6 | exact .k7 | exact .k8 | exact .k9 | exact .k10 | exact .k11)
      refine s_do0 hf rfl (y_storeAgg (cs := slF zSl) hs (n := 7) (by kernel_rfl) (hf.eval rfl) (hf.eval rfl) (by simp [Value.oneCell', slF]) rfl rfl .k0 ?_); clear hf hs a; intro w hs a hf
      refine s_a hf rfl ?_; clear hf a; intro a hf
      refine s_nil ?_
      refine then_n ?_
      refine wp_ret ?_
      refine then_r ?_
      refine r_2c hf Tryd.results57 rfl rfl hs ag24 rfl .k0 ?_
      have hno : seOk l = false := by
        unfold seOk
        first
        | (rw [decide_eq_false (show ¬ 512 ≤ l.length by omega)]; simp; done)
        | (rw [dec_ne hg6_2]; simp; done)
        | (rw [decide_eq_false (show ¬ (sdS l).2.2.1 ≤ 16777216 by omega)]; simp; done)
        | (rw [decide_eq_false (show ¬ (sdS l).2.2.2.1 ≤ 16777216 by omega)]; simp; done)
        | (have h9 := fil_ge (old := (sdS l).2.2.1) (size := (sdS l).2.2.2.1) (length := (sdS l).2.2.2.2.2.1) (by omega) (by omega) (by omega); rw [decide_eq_false (show ¬ filZ (sdS l).2.2.1 (sdS l).2.2.2.1 (sdS l).2.2.2.2.2.1 = (l.length : Int) by omega)]; simp; done)
      rw [hno]
      exact ⟨_, rfl, fun h => (by cases h), hs.kept⟩
    · clear hf
      have hf := hf'
      clear hf'
      first | simp only [decide_eq_true_eq, decide_eq_false_iff_not, Bool.not_eq_true', Bool.not_eq_false'] at hg6_2 | skip
      have hdk := decE_yes hg6_2
      obtain ⟨d0, d1, d2, d3, d4, d5⟩ := dec_flds hdk
      rw [(dec_yes hdk).1] at hs
      have hsd : dsF (segS l) = sdS l := rfl
      rw [hsd] at d0 d1 d2 d3 d4 d5 hs
      refine s_do hf (wanted_of hf rfl rfl rfl) (.value (x_fieldAddr fo24_2 (hf.eval rfl) _) ?_); clear hf a; intro a hf
      refine s_do hf (wanted_of hf rfl rfl rfl) (.value (x_load sc3 (hf.eval rfl) (by first | exact hs.cell .k0 rfl | exact hs.cell .k1 rfl | exact hs.cell .k2 rfl | exact hs.cell .k3 rfl | exact hs.cell .k4 rfl | exact hs.cell .k5 rfl | exact hs.cell .k6 rfl | exact hs.cell .k7 rfl)) ?_); clear hf a; intro a hf
      refine s_do hf (wanted_of hf rfl rfl rfl) (.value (x_bin (hf.eval rfl) (hf.eval rfl) (r_gt _ _ _ _) _) ?_); clear hf a; intro a hf
      refine s_v hf (x_pick_f (hf.eval rfl) (hf.eval rfl)) ?_; clear hf a; intro a hf
      refine s_m hf rfl ?_; clear hf a; intro a hf
      refine s_bool hf (k := 31) rfl (fun hg6_7 hf' => ?_) (fun hg6_7 hf' => ?_)
      · clear hf
        have hf := hf'
        clear hf'
        first | simp only [decide_eq_true_eq, decide_eq_false_iff_not, Bool.not_eq_true', Bool.not_eq_false'] at hg6_7 | skip
        refine s_pass hf rfl rfl ?_; clear hf a; intro a hf
        refine s_pass hf rfl rfl ?_; clear hf a; intro a hf
        refine s_pass hf rfl rfl ?_; clear hf a; intro a hf
        refine s_v hf (x_pick_t (hf.eval rfl) (hf.eval rfl)) ?_; clear hf a; intro a hf
        refine s_m hf rfl ?_; clear hf a; intro a hf
        refine s_pass hf rfl rfl ?_; clear hf a; intro a hf
        refine s_pass hf rfl rfl ?_; clear hf a; intro a hf
        refine s_pass hf rfl rfl ?_; clear hf a; intro a hf
        refine s_pass hf rfl rfl ?_; clear hf a; intro a hf
        refine s_v hf (x_pick_t (hf.eval rfl) (hf.eval rfl)) ?_; clear hf a; intro a hf
        refine s_m hf rfl ?_; clear hf a; intro a hf
        refine s_pass hf rfl rfl ?_; clear hf a; intro a hf
        refine s_pass hf rfl rfl ?_; clear hf a; intro a hf
        refine s_pass hf rfl rfl ?_; clear hf a; intro a hf
        refine s_pass hf rfl rfl ?_; clear hf a; intro a hf
        refine s_pass hf rfl rfl ?_; clear hf a; intro a hf
        refine s_pass hf rfl rfl ?_; clear hf a; intro a hf
        refine s_pass hf rfl rfl ?_; clear hf a; intro a hf
        refine s_pass hf rfl rfl ?_; clear hf a; intro a hf
        refine s_pass hf rfl rfl ?_; clear hf a; intro a hf
        refine s_v hf (x_pick_t (hf.eval rfl) (hf.eval rfl)) ?_; clear hf a; intro a hf
        refine s_nil ?_
        refine then_n ?_
        refine c_cond_t hf rfl rfl ?_
        refine wp_seq ?_
        refine wp_region_lit ?_
        refine s_r hf (x_build (v := .agg (slF zSl).toArray) (hf.parts rfl) (fun w => by kernel_rfl) _) ?_; clear hf a; intro a hf
        replace hs := hs.take (A := cb b2 24 (slF zSl)) (by first | exact .k0 | exact .k1 | exact .k2 | exact .k3 | exact .k4 | exact .k5 | exact .k6 | exact .k7 | exact .k8 | exact .k9 | exact .k10 | exact .k11)
        refine s_do0 hf rfl (y_storeAgg (cs := slF zSl) hs (n := 7) (by kernel_rfl) (hf.eval rfl) (hf.eval rfl) (by simp [Value.oneCell', slF]) rfl rfl .k0 ?_); clear hf hs a; intro w hs a hf
        refine s_a hf rfl ?_; clear hf a; intro a hf
        refine s_nil ?_
        refine then_n ?_
        refine wp_ret ?_
        refine then_r ?_
        refine r_2c hf Tryd.results57 rfl rfl hs ag24 rfl .k0 ?_
        have hno : seOk l = false := by
          unfold seOk
          first
          | (rw [decide_eq_false (show ¬ 512 ≤ l.length by omega)]; simp; done)
          | (rw [dec_ne hg6_2]; simp; done)
          | (rw [decide_eq_false (show ¬ (sdS l).2.2.1 ≤ 16777216 by omega)]; simp; done)
          | (rw [decide_eq_false (show ¬ (sdS l).2.2.2.1 ≤ 16777216 by omega)]; simp; done)
          | (have h9 := fil_ge (old := (sdS l).2.2.1) (size := (sdS l).2.2.2.1) (length := (sdS l).2.2.2.2.2.1) (by omega) (by omega) (by omega); rw [decide_eq_false (show ¬ filZ (sdS l).2.2.1 (sdS l).2.2.2.1 (sdS l).2.2.2.2.2.1 = (l.length : Int) by omega)]; simp; done)
        rw [hno]
        exact ⟨_, rfl, fun h => (by cases h), hs.kept⟩
      · clear hf
        have hf := hf'
        clear hf'
        first | simp only [decide_eq_true_eq, decide_eq_false_iff_not, Bool.not_eq_true', Bool.not_eq_false'] at hg6_7 | skip
        refine s_do hf (wanted_of hf rfl rfl rfl) (.value (x_fieldAddr fo24_3 (hf.eval rfl) _) ?_); clear hf a; intro a hf
        refine s_do hf (wanted_of hf rfl rfl rfl) (.value (x_load sc3 (hf.eval rfl) (by first | exact hs.cell .k0 rfl | exact hs.cell .k1 rfl | exact hs.cell .k2 rfl | exact hs.cell .k3 rfl | exact hs.cell .k4 rfl | exact hs.cell .k5 rfl | exact hs.cell .k6 rfl | exact hs.cell .k7 rfl)) ?_); clear hf a; intro a hf
        refine s_do hf (wanted_of hf rfl rfl rfl) (.value (x_bin (hf.eval rfl) (hf.eval rfl) (r_gt _ _ _ _) _) ?_); clear hf a; intro a hf
        refine s_v hf (x_pick_f (hf.eval rfl) (hf.eval rfl)) ?_; clear hf a; intro a hf
        refine s_m hf rfl ?_; clear hf a; intro a hf
        refine s_bool hf (k := 36) rfl (fun hg6_12 hf' => ?_) (fun hg6_12 hf' => ?_)
        · clear hf
          have hf := hf'
          clear hf'
          first | simp only [decide_eq_true_eq, decide_eq_false_iff_not, Bool.not_eq_true', Bool.not_eq_false'] at hg6_12 | skip
          refine s_pass hf rfl rfl ?_; clear hf a; intro a hf
          refine s_pass hf rfl rfl ?_; clear hf a; intro a hf
          refine s_pass hf rfl rfl ?_; clear hf a; intro a hf
          refine s_pass hf rfl rfl ?_; clear hf a; intro a hf
          refine s_v hf (x_pick_t (hf.eval rfl) (hf.eval rfl)) ?_; clear hf a; intro a hf
          refine s_m hf rfl ?_; clear hf a; intro a hf
          refine s_pass hf rfl rfl ?_; clear hf a; intro a hf
          refine s_pass hf rfl rfl ?_; clear hf a; intro a hf
          refine s_pass hf rfl rfl ?_; clear hf a; intro a hf
          refine s_pass hf rfl rfl ?_; clear hf a; intro a hf
          refine s_pass hf rfl rfl ?_; clear hf a; intro a hf
          refine s_pass hf rfl rfl ?_; clear hf a; intro a hf
          refine s_pass hf rfl rfl ?_; clear hf a; intro a hf
          refine s_pass hf rfl rfl ?_; clear hf a; intro a hf
          refine s_pass hf rfl rfl ?_; clear hf a; intro a hf
          refine s_v hf (x_pick_t (hf.eval rfl) (hf.eval rfl)) ?_; clear hf a; intro a hf
          refine s_nil ?_
          refine then_n ?_
          refine c_cond_t hf rfl rfl ?_
          refine wp_seq ?_
          refine wp_region_lit ?_
          refine s_r hf (x_build (v := .agg (slF zSl).toArray) (hf.parts rfl) (fun w => by kernel_rfl) _) ?_; clear hf a; intro a hf
          replace hs := hs.take (A := cb b2 24 (slF zSl)) (by first | exact .k0 | exact .k1 | exact .k2 | exact .k3 | exact .k4 | exact .k5 | exact .k6 | exact .k7 | exact .k8 | exact .k9 | exact .k10 | exact .k11)
          refine s_do0 hf rfl (y_storeAgg (cs := slF zSl) hs (n := 7) (by kernel_rfl) (hf.eval rfl) (hf.eval rfl) (by simp [Value.oneCell', slF]) rfl rfl .k0 ?_); clear hf hs a; intro w hs a hf
          refine s_a hf rfl ?_; clear hf a; intro a hf
          refine s_nil ?_
          refine then_n ?_
          refine wp_ret ?_
          refine then_r ?_
          refine r_2c hf Tryd.results57 rfl rfl hs ag24 rfl .k0 ?_
          have hno : seOk l = false := by
            unfold seOk
            first
            | (rw [decide_eq_false (show ¬ 512 ≤ l.length by omega)]; simp; done)
            | (rw [dec_ne hg6_2]; simp; done)
            | (rw [decide_eq_false (show ¬ (sdS l).2.2.1 ≤ 16777216 by omega)]; simp; done)
            | (rw [decide_eq_false (show ¬ (sdS l).2.2.2.1 ≤ 16777216 by omega)]; simp; done)
            | (have h9 := fil_ge (old := (sdS l).2.2.1) (size := (sdS l).2.2.2.1) (length := (sdS l).2.2.2.2.2.1) (by omega) (by omega) (by omega); rw [decide_eq_false (show ¬ filZ (sdS l).2.2.1 (sdS l).2.2.2.1 (sdS l).2.2.2.2.2.1 = (l.length : Int) by omega)]; simp; done)
          rw [hno]
          exact ⟨_, rfl, fun h => (by cases h), hs.kept⟩
        · clear hf
          have hf := hf'
          clear hf'
          first | simp only [decide_eq_true_eq, decide_eq_false_iff_not, Bool.not_eq_true', Bool.not_eq_false'] at hg6_12 | skip
          refine s_do hf (wanted_of hf rfl rfl rfl) (.value (x_fieldAddr fo24_5 (hf.eval rfl) _) ?_); clear hf a; intro a hf
          refine s_do hf (wanted_of hf rfl rfl rfl) (.value (x_load sc3 (hf.eval rfl) (by first | exact hs.cell .k0 rfl | exact hs.cell .k1 rfl | exact hs.cell .k2 rfl | exact hs.cell .k3 rfl | exact hs.cell .k4 rfl | exact hs.cell .k5 rfl | exact hs.cell .k6 rfl | exact hs.cell .k7 rfl)) ?_); clear hf a; intro a hf
          refine s_do hf (wanted_of hf rfl rfl rfl) (.value (x_move (hf.eval rfl) _) ?_); clear hf a; intro a hf
          refine s_do hf (wanted_of hf rfl rfl rfl) (.value (x_bin (hf.eval rfl) (hf.eval rfl) (r_gt _ _ _ _) _) ?_); clear hf a; intro a hf
          refine s_v hf (x_pick_f (hf.eval rfl) (hf.eval rfl)) ?_; clear hf a; intro a hf
          refine s_m hf rfl ?_; clear hf a; intro a hf
          refine s_bool hf (k := 42) rfl (fun hg6_18 hf' => ?_) (fun hg6_18 hf' => ?_)
          · clear hf
            have hf := hf'
            clear hf'
            first | simp only [decide_eq_true_eq, decide_eq_false_iff_not, Bool.not_eq_true', Bool.not_eq_false'] at hg6_18 | skip
            refine s_pass hf rfl rfl ?_; clear hf a; intro a hf
            refine s_pass hf rfl rfl ?_; clear hf a; intro a hf
            refine s_pass hf rfl rfl ?_; clear hf a; intro a hf
            refine s_pass hf rfl rfl ?_; clear hf a; intro a hf
            refine s_pass hf rfl rfl ?_; clear hf a; intro a hf
            refine s_pass hf rfl rfl ?_; clear hf a; intro a hf
            refine s_pass hf rfl rfl ?_; clear hf a; intro a hf
            refine s_pass hf rfl rfl ?_; clear hf a; intro a hf
            refine s_pass hf rfl rfl ?_; clear hf a; intro a hf
            refine s_v hf (x_pick_t (hf.eval rfl) (hf.eval rfl)) ?_; clear hf a; intro a hf
            refine s_nil ?_
            refine then_n ?_
            refine c_cond_t hf rfl rfl ?_
            refine wp_seq ?_
            refine wp_region_lit ?_
            refine s_r hf (x_build (v := .agg (slF zSl).toArray) (hf.parts rfl) (fun w => by kernel_rfl) _) ?_; clear hf a; intro a hf
            replace hs := hs.take (A := cb b2 24 (slF zSl)) (by first | exact .k0 | exact .k1 | exact .k2 | exact .k3 | exact .k4 | exact .k5 | exact .k6 | exact .k7 | exact .k8 | exact .k9 | exact .k10 | exact .k11)
            refine s_do0 hf rfl (y_storeAgg (cs := slF zSl) hs (n := 7) (by kernel_rfl) (hf.eval rfl) (hf.eval rfl) (by simp [Value.oneCell', slF]) rfl rfl .k0 ?_); clear hf hs a; intro w hs a hf
            refine s_a hf rfl ?_; clear hf a; intro a hf
            refine s_nil ?_
            refine then_n ?_
            refine wp_ret ?_
            refine then_r ?_
            refine r_2c hf Tryd.results57 rfl rfl hs ag24 rfl .k0 ?_
            have hno : seOk l = false := by
              unfold seOk
              first
              | (rw [decide_eq_false (show ¬ 512 ≤ l.length by omega)]; simp; done)
              | (rw [dec_ne hg6_2]; simp; done)
              | (rw [decide_eq_false (show ¬ (sdS l).2.2.1 ≤ 16777216 by omega)]; simp; done)
              | (rw [decide_eq_false (show ¬ (sdS l).2.2.2.1 ≤ 16777216 by omega)]; simp; done)
              | (have h9 := fil_ge (old := (sdS l).2.2.1) (size := (sdS l).2.2.2.1) (length := (sdS l).2.2.2.2.2.1) (by omega) (by omega) (by omega); rw [decide_eq_false (show ¬ filZ (sdS l).2.2.1 (sdS l).2.2.2.1 (sdS l).2.2.2.2.2.1 = (l.length : Int) by omega)]; simp; done)
            rw [hno]
            exact ⟨_, rfl, fun h => (by cases h), hs.kept⟩
          · clear hf
            have hf := hf'
            clear hf'
            first | simp only [decide_eq_true_eq, decide_eq_false_iff_not, Bool.not_eq_true', Bool.not_eq_false'] at hg6_18 | skip
            refine s_do hf (wanted_of hf rfl rfl rfl) (.value (x_fieldAddr fo24_2 (hf.eval rfl) _) ?_); clear hf a; intro a hf
            refine s_do hf (wanted_of hf rfl rfl rfl) (.value (x_load sc3 (hf.eval rfl) (by first | exact hs.cell .k0 rfl | exact hs.cell .k1 rfl | exact hs.cell .k2 rfl | exact hs.cell .k3 rfl | exact hs.cell .k4 rfl | exact hs.cell .k5 rfl | exact hs.cell .k6 rfl | exact hs.cell .k7 rfl)) ?_); clear hf a; intro a hf
            refine s_do hf (wanted_of hf rfl rfl rfl) (.value (x_fieldAddr fo24_3 (hf.eval rfl) _) ?_); clear hf a; intro a hf
            refine s_do hf (wanted_of hf rfl rfl rfl) (.value (x_load sc3 (hf.eval rfl) (by first | exact hs.cell .k0 rfl | exact hs.cell .k1 rfl | exact hs.cell .k2 rfl | exact hs.cell .k3 rfl | exact hs.cell .k4 rfl | exact hs.cell .k5 rfl | exact hs.cell .k6 rfl | exact hs.cell .k7 rfl)) ?_); clear hf a; intro a hf
            refine s_do hf (wanted_of hf rfl rfl rfl) (.value (x_fieldAddr fo24_5 (hf.eval rfl) _) ?_); clear hf a; intro a hf
            refine s_do hf (wanted_of hf rfl rfl rfl) (.value (x_load sc3 (hf.eval rfl) (by first | exact hs.cell .k0 rfl | exact hs.cell .k1 rfl | exact hs.cell .k2 rfl | exact hs.cell .k3 rfl | exact hs.cell .k4 rfl | exact hs.cell .k5 rfl | exact hs.cell .k6 rfl | exact hs.cell .k7 rfl)) ?_); clear hf a; intro a hf
            refine s_do hf (wanted_of hf rfl rfl rfl) (y_call (hf.eval rfl) (hf.evals rfl) Tryd.call83 ((file_spec _ (sdS l).2.2.1 (sdS l).2.2.2.1 (sdS l).2.2.2.2.2.1 (by omega) (by omega) (by omega) (by omega) (by omega) (by omega)).mono ?_))
            rintro e w1 ⟨rfl, hk⟩
            replace hs := hs.ext hk
            refine ⟨_, rfl, ?_⟩; clear hf a; intro a hf
            refine s_do hf (wanted_of hf rfl rfl rfl) (.value (x_move (hf.eval rfl) _) ?_); clear hf a; intro a hf
            refine s_do hf (wanted_of hf rfl rfl rfl) (.value (x_bin (hf.eval rfl) (hf.eval rfl) (r_ne _ _ _ _) _) ?_); clear hf a; intro a hf
            refine s_v hf (x_pick_f (hf.eval rfl) (hf.eval rfl)) ?_; clear hf a; intro a hf
            refine s_nil ?_
            refine then_n ?_
            refine c_cond hf rfl (fun hi1 => ?_) (fun hi1 => ?_)
            · first | simp only [decide_eq_true_eq, decide_eq_false_iff_not, Bool.not_eq_true', Bool.not_eq_false'] at hi1 | skip
              refine wp_seq ?_
              refine wp_region_lit ?_
              refine s_r hf (x_build (v := .agg (slF zSl).toArray) (hf.parts rfl) (fun w => by kernel_rfl) _) ?_; clear hf a; intro a hf
              replace hs := hs.take (A := cb b2 24 (slF zSl)) (by first | exact .k0 | exact .k1 | exact .k2 | exact .k3 | exact .k4 | exact .k5 | exact .k6 | exact .k7 | exact .k8 | exact .k9 | exact .k10 | exact .k11)
              refine s_do0 hf rfl (y_storeAgg (cs := slF zSl) hs (n := 7) (by kernel_rfl) (hf.eval rfl) (hf.eval rfl) (by simp [Value.oneCell', slF]) rfl rfl .k0 ?_); clear hf hs a; intro w hs a hf
              refine s_a hf rfl ?_; clear hf a; intro a hf
              refine s_nil ?_
              refine then_n ?_
              refine wp_ret ?_
              refine then_r ?_
              refine r_2c hf Tryd.results57 rfl rfl hs ag24 rfl .k0 ?_
              have hno : seOk l = false := by
                unfold seOk
                first
                | (rw [decide_eq_false (show ¬ 512 ≤ l.length by omega)]; simp; done)
                | (rw [dec_ne hg6_2]; simp; done)
                | (rw [decide_eq_false (show ¬ (sdS l).2.2.1 ≤ 16777216 by omega)]; simp; done)
                | (rw [decide_eq_false (show ¬ (sdS l).2.2.2.1 ≤ 16777216 by omega)]; simp; done)
                | (have h9 := fil_ge (old := (sdS l).2.2.1) (size := (sdS l).2.2.2.1) (length := (sdS l).2.2.2.2.2.1) (by omega) (by omega) (by omega); rw [decide_eq_false (show ¬ filZ (sdS l).2.2.1 (sdS l).2.2.2.1 (sdS l).2.2.2.2.2.1 = (l.length : Int) by omega)]; simp; done)
              rw [hno]
              exact ⟨_, rfl, fun h => (by cases h), hs.kept⟩
            · first | simp only [decide_eq_true_eq, decide_eq_false_iff_not, Bool.not_eq_true', Bool.not_eq_false'] at hi1 | skip
              refine wp_skip ?_
              refine then_n ?_
              refine wp_seq ?_
              replace hs := hs.take (A := cb b6 24 (slF (sdS l))) (by first | exact .k0 | exact .k1 | exact .k2 | exact .k3 | exact .k4 | exact .k5 | exact .k6 | exact .k7 | exact .k8 | exact .k9 | exact .k10 | exact .k11)
              refine c_draw hs (fun w' => ∀ (j : Nat) (v : Value), (slF (sdS l))[j]? = some v → w'.cell? ((⟨b6, 0, none⟩ : Addr).add j) = some v) [.held, .held, .held, .held, .held, .eff, .held, .held, .held, .held, .held, .eff, .held] (by kernel_rfl) (by kernel_rfl) (fun _ _ hs => cells_of hs .k0) ?_
              clear hs; intro w hs hC hw
              refine m_held hf rfl (fun w' hc => x_loadAgg ag24 (hf.eval rfl) (vs := slF (sdS l)) rfl hc) ?_; clear hf a; intro a hf
              refine m_held hf rfl (fun w' _ => x_move (hf.eval rfl) w') ?_; clear hf a; intro a hf
              refine m_held hf rfl (fun w' _ => x_move (hf.eval rfl) w') ?_; clear hf a; intro a hf
              refine m_held hf rfl (fun w' _ => x_bin (hf.eval rfl) (hf.eval rfl) (r_addi _ (by omega) (by omega)) w') ?_; clear hf a; intro a hf
              refine m_held hf rfl (fun w' _ => x_slice_lo sl25 (hf.eval rfl) (hf.eval rfl)  (by omega) (by omega) w') ?_; clear hf a; intro a hf
              replace hf := hf.now (k := 58) (v' := .slice (subA a1 c1 ((seAt l.length) + 512) 1) (l.drop ((seAt l.length) + 512)).length (c1 - ((seAt l.length) + 512))) rfl (by rw [List.length_drop]; congr 1 <;> omega)
              refine m_eff hf rfl (y_call (hf.eval rfl) (hf.evals rfl) Tryd.call33 ((rtail_spec _ _ _ (l.drop ((seAt l.length) + 512)) (hs.oldB (tl_rd hr1 hsa)) (by rw [List.length_drop]; omega)).mono ?_))
              rintro e w1 ⟨rfl, hk⟩
              replace hs := hs.ext hk
              refine ⟨_, rfl, ⟨cells_of hs .k0, ?_⟩⟩; clear hf a; intro a hf
              refine m_held hf rfl (fun w' _ => x_move (hf.eval rfl) w') ?_; clear hf a; intro a hf
              refine m_held hf rfl (fun w' _ => x_move (hf.eval rfl) w') ?_; clear hf a; intro a hf
              refine m_held hf rfl (fun w' _ => x_bin (hf.eval rfl) (hf.eval rfl) (r_subi _ (by omega) (by omega)) w') ?_; clear hf a; intro a hf
              refine m_held hf rfl (fun w' _ => x_bin (hf.eval rfl) (hf.eval rfl) (r_subi _ (by omega) (by omega)) w') ?_; clear hf a; intro a hf
              refine m_held hf rfl (fun w' _ => x_bin (hf.eval rfl) (hf.eval rfl) (r_eq _ _ _ _) w') ?_; clear hf a; intro a hf
              replace hs := hs.take (A := cb b2 24 (slF zSl)) (by first | exact .k0 | exact .k1 | exact .k2 | exact .k3 | exact .k4 | exact .k5 | exact .k6 | exact .k7 | exact .k8 | exact .k9 | exact .k10 | exact .k11)
              refine m_eff0 hf rfl (y_storeAgg (cs := slF (sdS l)) hs (n := 7) (by kernel_rfl) (hf.eval rfl) (hf.eval rfl) (by simp [Value.oneCell', slF]) rfl rfl .k0 ?_); clear hf hs a; intro w hs; refine ⟨cells_of hs .k1, ?_⟩; intro a hf
              refine m_held hf rfl (fun w' _ => x_assign (hf.eval rfl) w') ?_; clear hf a; intro a hf
              refine m_nil ?_
              refine then_n ?_
              refine wp_ret ?_
              refine r_2c hf Tryd.results57 rfl rfl hs ag24 rfl .k0 ?_
              have hyes : seOk l = decide ((zt (l.drop ((seAt l.length) + 512)) : Int) = (l.length : Int) - ((seAt l.length) : Int) - 512) := by unfold seOk; rw [decide_eq_true hn5, hdk, decide_eq_true (show (sdS l).2.2.1 ≤ 16777216 by omega), decide_eq_true (show (sdS l).2.2.2.1 ≤ 16777216 by omega), decide_eq_true (show filZ (sdS l).2.2.1 (sdS l).2.2.2.1 (sdS l).2.2.2.2.2.1 = (l.length : Int) by omega)]; simp only [Bool.true_and]
              rw [hyes]
              exact ⟨sdS l, rfl, fun _ => rfl, hs.kept⟩
end Go.Proofs.YtehakfbfjpolfaaDoor

namespace Go.Proofs.YtehakfbfjpolfaaDoor
open Go Vw
theorem rclone14_spec (w0 : World) (a1 : Option Addr) (c1 : Nat) (l : List UInt8) (hr1 : RdB (hp w0) (.slice a1 l.length c1) l) (hl1 : l.length ≤ 16777216) : Calls Tryd.prog 56 #[.slice a1 l.length c1] w0 fun e w' => ∃ a c, e = .returned (.slice a l.length c) ∧ St ⟨w0, None_⟩ w' [slB 5 (.slice a l.length c) l] := by
  have hs := (St.start w0 None_).emp (slB_nil 5)
  refine c_enter (N := 8) Tryd.func56 rfl Tryd.ntmps56 (by simp) ?_
  intro a hf
  refine wp_seq ?_
  refine wp_region_lit ?_
  refine s_a hf rfl ?_; clear hf a; intro a hf
  refine s_nil ?_
  refine then_n ?_
  refine wp_seq ?_
  refine wp_region_lit ?_
  refine s_a hf rfl ?_; clear hf a; intro a hf
  refine s_nil ?_
  refine then_n ?_
  refine wp_seq ?_
  refine wp_region_lit ?_
  refine s_m hf rfl ?_; clear hf a; intro a hf
  refine s_m hf rfl ?_; clear hf a; intro a hf
  refine s_do hf rfl (y_appendB (s := l) hs sl25 rfl (hf.eval rfl) (hf.eval rfl) .k0 (hs.oldB hr1) (by simp; omega) ?_); clear hf hs a; intro v2 w hs hv a hf
  simp only [List.nil_append] at hs
  obtain ⟨a2, c2, rfl, hc2⟩ := slB_shape hs
  refine s_a hf rfl ?_; clear hf a; intro a hf
  refine s_nil ?_
  refine then_n ?_
  refine wp_seq ?_
  refine wp_region_lit ?_
  refine s_m hf rfl ?_; clear hf a; intro a hf
  refine s_a hf rfl ?_; clear hf a; intro a hf
  refine s_nil ?_
  refine then_n ?_
  refine wp_ret ?_
  refine r_1 hf Tryd.results56 rfl ?_
  exact ⟨_, _, rfl, hs⟩
theorem tk_rd {h : Heaplet} {a : Option Addr} {c k : Nat} {l : List UInt8} (hr : RdB h (.slice a l.length c) l) (hk : k ≤ l.length) : RdB h (.slice a (l.take k).length c) (l.take k) := by
  have h1 := pre_rd hr hk
  rwa [show (l.take k).length = k by rw [List.length_take]; omega]
theorem sub_rd {h : Heaplet} {a : Option Addr} {c i k : Nat} {l : List UInt8} (hr : RdB h (.slice a l.length c) l) (hk : i + k ≤ l.length) : RdB h (.slice (subA a c i 1) ((l.drop i).take k).length (c - i)) ((l.drop i).take k) := by
  have h1 := RdB.sub (i := i) (j := i + k) hr rfl (by omega) hk
  rw [show i + k - i = k by omega] at h1
  rwa [show ((l.drop i).take k).length = k by rw [List.length_take, List.length_drop]; omega]
theorem slice_eq {a a2 : Option Addr} {n n2 c c2 : Nat} (h1 : a = a2) (h2 : n = n2) (h3 : c = c2) : Value.slice a n c = Value.slice a2 n2 c2 := by rw [h1, h2, h3]
theorem int_succ (k j : Nat) : Value.int .i64 (((k + j : Nat) : Int) + 1) = .int .i64 ((k + (j + 1) : Nat) : Int) := rfl
theorem putPs0 (x : List UInt8) (s : Sl) (b : List UInt8) : putPs x (bkL s b 0) = x := rfl
theorem totB0 (o : Int) (b : List UInt8) : totB o b 0 = 0 := rfl
theorem tkl {l : List UInt8} {k : Nat} (hk : k ≤ l.length) : (l.take k).length = k := by rw [List.length_take]; omega
theorem data_at {body : List UInt8} {i n j : Nat} (h : i + n ≤ body.length) (hj : j < n) : j < ((body.drop i).take n).length ∧ ∃ h2 : i + j < body.length, ∀ h3, ((body.drop i).take n)[j]'h3 = body[i + j] := by
  refine ⟨by rw [List.length_take, List.length_drop]; omega, by omega, fun h3 => ?_⟩
  rw [List.getElem_take, List.getElem_drop]
theorem spL_at {body : List UInt8} {N i : Nat} (h : i < N) : ∃ h2 : i < (spL body N).length, (spL body N)[i] = ((spA body i : Int), ((spA body i + spN body i : Nat) : Int)) := by
  refine ⟨by unfold spL; simpa using h, ?_⟩
  unfold spL
  rw [List.getElem_map, List.getElem_range]
attribute [local irreducible] Vw.sl Vw.sdS Vw.bodyS Vw.zt Vw.spA Vw.spN Vw.totB Vw.bkL Vw.putPs Vw.putP Vw.upZ Vw.seOk Vw.bkOk Vw.spL
set_option maxHeartbeats 1600000
theorem rlook_spec (w0 : World) (a1 : Option Addr) (c1 : Nat) (l : List UInt8) (hr1 : RdB (hp w0) (.slice a1 l.length c1) l) (hl1 : l.length ≤ 16777216) : Calls Tryd.prog 21 #[.slice a1 l.length c1] w0 fun e w' => ∃ a c, e = .returned (.tuple #[.agg (vdF (lkV l).1).toArray, .slice a (lkV l).2.length c]) ∧ St ⟨w0, None_⟩ w' [slB 5 (.slice a (lkV l).2.length c) (lkV l).2] := by
  have hs := St.start w0 None_
  have hcp := RdB.cap hr1
  have hzl := zt_le l
  refine c_enter (N := 138) Tryd.func21 rfl Tryd.ntmps21 (by simp) ?_
  intro a hf
  refine wp_seq ?_
  refine wp_region_lit ?_
  refine s_do hf rfl (y_alloc hs Tryd.zeroValue45 ?_); clear hf hs a; intro b2 w hs a hf
  change St _ _ (cb b2 45 (vdF (0, 0, 0)) :: _) at hs
  refine s_a hf rfl ?_; clear hf a; intro a hf
  refine s_nil ?_
  refine then_n ?_
  refine wp_seq ?_
  refine wp_region_lit ?_
  refine s_m hf rfl ?_; clear hf a; intro a hf
  refine s_v hf (x_len Tryd.underlying25 (hf.eval rfl)) ?_; clear hf a; intro a hf
  refine s_a hf rfl ?_; clear hf a; intro a hf
  refine s_nil ?_
  refine then_n ?_
  refine wp_seq ?_
  refine wp_region_lit ?_
  refine s_m hf rfl ?_; clear hf a; intro a hf
  refine s_do hf rfl (y_call (hf.eval rfl) (hf.evals rfl) Tryd.call33 ((rtail_spec _ _ _ l (hs.oldB hr1) (by omega)).mono ?_))
  rintro e w1 ⟨rfl, hk⟩
  replace hs := hs.ext hk
  refine ⟨_, rfl, ?_⟩; clear hf a; intro a hf
  refine s_a hf rfl ?_; clear hf a; intro a hf
  refine s_nil ?_
  refine then_n ?_
  refine wp_seq ?_
  refine wp_seq ?_
  refine wp_region_lit ?_
  refine s_m hf rfl ?_; clear hf a; intro a hf
  refine s_v hf (x_bin (hf.eval rfl) (hf.eval rfl) (r_ge _ _ _ _)) ?_; clear hf a; intro a hf
  refine s_nil ?_
  refine then_n ?_
  refine c_cond hf rfl (fun hi0 => ?_) (fun hi0 => ?_)
  · first | simp only [decide_eq_true_eq, decide_eq_false_iff_not, Bool.not_eq_true', Bool.not_eq_false'] at hi0 | skip
    have hsz : zt l / 1024 * 1024 ≤ l.length := by omega
    refine wp_seq ?_
    refine wp_region_lit ?_
    refine s_m hf rfl ?_; clear hf a; intro a hf
    refine s_m hf rfl ?_; clear hf a; intro a hf
    refine s_v hf (x_bin (hf.eval rfl) (hf.eval rfl) (r_quon _ (Int.natCast_nonneg _) (by decide) (by omega))) ?_; clear hf a; intro a hf
    replace hf := hf.now (k := 25) (v' := .int .i64 ((zt l / 1024 : Nat) : Int)) rfl (by congr 1)
    refine s_v hf (x_bin (hf.eval rfl) (hf.eval rfl) (r_muli _ (by omega) (by omega))) ?_; clear hf a; intro a hf
    refine s_v hf (x_bin (hf.eval rfl) (hf.eval rfl) (r_subi _ (by omega) (by omega))) ?_; clear hf a; intro a hf
    replace hf := hf.now (k := 27) (v' := .int .i64 (((l.length - zt l / 1024 * 1024) : Nat) : Int)) rfl (by congr 1 <;> omega)
    refine s_a hf rfl ?_; clear hf a; intro a hf
    refine s_nil ?_
    refine then_n ?_
    refine wp_seq ?_
    refine wp_region_lit ?_
    refine s_m hf rfl ?_; clear hf a; intro a hf
    refine s_r hf (x_build (v := .agg (vdF (1, 0, (((l.length - zt l / 1024 * 1024) : Nat) : Int))).toArray) (hf.parts rfl) (fun w => by kernel_rfl) _) ?_; clear hf a; intro a hf
    refine s_m hf rfl ?_; clear hf a; intro a hf
    refine s_m hf rfl ?_; clear hf a; intro a hf
    refine s_v hf (x_slice_hi sl25 (hf.eval rfl) (hf.eval rfl)  (by omega) (by omega)) ?_; clear hf a; intro a hf
    replace hf := hf.now (k := 32) (v' := .slice a1 (l.take (l.length - zt l / 1024 * 1024)).length c1) rfl (by rw [tkl (by omega)] <;> exact slice_eq rfl (by omega) rfl)
    refine s_do hf rfl (y_call (hf.eval rfl) (hf.evals rfl) Tryd.call56 ((rclone14_spec _ a1 c1 (l.take (l.length - zt l / 1024 * 1024)) (hs.oldB (tk_rd hr1 (by omega))) (by rw [tkl (by omega)]; omega)).mono ?_))
    rintro e w1 ⟨g0, cg0, rfl, hj⟩
    replace hs := hs.join hj
    simp only [List.cons_append, List.nil_append] at hs
    refine ⟨_, rfl, ?_⟩; clear hf a; intro a hf
    replace hs := hs.take (A := cb b2 45 (vdF (0, 0, 0))) (by first | exact .k0 | exact .k1 | exact .k2 | exact .k3 | exact .k4 | exact .k5 | exact .k6 | exact .k7 | exact .k8 | exact .k9 | exact .k10 | exact .k11)
    refine s_do0 hf rfl (y_storeAgg (cs := vdF (1, 0, (((l.length - zt l / 1024 * 1024) : Nat) : Int))) hs (n := 3) (by kernel_rfl) (hf.eval rfl) (hf.eval rfl) (by simp [Value.oneCell', vdF]) rfl rfl .k0 ?_); clear hf hs a; intro w hs a hf
    refine s_a hf rfl ?_; clear hf a; intro a hf
    refine s_nil ?_
    refine then_n ?_
    refine wp_ret ?_
    refine then_r ?_
    refine r_2c hf Tryd.results21 rfl rfl hs ag45 rfl (by first | exact .k0 | exact .k1 | exact .k2 | exact .k3 | exact .k4 | exact .k5 | exact .k6 | exact .k7 | exact .k8 | exact .k9) ?_
    have hv : lkV l = ((1, 0, (((l.length - zt l / 1024 * 1024) : Nat) : Int)), l.take (l.length - zt l / 1024 * 1024)) := by unfold lkV; rw [if_pos (by omega)]
    rw [hv]
    replace hs := hs.take (A := slB 5 (.slice g0 (l.take (l.length - zt l / 1024 * 1024)).length cg0) (l.take (l.length - zt l / 1024 * 1024))) (by first | exact .k0 | exact .k1 | exact .k2 | exact .k3 | exact .k4 | exact .k5 | exact .k6 | exact .k7 | exact .k8 | exact .k9)
    exact ⟨_, _, rfl, St.keep [_] _ hs⟩
  · first | simp only [decide_eq_true_eq, decide_eq_false_iff_not, Bool.not_eq_true', Bool.not_eq_false'] at hi0 | skip
    refine wp_skip ?_
    refine then_n ?_
    refine wp_seq ?_
    refine wp_region_lit ?_
    refine s_m hf rfl ?_; clear hf a; intro a hf
    refine s_r hf (x_build (v := .agg (vdF (0, 0, (l.length : Int))).toArray) (hf.parts rfl) (fun w => by kernel_rfl) _) ?_; clear hf a; intro a hf
    refine s_do hf rfl (y_alloc hs Tryd.zeroValue45 ?_); clear hf hs a; intro b7 w hs a hf
    change St _ _ (cb b7 45 (vdF (0, 0, 0)) :: _) at hs
    refine s_do0 hf rfl (y_storeAgg (cs := vdF (0, 0, (l.length : Int))) hs (n := 3) (by kernel_rfl) (hf.eval rfl) (hf.eval rfl) (by simp [Value.oneCell', vdF]) rfl rfl .k0 ?_); clear hf hs a; intro w hs a hf
    refine s_nil ?_
    refine then_n ?_
    refine wp_seq ?_
    refine wp_region_lit ?_
    refine s_m hf rfl ?_; clear hf a; intro a hf
    refine s_do hf rfl (y_call (hf.eval rfl) (hf.evals rfl) Tryd.call57 ((rsealed_spec _ _ _ l (hs.oldB hr1) hl1).mono ?_))
    rintro e w1 ⟨sv, rfl, hsv, hk⟩
    replace hs := hs.ext hk
    refine ⟨_, rfl, ?_⟩; clear hf a; intro a hf
    refine s_m hf rfl ?_; clear hf a; intro a hf
    refine s_v hf (x_extract (hf.eval rfl) rfl) ?_; clear hf a; intro a hf
    refine s_v hf (x_extract (hf.eval rfl) rfl) ?_; clear hf a; intro a hf
    refine s_do hf rfl (y_alloc hs Tryd.zeroValue24 ?_); clear hf hs a; intro b8 w hs a hf
    change St _ _ (cb b8 24 (slF zSl) :: _) at hs
    refine s_do0 hf rfl (y_storeAgg (cs := slF sv) hs (n := 7) (by kernel_rfl) (hf.eval rfl) (hf.eval rfl) (by simp [Value.oneCell', slF]) rfl rfl .k0 ?_); clear hf hs a; intro w hs a hf
    refine s_a hf rfl ?_; clear hf a; intro a hf
    refine s_nil ?_
    refine then_n ?_
    refine wp_seq ?_
    refine wp_seq ?_
    refine wp_region_lit ?_
    refine s_m hf rfl ?_; clear hf a; intro a hf
    refine s_v hf (x_not (hf.eval rfl)) ?_; clear hf a; intro a hf
    refine s_nil ?_
    refine then_n ?_
    refine c_cond hf rfl (fun hi1 => ?_) (fun hi1 => ?_)
    · first | simp only [decide_eq_true_eq, decide_eq_false_iff_not, Bool.not_eq_true', Bool.not_eq_false'] at hi1 | skip
      refine wp_seq ?_
      replace hs := hs.take (A := cb b7 45 (vdF (0, 0, (l.length : Int)))) (by first | exact .k0 | exact .k1 | exact .k2 | exact .k3 | exact .k4 | exact .k5 | exact .k6 | exact .k7 | exact .k8 | exact .k9 | exact .k10 | exact .k11)
      refine c_draw hs (fun w' => ∀ (j : Nat) (v : Value), (vdF (0, 0, (l.length : Int)))[j]? = some v → w'.cell? ((⟨b7, 0, none⟩ : Addr).add j) = some v) [.held, .held, .eff, .eff, .held] (by kernel_rfl) (by kernel_rfl) (fun _ _ hs => cells_of hs (by first | exact .k0 | exact .k1 | exact .k2 | exact .k3 | exact .k4 | exact .k5 | exact .k6 | exact .k7)) ?_
      clear hs; intro w hs hC hw
      refine m_held hf rfl (fun w' hc => x_loadAgg ag45 (hf.eval rfl) (vs := vdF (0, 0, (l.length : Int))) rfl hc) ?_; clear hf a; intro a hf
      refine m_held hf rfl (fun w' _ => x_move (hf.eval rfl) w') ?_; clear hf a; intro a hf
      refine m_eff hf rfl (y_call (hf.eval rfl) (hf.evals rfl) Tryd.call56 ((rclone14_spec _ a1 c1 l (hs.oldB hr1) hl1).mono ?_))
      rintro e w1 ⟨g9, cg9, rfl, hj⟩
      replace hs := hs.join hj
      simp only [List.cons_append, List.nil_append] at hs
      refine ⟨_, rfl, ⟨cells_of hs (by first | exact .k0 | exact .k1 | exact .k2 | exact .k3 | exact .k4 | exact .k5 | exact .k6 | exact .k7 | exact .k8 | exact .k9), ?_⟩⟩; clear hf a; intro a hf
      replace hs := hs.take (A := cb b2 45 (vdF (0, 0, 0))) (by first | exact .k0 | exact .k1 | exact .k2 | exact .k3 | exact .k4 | exact .k5 | exact .k6 | exact .k7 | exact .k8 | exact .k9 | exact .k10 | exact .k11)
      refine m_eff0 hf rfl (y_storeAgg (cs := vdF (0, 0, (l.length : Int))) hs (n := 3) (by kernel_rfl) (hf.eval rfl) (hf.eval rfl) (by simp [Value.oneCell', vdF]) rfl rfl .k0 ?_); clear hf hs a; intro w hs; refine ⟨cells_of hs (by first | exact .k0 | exact .k1 | exact .k2 | exact .k3 | exact .k4 | exact .k5 | exact .k6 | exact .k7 | exact .k8 | exact .k9), ?_⟩; intro a hf
      refine m_held hf rfl (fun w' _ => x_assign (hf.eval rfl) w') ?_; clear hf a; intro a hf
      refine m_nil ?_
      refine then_n ?_
      refine wp_ret ?_
      refine then_r ?_
      refine r_2c hf Tryd.results21 rfl rfl hs ag45 rfl (by first | exact .k0 | exact .k1 | exact .k2 | exact .k3 | exact .k4 | exact .k5 | exact .k6 | exact .k7 | exact .k8 | exact .k9) ?_
      have hv : lkV l = ((0, 0, (l.length : Int)), l) := by unfold lkV; rw [if_neg (by omega), if_pos hi1]
      rw [hv]
      replace hs := hs.take (A := slB 5 (.slice g9 (l).length cg9) (l)) (by first | exact .k0 | exact .k1 | exact .k2 | exact .k3 | exact .k4 | exact .k5 | exact .k6 | exact .k7 | exact .k8 | exact .k9)
      exact ⟨_, _, rfl, St.keep [_] _ hs⟩
    · first | simp only [decide_eq_true_eq, decide_eq_false_iff_not, Bool.not_eq_true', Bool.not_eq_false'] at hi1 | skip
      obtain rfl := hsv hi1
      have hg := seGood hi1
      obtain ⟨g1, g2, g3, g4, g5⟩ := hg.flds
      have gs := hg.st
      have gu := hg.sum
      have gb := hg.body
      refine wp_skip ?_
      refine then_n ?_
      refine wp_seq ?_
      refine wp_seq ?_
      refine wp_region_lit ?_
      refine s_v hf (x_fieldAddr fo24_0 (hf.eval rfl)) ?_; clear hf a; intro a hf
      refine s_r hf (x_load sc3 (hf.eval rfl) (by first | exact hs.cell .k0 rfl | exact hs.cell .k1 rfl | exact hs.cell .k2 rfl | exact hs.cell .k3 rfl | exact hs.cell .k4 rfl | exact hs.cell .k5 rfl | exact hs.cell .k6 rfl | exact hs.cell .k7 rfl | exact hs.cell .k8 rfl | exact hs.cell .k9 rfl)) ?_; clear hf a; intro a hf
      refine s_nil ?_
      refine then_n ?_
      refine wp_block ?_
      refine wp_seq ?_
      refine wp_region_lit ?_
      refine s_v hf (x_bin (hf.eval rfl) (hf.eval rfl) (r_eq _ _ _ _)) ?_; clear hf a; intro a hf
      refine s_a hf rfl ?_; clear hf a; intro a hf
      refine s_nil ?_
      refine then_n ?_
      refine c_cond hf rfl (fun hi2 => ?_) (fun hi2 => ?_)
      · first | simp only [decide_eq_true_eq, decide_eq_false_iff_not, Bool.not_eq_true', Bool.not_eq_false'] at hi2 | skip
        refine wp_seq ?_
        replace hs := hs.take (A := cb b8 24 (slF (sdS l))) (by first | exact .k0 | exact .k1 | exact .k2 | exact .k3 | exact .k4 | exact .k5 | exact .k6 | exact .k7 | exact .k8 | exact .k9 | exact .k10 | exact .k11)
        refine c_draw hs (fun w' => ∀ (j : Nat) (v : Value), (slF (sdS l))[j]? = some v → w'.cell? ((⟨b8, 0, none⟩ : Addr).add j) = some v) [.held, .held, .held, .held, .held, .held, .held, .held, .held, .eff, .eff, .held] (by kernel_rfl) (by kernel_rfl) (fun _ _ hs => cells_of hs (by first | exact .k0 | exact .k1 | exact .k2 | exact .k3 | exact .k4 | exact .k5 | exact .k6 | exact .k7)) ?_
        clear hs; intro w hs hC hw
        refine m_held hf rfl (fun w' _ => x_fieldAddr fo24_1 (hf.eval rfl) w') ?_; clear hf a; intro a hf
        refine m_held hf rfl (fun w' hc => x_load sc3 (hf.eval rfl) (hc 1 _ rfl)) ?_; clear hf a; intro a hf
        refine m_held hf rfl (fun w' _ => x_fieldAddr fo24_2 (hf.eval rfl) w') ?_; clear hf a; intro a hf
        refine m_held hf rfl (fun w' hc => x_load sc3 (hf.eval rfl) (hc 2 _ rfl)) ?_; clear hf a; intro a hf
        refine m_held hf rfl (fun w' hc => x_build (v := .agg (vdF (2, (sdS l).2.1, (sdS l).2.2.1)).toArray) (hf.parts rfl) (fun w => by kernel_rfl) _) ?_; clear hf a; intro a hf
        refine m_held hf rfl (fun w' _ => x_move (hf.eval rfl) w') ?_; clear hf a; intro a hf
        refine m_held hf rfl (fun w' _ => x_fieldAddr fo24_2 (hf.eval rfl) w') ?_; clear hf a; intro a hf
        refine m_held hf rfl (fun w' hc => x_load sc3 (hf.eval rfl) (hc 2 _ rfl)) ?_; clear hf a; intro a hf
        refine m_held hf rfl (fun w' _ => x_slice_hi sl25 (hf.eval rfl) (hf.eval rfl)  (by omega) (by omega) w') ?_; clear hf a; intro a hf
        replace hf := hf.now (k := 58) (v' := .slice a1 (l.take (sdS l).2.2.1.toNat).length c1) rfl (by rw [tkl (by omega)] <;> exact slice_eq rfl (by omega) rfl)
        refine m_eff hf rfl (y_call (hf.eval rfl) (hf.evals rfl) Tryd.call56 ((rclone14_spec _ a1 c1 (l.take (sdS l).2.2.1.toNat) (hs.oldB (tk_rd hr1 (by omega))) (by rw [tkl (by omega)]; omega)).mono ?_))
        rintro e w1 ⟨g2, cg2, rfl, hj⟩
        replace hs := hs.join hj
        simp only [List.cons_append, List.nil_append] at hs
        refine ⟨_, rfl, ⟨cells_of hs (by first | exact .k0 | exact .k1 | exact .k2 | exact .k3 | exact .k4 | exact .k5 | exact .k6 | exact .k7 | exact .k8 | exact .k9), ?_⟩⟩; clear hf a; intro a hf
        replace hs := hs.take (A := cb b2 45 (vdF (0, 0, 0))) (by first | exact .k0 | exact .k1 | exact .k2 | exact .k3 | exact .k4 | exact .k5 | exact .k6 | exact .k7 | exact .k8 | exact .k9 | exact .k10 | exact .k11)
        refine m_eff0 hf rfl (y_storeAgg (cs := vdF (2, (sdS l).2.1, (sdS l).2.2.1)) hs (n := 3) (by kernel_rfl) (hf.eval rfl) (hf.eval rfl) (by simp [Value.oneCell', vdF]) rfl rfl .k0 ?_); clear hf hs a; intro w hs; refine ⟨cells_of hs (by first | exact .k0 | exact .k1 | exact .k2 | exact .k3 | exact .k4 | exact .k5 | exact .k6 | exact .k7 | exact .k8 | exact .k9), ?_⟩; intro a hf
        refine m_held hf rfl (fun w' _ => x_assign (hf.eval rfl) w') ?_; clear hf a; intro a hf
        refine m_nil ?_
        refine then_n ?_
        refine wp_ret ?_
        refine blk_r (then_r ?_)
        refine r_2c hf Tryd.results21 rfl rfl hs ag45 rfl (by first | exact .k0 | exact .k1 | exact .k2 | exact .k3 | exact .k4 | exact .k5 | exact .k6 | exact .k7 | exact .k8 | exact .k9) ?_
        have hv : lkV l = ((2, (sdS l).2.1, (sdS l).2.2.1), l.take (sdS l).2.2.1.toNat) := by unfold lkV; rw [if_neg (show ¬ 1024 ≤ zt l by omega), if_neg (by rw [hi1]; simp), if_pos hi2]
        rw [hv]
        replace hs := hs.take (A := slB 5 (.slice g2 (l.take (sdS l).2.2.1.toNat).length cg2) (l.take (sdS l).2.2.1.toNat)) (by first | exact .k0 | exact .k1 | exact .k2 | exact .k3 | exact .k4 | exact .k5 | exact .k6 | exact .k7 | exact .k8 | exact .k9)
        exact ⟨_, _, rfl, St.keep [_] _ hs⟩
      · first | simp only [decide_eq_true_eq, decide_eq_false_iff_not, Bool.not_eq_true', Bool.not_eq_false'] at hi2 | skip
        refine wp_seq ?_
        refine wp_region_lit ?_
        refine s_v hf (x_bin (hf.eval rfl) (hf.eval rfl) (r_eq _ _ _ _)) ?_; clear hf a; intro a hf
        refine s_a hf rfl ?_; clear hf a; intro a hf
        refine s_nil ?_
        refine then_n ?_
        refine c_cond hf rfl (fun hi3 => ?_) (fun hi3 => ?_)
        · first | simp only [decide_eq_true_eq, decide_eq_false_iff_not, Bool.not_eq_true', Bool.not_eq_false'] at hi3 | skip
          refine wp_seq ?_
          replace hs := hs.take (A := cb b8 24 (slF (sdS l))) (by first | exact .k0 | exact .k1 | exact .k2 | exact .k3 | exact .k4 | exact .k5 | exact .k6 | exact .k7 | exact .k8 | exact .k9 | exact .k10 | exact .k11)
          refine c_draw hs (fun w' => ∀ (j : Nat) (v : Value), (slF (sdS l))[j]? = some v → w'.cell? ((⟨b8, 0, none⟩ : Addr).add j) = some v) [.held, .held, .held, .held, .held, .held, .held, .held, .held, .eff, .eff, .held] (by kernel_rfl) (by kernel_rfl) (fun _ _ hs => cells_of hs (by first | exact .k0 | exact .k1 | exact .k2 | exact .k3 | exact .k4 | exact .k5 | exact .k6 | exact .k7)) ?_
          clear hs; intro w hs hC hw
          refine m_held hf rfl (fun w' _ => x_fieldAddr fo24_1 (hf.eval rfl) w') ?_; clear hf a; intro a hf
          refine m_held hf rfl (fun w' hc => x_load sc3 (hf.eval rfl) (hc 1 _ rfl)) ?_; clear hf a; intro a hf
          refine m_held hf rfl (fun w' _ => x_fieldAddr fo24_3 (hf.eval rfl) w') ?_; clear hf a; intro a hf
          refine m_held hf rfl (fun w' hc => x_load sc3 (hf.eval rfl) (hc 3 _ rfl)) ?_; clear hf a; intro a hf
          refine m_held hf rfl (fun w' hc => x_build (v := .agg (vdF (4, (sdS l).2.1, (sdS l).2.2.2.1)).toArray) (hf.parts rfl) (fun w => by kernel_rfl) _) ?_; clear hf a; intro a hf
          refine m_held hf rfl (fun w' _ => x_move (hf.eval rfl) w') ?_; clear hf a; intro a hf
          refine m_held hf rfl (fun w' _ => x_fieldAddr fo24_3 (hf.eval rfl) w') ?_; clear hf a; intro a hf
          refine m_held hf rfl (fun w' hc => x_load sc3 (hf.eval rfl) (hc 3 _ rfl)) ?_; clear hf a; intro a hf
          refine m_held hf rfl (fun w' _ => x_slice_hi sl25 (hf.eval rfl) (hf.eval rfl)  (by omega) (by omega) w') ?_; clear hf a; intro a hf
          replace hf := hf.now (k := 70) (v' := .slice a1 (l.take (sdS l).2.2.2.1.toNat).length c1) rfl (by rw [tkl (by omega)] <;> exact slice_eq rfl (by omega) rfl)
          refine m_eff hf rfl (y_call (hf.eval rfl) (hf.evals rfl) Tryd.call56 ((rclone14_spec _ a1 c1 (l.take (sdS l).2.2.2.1.toNat) (hs.oldB (tk_rd hr1 (by omega))) (by rw [tkl (by omega)]; omega)).mono ?_))
          rintro e w1 ⟨g4, cg4, rfl, hj⟩
          replace hs := hs.join hj
          simp only [List.cons_append, List.nil_append] at hs
          refine ⟨_, rfl, ⟨cells_of hs (by first | exact .k0 | exact .k1 | exact .k2 | exact .k3 | exact .k4 | exact .k5 | exact .k6 | exact .k7 | exact .k8 | exact .k9), ?_⟩⟩; clear hf a; intro a hf
          replace hs := hs.take (A := cb b2 45 (vdF (0, 0, 0))) (by first | exact .k0 | exact .k1 | exact .k2 | exact .k3 | exact .k4 | exact .k5 | exact .k6 | exact .k7 | exact .k8 | exact .k9 | exact .k10 | exact .k11)
          refine m_eff0 hf rfl (y_storeAgg (cs := vdF (4, (sdS l).2.1, (sdS l).2.2.2.1)) hs (n := 3) (by kernel_rfl) (hf.eval rfl) (hf.eval rfl) (by simp [Value.oneCell', vdF]) rfl rfl .k0 ?_); clear hf hs a; intro w hs; refine ⟨cells_of hs (by first | exact .k0 | exact .k1 | exact .k2 | exact .k3 | exact .k4 | exact .k5 | exact .k6 | exact .k7 | exact .k8 | exact .k9), ?_⟩; intro a hf
          refine m_held hf rfl (fun w' _ => x_assign (hf.eval rfl) w') ?_; clear hf a; intro a hf
          refine m_nil ?_
          refine then_n ?_
          refine wp_ret ?_
          refine blk_r (then_r ?_)
          refine r_2c hf Tryd.results21 rfl rfl hs ag45 rfl (by first | exact .k0 | exact .k1 | exact .k2 | exact .k3 | exact .k4 | exact .k5 | exact .k6 | exact .k7 | exact .k8 | exact .k9) ?_
          have hv : lkV l = ((4, (sdS l).2.1, (sdS l).2.2.2.1), l.take (sdS l).2.2.2.1.toNat) := by unfold lkV; rw [if_neg (show ¬ 1024 ≤ zt l by omega), if_neg (by rw [hi1]; simp), if_neg hi2, if_pos hi3]
          rw [hv]
          replace hs := hs.take (A := slB 5 (.slice g4 (l.take (sdS l).2.2.2.1.toNat).length cg4) (l.take (sdS l).2.2.2.1.toNat)) (by first | exact .k0 | exact .k1 | exact .k2 | exact .k3 | exact .k4 | exact .k5 | exact .k6 | exact .k7 | exact .k8 | exact .k9)
          exact ⟨_, _, rfl, St.keep [_] _ hs⟩
        · first | simp only [decide_eq_true_eq, decide_eq_false_iff_not, Bool.not_eq_true', Bool.not_eq_false'] at hi3 | skip
          refine wp_skip ?_
          refine blk_n ?_
          refine then_n ?_
          refine wp_seq ?_
          refine wp_region_lit ?_
          refine s_v hf (x_fieldAddr fo24_2 (hf.eval rfl)) ?_; clear hf a; intro a hf
          refine s_r hf (x_load sc3 (hf.eval rfl) (by first | exact hs.cell .k0 rfl | exact hs.cell .k1 rfl | exact hs.cell .k2 rfl | exact hs.cell .k3 rfl | exact hs.cell .k4 rfl | exact hs.cell .k5 rfl | exact hs.cell .k6 rfl | exact hs.cell .k7 rfl | exact hs.cell .k8 rfl | exact hs.cell .k9 rfl)) ?_; clear hf a; intro a hf
          refine s_v hf (x_fieldAddr fo24_3 (hf.eval rfl)) ?_; clear hf a; intro a hf
          refine s_r hf (x_load sc3 (hf.eval rfl) (by first | exact hs.cell .k0 rfl | exact hs.cell .k1 rfl | exact hs.cell .k2 rfl | exact hs.cell .k3 rfl | exact hs.cell .k4 rfl | exact hs.cell .k5 rfl | exact hs.cell .k6 rfl | exact hs.cell .k7 rfl | exact hs.cell .k8 rfl | exact hs.cell .k9 rfl)) ?_; clear hf a; intro a hf
          refine s_do hf rfl (y_call (hf.eval rfl) (hf.evals rfl) Tryd.call58 ((body_spec _ (sdS l).2.2.1 (sdS l).2.2.2.1 (by omega) (by omega) (by omega) (by omega)).mono ?_))
          rintro e w1 ⟨rfl, hk⟩
          replace hs := hs.ext hk
          refine ⟨_, rfl, ?_⟩; clear hf a; intro a hf
          refine s_a hf rfl ?_; clear hf a; intro a hf
          refine s_nil ?_
          refine then_n ?_
          refine wp_seq ?_
          refine wp_region_lit ?_
          refine s_m hf rfl ?_; clear hf a; intro a hf
          refine s_m hf rfl ?_; clear hf a; intro a hf
          refine s_m hf rfl ?_; clear hf a; intro a hf
          refine s_v hf (x_fieldAddr fo24_5 (hf.eval rfl)) ?_; clear hf a; intro a hf
          refine s_r hf (x_load sc3 (hf.eval rfl) (by first | exact hs.cell .k0 rfl | exact hs.cell .k1 rfl | exact hs.cell .k2 rfl | exact hs.cell .k3 rfl | exact hs.cell .k4 rfl | exact hs.cell .k5 rfl | exact hs.cell .k6 rfl | exact hs.cell .k7 rfl | exact hs.cell .k8 rfl | exact hs.cell .k9 rfl)) ?_; clear hf a; intro a hf
          refine s_v hf (x_bin (hf.eval rfl) (hf.eval rfl) (r_addi _ (by omega) (by omega))) ?_; clear hf a; intro a hf
          refine s_v hf (x_slice sl25 (hf.eval rfl) (hf.eval rfl) (hf.eval rfl)  (by omega) (by omega) (by omega)) ?_; clear hf a; intro a hf
          have hbl : (bodyS l).length = (sdS l).2.2.2.2.2.1.toNat := by unfold bodyS; rw [List.length_take, List.length_drop]; omega
          have hbr : RdB (hp w0) (.slice (subA a1 c1 (upZ (max (sdS l).2.2.1 (sdS l).2.2.2.1)).toNat 1) (bodyS l).length (c1 - (upZ (max (sdS l).2.2.1 (sdS l).2.2.2.1)).toNat)) (bodyS l) := by unfold bodyS; exact sub_rd hr1 (by omega)
          replace hf := hf.now (k := 83) (v' := .slice (subA a1 c1 (upZ (max (sdS l).2.2.1 (sdS l).2.2.2.1)).toNat 1) (bodyS l).length (c1 - (upZ (max (sdS l).2.2.1 (sdS l).2.2.2.1)).toNat)) rfl (by rw [hbl]; exact slice_eq rfl (by omega) rfl)
          refine s_a hf rfl ?_; clear hf a; intro a hf
          refine s_nil ?_
          refine then_n ?_
          refine wp_seq ?_
          refine wp_region_lit ?_
          replace hs := hs.take (A := cb b8 24 (slF (sdS l))) (by first | exact .k0 | exact .k1 | exact .k2 | exact .k3 | exact .k4 | exact .k5 | exact .k6 | exact .k7 | exact .k8 | exact .k9 | exact .k10 | exact .k11)
          refine s_r hf (x_loadBlk hs ag24 (hf.eval rfl) rfl (by first | exact .k0 | exact .k1 | exact .k2 | exact .k3 | exact .k4 | exact .k5 | exact .k6 | exact .k7 | exact .k8 | exact .k9)) ?_; clear hf a; intro a hf
          refine s_m hf rfl ?_; clear hf a; intro a hf
          refine s_do hf rfl (y_call (hf.eval rfl) (hf.evals rfl) Tryd.call59 ((back_spec _ (sdS l) gu (by omega) (by omega) _ _ (bodyS l) (hs.oldB hbr) (by omega)).mono ?_))
          rintro e w1 ⟨vs, ns, rfl, hns, hj⟩
          replace hs := hs.join hj
          simp only [List.cons_append, List.nil_append] at hs
          refine ⟨_, rfl, ?_⟩; clear hf a; intro a hf
          refine s_m hf rfl ?_; clear hf a; intro a hf
          refine s_v hf (x_extract (hf.eval rfl) rfl) ?_; clear hf a; intro a hf
          refine s_v hf (x_extract (hf.eval rfl) rfl) ?_; clear hf a; intro a hf
          refine s_a hf rfl ?_; clear hf a; intro a hf
          refine s_a hf rfl ?_; clear hf a; intro a hf
          refine s_nil ?_
          refine then_n ?_
          refine wp_seq ?_
          refine wp_seq ?_
          refine wp_region_lit ?_
          refine s_m hf rfl ?_; clear hf a; intro a hf
          refine s_v hf (x_not (hf.eval rfl)) ?_; clear hf a; intro a hf
          refine s_nil ?_
          refine then_n ?_
          refine c_cond hf rfl (fun hi4 => ?_) (fun hi4 => ?_)
          · first | simp only [decide_eq_true_eq, decide_eq_false_iff_not, Bool.not_eq_true', Bool.not_eq_false'] at hi4 | skip
            refine wp_seq ?_
            replace hs := hs.take (A := cb b7 45 (vdF (0, 0, (l.length : Int)))) (by first | exact .k0 | exact .k1 | exact .k2 | exact .k3 | exact .k4 | exact .k5 | exact .k6 | exact .k7 | exact .k8 | exact .k9 | exact .k10 | exact .k11)
            refine c_draw hs (fun w' => ∀ (j : Nat) (v : Value), (vdF (0, 0, (l.length : Int)))[j]? = some v → w'.cell? ((⟨b7, 0, none⟩ : Addr).add j) = some v) [.held, .held, .eff, .eff, .held] (by kernel_rfl) (by kernel_rfl) (fun _ _ hs => cells_of hs (by first | exact .k0 | exact .k1 | exact .k2 | exact .k3 | exact .k4 | exact .k5 | exact .k6 | exact .k7)) ?_
            clear hs; intro w hs hC hw
            refine m_held hf rfl (fun w' hc => x_loadAgg ag45 (hf.eval rfl) (vs := vdF (0, 0, (l.length : Int))) rfl hc) ?_; clear hf a; intro a hf
            refine m_held hf rfl (fun w' _ => x_move (hf.eval rfl) w') ?_; clear hf a; intro a hf
            refine m_eff hf rfl (y_call (hf.eval rfl) (hf.evals rfl) Tryd.call56 ((rclone14_spec _ a1 c1 l (hs.oldB hr1) hl1).mono ?_))
            rintro e w1 ⟨g9, cg9, rfl, hj⟩
            replace hs := hs.join hj
            simp only [List.cons_append, List.nil_append] at hs
            refine ⟨_, rfl, ⟨cells_of hs (by first | exact .k0 | exact .k1 | exact .k2 | exact .k3 | exact .k4 | exact .k5 | exact .k6 | exact .k7 | exact .k8 | exact .k9), ?_⟩⟩; clear hf a; intro a hf
            replace hs := hs.take (A := cb b2 45 (vdF (0, 0, 0))) (by first | exact .k0 | exact .k1 | exact .k2 | exact .k3 | exact .k4 | exact .k5 | exact .k6 | exact .k7 | exact .k8 | exact .k9 | exact .k10 | exact .k11)
            refine m_eff0 hf rfl (y_storeAgg (cs := vdF (0, 0, (l.length : Int))) hs (n := 3) (by kernel_rfl) (hf.eval rfl) (hf.eval rfl) (by simp [Value.oneCell', vdF]) rfl rfl .k0 ?_); clear hf hs a; intro w hs; refine ⟨cells_of hs (by first | exact .k0 | exact .k1 | exact .k2 | exact .k3 | exact .k4 | exact .k5 | exact .k6 | exact .k7 | exact .k8 | exact .k9), ?_⟩; intro a hf
            refine m_held hf rfl (fun w' _ => x_assign (hf.eval rfl) w') ?_; clear hf a; intro a hf
            refine m_nil ?_
            refine then_n ?_
            refine wp_ret ?_
            refine then_r ?_
            refine r_2c hf Tryd.results21 rfl rfl hs ag45 rfl (by first | exact .k0 | exact .k1 | exact .k2 | exact .k3 | exact .k4 | exact .k5 | exact .k6 | exact .k7 | exact .k8 | exact .k9) ?_
            have hv : lkV l = ((0, 0, (l.length : Int)), l) := by unfold lkV; rw [if_neg (show ¬ 1024 ≤ zt l by omega), if_neg (by rw [hi1]; simp), if_neg hi2, if_neg hi3, if_pos hi4]
            rw [hv]
            replace hs := hs.take (A := slB 5 (.slice g9 (l).length cg9) (l)) (by first | exact .k0 | exact .k1 | exact .k2 | exact .k3 | exact .k4 | exact .k5 | exact .k6 | exact .k7 | exact .k8 | exact .k9)
            exact ⟨_, _, rfl, St.keep [_] _ hs⟩
          · first | simp only [decide_eq_true_eq, decide_eq_false_iff_not, Bool.not_eq_true', Bool.not_eq_false'] at hi4 | skip
            refine wp_skip ?_
            refine then_n ?_
            refine wp_seq ?_
            refine wp_region_lit ?_
            refine s_m hf rfl ?_; clear hf a; intro a hf
            refine s_v hf (x_fieldAddr fo24_2 (hf.eval rfl)) ?_; clear hf a; intro a hf
            refine s_r hf (x_load sc3 (hf.eval rfl) (by first | exact hs.cell .k0 rfl | exact hs.cell .k1 rfl | exact hs.cell .k2 rfl | exact hs.cell .k3 rfl | exact hs.cell .k4 rfl | exact hs.cell .k5 rfl | exact hs.cell .k6 rfl | exact hs.cell .k7 rfl | exact hs.cell .k8 rfl | exact hs.cell .k9 rfl)) ?_; clear hf a; intro a hf
            refine s_v hf (x_slice_hi sl25 (hf.eval rfl) (hf.eval rfl)  (by omega) (by omega)) ?_; clear hf a; intro a hf
            replace hf := hf.now (k := 98) (v' := .slice a1 (l.take (sdS l).2.2.1.toNat).length c1) rfl (by rw [tkl (by omega)] <;> exact slice_eq rfl (by omega) rfl)
            refine s_do hf rfl (y_call (hf.eval rfl) (hf.evals rfl) Tryd.call56 ((rclone14_spec _ a1 c1 (l.take (sdS l).2.2.1.toNat) (hs.oldB (tk_rd hr1 (by omega))) (by rw [tkl (by omega)]; omega)).mono ?_))
            rintro e w1 ⟨g7, cg7, rfl, hj⟩
            replace hs := hs.join hj
            simp only [List.cons_append, List.nil_append] at hs
            refine ⟨_, rfl, ?_⟩; clear hf a; intro a hf
            refine s_a hf rfl ?_; clear hf a; intro a hf
            refine s_nil ?_
            refine then_n ?_
            refine wp_seq ?_
            refine wp_region_lit ?_
            refine s_v hf (x_fieldAddr fo24_4 (hf.eval rfl)) ?_; clear hf a; intro a hf
            refine s_r hf (x_load sc3 (hf.eval rfl) (by first | exact hs.cell .k0 rfl | exact hs.cell .k1 rfl | exact hs.cell .k2 rfl | exact hs.cell .k3 rfl | exact hs.cell .k4 rfl | exact hs.cell .k5 rfl | exact hs.cell .k6 rfl | exact hs.cell .k7 rfl | exact hs.cell .k8 rfl | exact hs.cell .k9 rfl)) ?_; clear hf a; intro a hf
            obtain ⟨N, hN⟩ : ∃ N : Nat, (sdS l).2.2.2.2.1 = (N : Int) := ⟨(sdS l).2.2.2.2.1.toNat, by omega⟩
            have hbc := bk_cnt hi4
            have hNt : (sdS l).2.2.2.2.1.toNat = N := by omega
            have hns2 : ns = N := by rw [hns hi4, hNt]
            subst hns2
            replace hs := hs.take (A := sl 91 2 vs (spL (bodyS l) ns).length ((spL (bodyS l) ns).flatMap spF)) (by first | exact .k0 | exact .k1 | exact .k2 | exact .k3 | exact .k4 | exact .k5 | exact .k6 | exact .k7 | exact .k8 | exact .k9 | exact .k10 | exact .k11)
            obtain ⟨vs_, vc_, rfl⟩ := sl_shape hs
            refine s_v hf (x_bin (hf.eval rfl) (hf.eval rfl) (r_muli _ (by omega) (by omega))) ?_; clear hf a; intro a hf
            replace hf := hf.now (k := 102) (v' := .int .i64 ((8 * ns : Nat) : Int)) rfl (by rw [hN]; congr 1 <;> omega)
            refine s_a hf rfl ?_; clear hf a; intro a hf
            refine s_nil ?_
            refine then_n ?_
            refine wp_seq ?_
            refine wp_seq ?_
            refine wp_region_lit ?_
            refine s_a hf rfl ?_; clear hf a; intro a hf
            refine s_nil ?_
            refine then_n ?_
            refine wp_block ?_
            unfold slB at hs
            rw [tkl (show (sdS l).2.2.1.toNat ≤ l.length by omega)] at hs hf
            replace hs := hs.take (A := cb b2 45 (vdF (0, 0, 0))) (by first | exact .k0 | exact .k1 | exact .k2 | exact .k3 | exact .k4 | exact .k5 | exact .k6 | exact .k7 | exact .k8 | exact .k9 | exact .k10 | exact .k11)
            replace hs := hs.take (A := cb b8 24 (slF (sdS l))) (by first | exact .k0 | exact .k1 | exact .k2 | exact .k3 | exact .k4 | exact .k5 | exact .k6 | exact .k7 | exact .k8 | exact .k9 | exact .k10 | exact .k11)
            replace hs := hs.take (A := sl 91 2 (.slice vs_ (spL (bodyS l) ns).length vc_) (spL (bodyS l) ns).length ((spL (bodyS l) ns).flatMap spF)) (by first | exact .k0 | exact .k1 | exact .k2 | exact .k3 | exact .k4 | exact .k5 | exact .k6 | exact .k7 | exact .k8 | exact .k9 | exact .k10 | exact .k11)
            replace hs := hs.take (A := sl 5 1 (.slice g7 (sdS l).2.2.1.toNat cg7) (sdS l).2.2.1.toNat ((l.take (sdS l).2.2.1.toNat).map u8v)) (by first | exact .k0 | exact .k1 | exact .k2 | exact .k3 | exact .k4 | exact .k5 | exact .k6 | exact .k7 | exact .k8 | exact .k9 | exact .k10 | exact .k11)
            replace hs := St.keep [_, _, _, _] _ hs
            replace hf := hf.now (k := 14) (v' := .int .i64 ((8 * ns + totB (sdS l).2.2.1 (bodyS l) 0 : Nat) : Int)) rfl (by rw [totB0]; rfl)
            refine c_loop (L0 := [(2, _), (3, _), (8, _), (11, _), (12, _), (13, _)]) (fun M w m => ∃ i : Nat, M = [(14, .int .i64 ((8 * ns + (totB (sdS l).2.2.1 (bodyS l) i) : Nat) : Int)), (15, .int .i64 (i : Int))] ∧ ns - i = m ∧ i ≤ ns ∧ St ⟨w0, None_⟩ w [sl 5 1 (.slice g7 (sdS l).2.2.1.toNat cg7) (sdS l).2.2.1.toNat ((putPs (l.take (sdS l).2.2.1.toNat) (bkL (sdS l) (bodyS l) i)).map u8v), sl 91 2 (.slice vs_ (spL (bodyS l) ns).length vc_) (spL (bodyS l) ns).length ((spL (bodyS l) ns).flatMap spF), cb b8 24 (slF (sdS l)), cb b2 45 (vdF (0, 0, 0))]) (M0 := _) (⟨0, rfl, rfl, Nat.zero_le _, by rw [putPs0]; exact hs⟩) (hf.sub ⟨rfl, rfl, rfl, rfl, rfl, rfl, rfl, rfl, trivial⟩) ?_
            clear hf hs a
            rintro M m a w ⟨i, rfl, rfl, hi, hs⟩ hf
            have hsl : (spL (bodyS l) ns).length = ns := by unfold spL; simp
            refine wp_seq ?_
            refine wp_seq ?_
            refine wp_region_lit ?_
            refine s_m hf rfl ?_; clear hf a; intro a hf
            refine s_m hf rfl ?_; clear hf a; intro a hf
            refine s_v hf (x_len Tryd.underlying87 (hf.eval rfl)) ?_; clear hf a; intro a hf
            refine s_v hf (x_bin (hf.eval rfl) (hf.eval rfl) (r_lt _ _ _ _)) ?_; clear hf a; intro a hf
            refine s_nil ?_
            refine then_n ?_
            refine c_cond hf rfl (fun hi5 => ?_) (fun hi5 => ?_)
            · simp only [decide_eq_true_eq, decide_eq_false_iff_not, Bool.not_eq_true', Bool.not_eq_false', Bool.not_eq_true, Int.not_lt, Int.not_le] at hi5
              have hlt : i < ns := by omega
              obtain ⟨hb1, hb2, hb3, hb4⟩ := bk_span hi4 hN hlt
              obtain ⟨hq1, hq2⟩ := spL_at (body := bodyS l) hlt
              replace hs := hs.take (A := sl 91 2 (.slice vs_ (spL (bodyS l) ns).length vc_) (spL (bodyS l) ns).length ((spL (bodyS l) ns).flatMap spF)) (by first | exact .k0 | exact .k1 | exact .k2 | exact .k3 | exact .k4 | exact .k5 | exact .k6 | exact .k7 | exact .k8 | exact .k9 | exact .k10 | exact .k11)
              obtain ⟨vs_, rfl⟩ := sl_some hs (by omega)
              replace hs := hs.take (A := sl 5 1 (.slice g7 (sdS l).2.2.1.toNat cg7) (sdS l).2.2.1.toNat ((putPs (l.take (sdS l).2.2.1.toNat) (bkL (sdS l) (bodyS l) i)).map u8v)) (by first | exact .k0 | exact .k1 | exact .k2 | exact .k3 | exact .k4 | exact .k5 | exact .k6 | exact .k7 | exact .k8 | exact .k9 | exact .k10 | exact .k11)
              have hpl : (putPs (l.take (sdS l).2.2.1.toNat) (bkL (sdS l) (bodyS l) i)).length = (sdS l).2.2.1.toNat := by rw [putPs_len, tkl (by omega)]
              obtain ⟨g7, rfl⟩ := sl_some hs (by omega)
              obtain ⟨ba, hba⟩ : ∃ x, subA a1 c1 (upZ (max (sdS l).2.2.1 (sdS l).2.2.2.1)).toNat 1 = some x := by
                rcases hbr.2 with ⟨c9, e9, hn9⟩ | ⟨x9, c9, e9, _⟩
                · omega
                · injection e9 with e9; exact ⟨x9, e9⟩
              have hbr2 : RdB (hp w0) (.slice (some ba) (bodyS l).length (c1 - (upZ (max (sdS l).2.2.1 (sdS l).2.2.2.1)).toNat)) (bodyS l) := by rw [← hba]; exact hbr
              refine wp_skip ?_
              refine then_n ?_
              refine wp_seq ?_
              refine wp_block ?_
              refine wp_seq ?_
              refine wp_region_lit ?_
              refine s_m hf rfl ?_; clear hf a; intro a hf
              refine s_m hf rfl ?_; clear hf a; intro a hf
              refine s_v hf (x_indexAddr sl87 (hf.eval rfl) (hf.eval rfl) (by omega) (by omega)) ?_; clear hf a; intro a hf
              refine s_v hf (x_fieldAddrG fo91_0 (hf.eval rfl)) ?_; clear hf a; intro a hf
              refine s_r hf (x_loadF (k := 0) (i := (i : Int)) (f := spF) (l := spL (bodyS l) ns) (u := .int .i64 (((spA (bodyS l) i) : Nat) : Int)) sc3 (by intro _; rfl) (hs.rd (A := sl 91 2 (.slice (some vs_) (spL (bodyS l) ns).length vc_) (spL (bodyS l) ns).length ((spL (bodyS l) ns).flatMap spF)) (by first | exact .k0 | exact .k1 | exact .k2 | exact .k3 | exact .k4 | exact .k5 | exact .k6 | exact .k7 | exact .k8 | exact .k9) fun h hh => sl_rd hh) (hf.eval rfl) (by rw [Int.toNat_natCast]; exact hq1) (by show (spF (spL (bodyS l) ns)[i])[0]? = _; rw [hq2]; rfl)) ?_; clear hf a; intro a hf
              refine s_a hf rfl ?_; clear hf a; intro a hf
              refine s_nil ?_
              refine then_n ?_
              refine wp_block ?_
              refine c_loop (L0 := [(2, _), (3, _), (8, _), (11, _), (12, _), (13, _), (15, _), (103, _), (104, _), (105, _), (106, _), (109, _), (110, _), (111, _), (112, _), (113, _)]) (fun M w m => ∃ j : Nat, M = [(14, .int .i64 ((8 * ns + (totB (sdS l).2.2.1 (bodyS l) i) + j : Nat) : Int)), (16, .int .i64 (((spA (bodyS l) i) + j : Nat) : Int))] ∧ (spN (bodyS l) i) - j = m ∧ j ≤ (spN (bodyS l) i) ∧ St ⟨w0, None_⟩ w [sl 5 1 (.slice (some g7) (sdS l).2.2.1.toNat cg7) (sdS l).2.2.1.toNat ((putP (putPs (l.take (sdS l).2.2.1.toNat) (bkL (sdS l) (bodyS l) i)) ((spA (bodyS l) i), (((bodyS l).drop (8 * ns + totB (sdS l).2.2.1 (bodyS l) i)).take (spN (bodyS l) i)).take j)).map u8v), sl 91 2 (.slice (some vs_) (spL (bodyS l) ns).length vc_) (spL (bodyS l) ns).length ((spL (bodyS l) ns).flatMap spF), cb b8 24 (slF (sdS l)), cb b2 45 (vdF (0, 0, 0))]) (M0 := _) (⟨0, rfl, rfl, Nat.zero_le _, by rw [putP_zero]; exact hs⟩) (hf.sub ⟨rfl, rfl, rfl, rfl, rfl, rfl, rfl, rfl, rfl, rfl, rfl, rfl, rfl, rfl, rfl, rfl, rfl, rfl, trivial⟩) ?_
              clear hf hs a
              rintro M m a w ⟨j, rfl, rfl, hj, hs⟩ hf
              refine wp_seq ?_
              refine wp_seq ?_
              refine wp_region_lit ?_
              refine s_m hf rfl ?_; clear hf a; intro a hf
              refine s_m hf rfl ?_; clear hf a; intro a hf
              refine s_m hf rfl ?_; clear hf a; intro a hf
              refine s_v hf (x_indexAddr sl87 (hf.eval rfl) (hf.eval rfl) (by omega) (by omega)) ?_; clear hf a; intro a hf
              refine s_v hf (x_fieldAddrG fo91_1 (hf.eval rfl)) ?_; clear hf a; intro a hf
              refine s_r hf (x_loadF (k := 1) (i := (i : Int)) (f := spF) (l := spL (bodyS l) ns) (u := .int .i64 (((spA (bodyS l) i) + (spN (bodyS l) i) : Nat) : Int)) sc3 (by intro _; rfl) (hs.rd (A := sl 91 2 (.slice (some vs_) (spL (bodyS l) ns).length vc_) (spL (bodyS l) ns).length ((spL (bodyS l) ns).flatMap spF)) (by first | exact .k0 | exact .k1 | exact .k2 | exact .k3 | exact .k4 | exact .k5 | exact .k6 | exact .k7 | exact .k8 | exact .k9) fun h hh => sl_rd hh) (hf.eval rfl) (by rw [Int.toNat_natCast]; exact hq1) (by show (spF (spL (bodyS l) ns)[i])[1]? = _; rw [hq2]; rfl)) ?_; clear hf a; intro a hf
              refine s_v hf (x_bin (hf.eval rfl) (hf.eval rfl) (r_lt _ _ _ _)) ?_; clear hf a; intro a hf
              refine s_nil ?_
              refine then_n ?_
              refine c_cond hf rfl (fun hi6 => ?_) (fun hi6 => ?_)
              · first | simp only [decide_eq_true_eq, decide_eq_false_iff_not, Bool.not_eq_true', Bool.not_eq_false'] at hi6 | skip
                have hjl : j < (spN (bodyS l) i) := by omega
                obtain ⟨hd1, hd2, hd3⟩ := data_at (body := bodyS l) (i := 8 * ns + (totB (sdS l).2.2.1 (bodyS l) i)) (n := (spN (bodyS l) i)) (j := j) (by omega) hjl
                refine wp_skip ?_
                refine then_n ?_
                refine wp_seq ?_
                refine wp_block ?_
                refine wp_seq ?_
                refine wp_region_lit ?_
                refine s_m hf rfl ?_; clear hf a; intro a hf
                refine s_m hf rfl ?_; clear hf a; intro a hf
                refine s_m hf rfl ?_; clear hf a; intro a hf
                replace hf := hf.now (k := 125) (v' := .slice (some ba) (bodyS l).length (c1 - (upZ (max (sdS l).2.2.1 (sdS l).2.2.2.1)).toNat)) rfl (by rw [hba])
                refine s_m hf rfl ?_; clear hf a; intro a hf
                refine s_v hf (x_indexAddr sl25 (hf.eval rfl) (hf.eval rfl) (by omega) (by omega)) ?_; clear hf a; intro a hf
                refine s_r hf (x_loadB (i := ((8 * ns + (totB (sdS l).2.2.1 (bodyS l) i) + j : Nat) : Int)) sc5 (hs.oldB hbr2) (hf.eval rfl) (by rw [Int.toNat_natCast]; exact hd2)) ?_; clear hf a; intro a hf
                replace hf := hf.now (k := 128) (v' := u8v ((((bodyS l).drop (8 * ns + totB (sdS l).2.2.1 (bodyS l) i)).take (spN (bodyS l) i))[j]'hd1)) rfl (congrArg u8v (hd3 hd1).symm)
                refine s_v hf (x_indexAddr sl25 (hf.eval rfl) (hf.eval rfl) (by omega) (by omega)) ?_; clear hf a; intro a hf
                refine s_do0 hf rfl (y_storeSl (i := (spA (bodyS l) i) + j) hs sc5 (hf.eval rfl) (hf.eval rfl) rfl .k0 (by omega) ?_); clear hf hs a; intro w hs a hf
                rw [← List.map_set, putP_step (by rw [hpl]; omega) hd1] at hs
                refine s_nil ?_
                refine then_n ?_
                refine wp_region_lit ?_
                refine s_m hf rfl ?_; clear hf a; intro a hf
                refine s_v hf (x_bin (hf.eval rfl) (hf.eval rfl) (r_addi _ (by omega) (by omega))) ?_; clear hf a; intro a hf
                replace hf := hf.now (k := 131) (v' := .int .i64 ((8 * ns + (totB (sdS l).2.2.1 (bodyS l) i) + (j + 1) : Nat) : Int)) rfl (int_succ _ _)
                refine s_a hf rfl ?_; clear hf a; intro a hf
                refine s_nil ?_
                refine blk_n ?_
                refine then_n ?_
                refine wp_region_lit ?_
                refine s_m hf rfl ?_; clear hf a; intro a hf
                refine s_v hf (x_bin (hf.eval rfl) (hf.eval rfl) (r_addi _ (by omega) (by omega))) ?_; clear hf a; intro a hf
                replace hf := hf.now (k := 122) (v' := .int .i64 (((spA (bodyS l) i) + (j + 1) : Nat) : Int)) rfl (int_succ _ _)
                refine s_a hf rfl ?_; clear hf a; intro a hf
                refine s_nil ?_
                exact ⟨_, _, ⟨j + 1, rfl, rfl, by omega, hs⟩, by omega, hf.sub ⟨rfl, rfl, rfl, rfl, rfl, rfl, rfl, rfl, rfl, rfl, rfl, rfl, rfl, rfl, rfl, rfl, rfl, rfl, trivial⟩⟩
              · first | simp only [decide_eq_true_eq, decide_eq_false_iff_not, Bool.not_eq_true', Bool.not_eq_false'] at hi6 | skip
                obtain rfl : j = (spN (bodyS l) i) := by omega
                rw [show (((bodyS l).drop (8 * ns + totB (sdS l).2.2.1 (bodyS l) i)).take (spN (bodyS l) i)).take (spN (bodyS l) i) = (((bodyS l).drop (8 * ns + totB (sdS l).2.2.1 (bodyS l) i)).take (spN (bodyS l) i)) from List.take_of_length_le (by rw [List.length_take]; omega)] at hs
                have hsn : putPs (l.take (sdS l).2.2.1.toNat) (bkL (sdS l) (bodyS l) (i + 1)) = putP (putPs (l.take (sdS l).2.2.1.toNat) (bkL (sdS l) (bodyS l) i)) ((spA (bodyS l) i), (((bodyS l).drop (8 * ns + totB (sdS l).2.2.1 (bodyS l) i)).take (spN (bodyS l) i))) := by rw [bkL_succ, putPs_snoc, hNt]
                rw [← hsn] at hs
                replace hf := hf.now (k := 14) (v' := .int .i64 ((8 * ns + totB (sdS l).2.2.1 (bodyS l) (i + 1) : Nat) : Int)) rfl (by rw [hb4, Nat.add_assoc])
                refine wp_exit ?_
                refine then_x ?_
                refine then_x ?_
                refine blk_x ?_
                refine blk_n ?_
                refine then_n ?_
                refine wp_region_lit ?_
                refine s_m hf rfl ?_; clear hf a; intro a hf
                refine s_v hf (x_bin (hf.eval rfl) (hf.eval rfl) (r_addi _ (by omega) (by omega))) ?_; clear hf a; intro a hf
                refine s_a hf rfl ?_; clear hf a; intro a hf
                refine s_nil ?_
                exact ⟨_, _, ⟨i + 1, rfl, rfl, by omega, hs⟩, by omega, hf.sub ⟨rfl, rfl, rfl, rfl, rfl, rfl, rfl, rfl, trivial⟩⟩
            · simp only [decide_eq_true_eq, decide_eq_false_iff_not, Bool.not_eq_true', Bool.not_eq_false', Bool.not_eq_true, Int.not_lt, Int.not_le] at hi5
              obtain rfl : i = ns := by omega
              refine wp_exit ?_
              refine then_x ?_
              refine then_x ?_
              refine blk_x ?_
              refine then_n ?_
              refine wp_seq ?_
              refine wp_region_lit ?_
              refine s_v hf (x_fieldAddr fo24_1 (hf.eval rfl)) ?_; clear hf a; intro a hf
              refine s_r hf (x_load sc3 (hf.eval rfl) (by first | exact hs.cell .k0 rfl | exact hs.cell .k1 rfl | exact hs.cell .k2 rfl | exact hs.cell .k3 rfl | exact hs.cell .k4 rfl | exact hs.cell .k5 rfl | exact hs.cell .k6 rfl | exact hs.cell .k7 rfl | exact hs.cell .k8 rfl | exact hs.cell .k9 rfl)) ?_; clear hf a; intro a hf
              refine s_v hf (x_fieldAddr fo24_2 (hf.eval rfl)) ?_; clear hf a; intro a hf
              refine s_r hf (x_load sc3 (hf.eval rfl) (by first | exact hs.cell .k0 rfl | exact hs.cell .k1 rfl | exact hs.cell .k2 rfl | exact hs.cell .k3 rfl | exact hs.cell .k4 rfl | exact hs.cell .k5 rfl | exact hs.cell .k6 rfl | exact hs.cell .k7 rfl | exact hs.cell .k8 rfl | exact hs.cell .k9 rfl)) ?_; clear hf a; intro a hf
              refine s_r hf (x_build (v := .agg (vdF (3, (sdS l).2.1, (sdS l).2.2.1)).toArray) (hf.parts rfl) (fun w => by kernel_rfl) _) ?_; clear hf a; intro a hf
              refine s_m hf rfl ?_; clear hf a; intro a hf
              replace hs := hs.take (A := cb b2 45 (vdF (0, 0, 0))) (by first | exact .k0 | exact .k1 | exact .k2 | exact .k3 | exact .k4 | exact .k5 | exact .k6 | exact .k7 | exact .k8 | exact .k9 | exact .k10 | exact .k11)
              refine s_do0 hf rfl (y_storeAgg (cs := vdF (3, (sdS l).2.1, (sdS l).2.2.1)) hs (n := 3) (by kernel_rfl) (hf.eval rfl) (hf.eval rfl) (by simp [Value.oneCell', vdF]) rfl rfl .k0 ?_); clear hf hs a; intro w hs a hf
              refine s_a hf rfl ?_; clear hf a; intro a hf
              refine s_nil ?_
              refine then_n ?_
              refine wp_ret ?_
              refine r_2c hf Tryd.results21 rfl rfl hs ag45 rfl (by first | exact .k0 | exact .k1 | exact .k2 | exact .k3 | exact .k4 | exact .k5 | exact .k6 | exact .k7 | exact .k8 | exact .k9) ?_
              have hv : lkV l = ((3, (sdS l).2.1, (sdS l).2.2.1), lkB l) := by unfold lkV; rw [if_neg (show ¬ 1024 ≤ zt l by omega), if_neg (by rw [hi1]; simp), if_neg hi2, if_neg hi3, if_neg (by rw [hi4]; simp)]
              rw [hv]
              have hlk : (lkB l).length = (sdS l).2.2.1.toNat := by unfold lkB; rw [putPs_len, tkl (by omega)]
              have hlc : putPs (l.take (sdS l).2.2.1.toNat) (bkL (sdS l) (bodyS l) i) = lkB l := by unfold lkB; rw [hNt]
              rw [hlc] at hs
              replace hs := hs.take (A := sl 5 1 (.slice g7 (sdS l).2.2.1.toNat cg7) (sdS l).2.2.1.toNat ((lkB l).map u8v)) (by first | exact .k0 | exact .k1 | exact .k2 | exact .k3 | exact .k4 | exact .k5 | exact .k6 | exact .k7 | exact .k8 | exact .k9 | exact .k10 | exact .k11)
              refine ⟨g7, cg7, by rw [hlk], ?_⟩
              unfold slB
              rw [hlk]
              exact St.keep [_] _ hs
end Go.Proofs.YtehakfbfjpolfaaDoor

namespace Go.Proofs.YtehakfbfjpolfaaDoor
open Go Vw
theorem putPsN (x : List UInt8) : putPs x [] = x := rfl
theorem slW0 (h : Heaplet) : sl 110 2 (.slice none 0 0) ([] : List Pt).length (([] : List Pt).flatMap pcF) h := ⟨rfl, .inl ⟨rfl, rfl⟩⟩
theorem lkP_len {l : List UInt8} (h : lkOk l = true) (hl : l.length ≤ 16777216) : (lkP l).length ≤ 16777216 := by
  unfold lkOk at h
  simp only [Bool.and_eq_true] at h
  have h2 := h.2
  have hf := (seGood h.1).flds.2.2.2.1
  have hb : (bodyS l).length ≤ l.length := by unfold bodyS; rw [List.length_take, List.length_drop]; omega
  unfold lkP
  revert h2 hf hb
  generalize sdS l = s
  generalize bodyS l = b
  intro hf h2 hb
  by_cases c3 : s.1 = 3
  · rw [if_pos c3]
    have hk : bkOk s b = true := by first | (rw [c3] at h2; simpa using h2) | (rw [c3] at hf; simpa using hf)
    have h9 := bk_cnt hk
    unfold bkL
    rw [List.length_map, List.length_range]
    omega
  · rw [if_neg c3]; simp
def fdF (v : Int × Int × Int) (cv bv : Value) : List Value := [.int .i64 v.1, .int .i64 v.2.1, .int .i64 v.2.2, cv, bv]
attribute [local irreducible] Vw.sl Vw.sdS Vw.bodyS Vw.zt Vw.spA Vw.spN Vw.totB Vw.bkL Vw.putPs Vw.putP Vw.upZ Vw.seOk Vw.bkOk Vw.spL Vw.lkZ Vw.lkP Vw.lkOk Vw.filZ Vw.segS Vw.seAt
theorem sealed_spec (w0 : World) (hT : Tab 0 (hp w0)) (a1 : Option Addr) (c1 : Nat) (l : List UInt8) (hr1 : RdB (hp w0) (.slice a1 l.length c1) l) (hl1 : l.length ≤ 16777216) : Calls Tryd.prog 81 #[.slice a1 l.length c1] w0 fun e w' => ∃ (v : Int × Int × Int) (cv bv : Value) (C : List UInt8) (ps : List Pt), e = .returned (.tuple #[.agg (fdF v cv bv).toArray, .bool (lkOk l)]) ∧ (lkOk l = true → v = ((sdS l).1, (sdS l).2.1, lkZ l) ∧ C = putPs (l.take (lkZ l).toNat) (lkP l) ∧ (∃ a c, cv = .slice a C.length c) ∧ ps.map pcOf = lkP l) ∧ St ⟨w0, None_⟩ w' [slB 5 cv C, sl 110 2 bv ps.length (ps.flatMap pcF), datR ps] := by
  have hs := St.start w0 None_
  have hcp := RdB.cap hr1
  refine c_enter (N := 132) Tryd.func81 rfl Tryd.ntmps81 (by simp) ?_
  intro a hf
  refine wp_seq ?_
  refine wp_region_lit ?_
  refine s_do hf rfl (y_alloc hs Tryd.zeroValue82 ?_); clear hf hs a; intro b2 w hs a hf
  change St _ _ (cb b2 82 (fdF (0, 0, 0) (.slice none 0 0) (.slice none 0 0)) :: _) at hs
  refine s_a hf rfl ?_; clear hf a; intro a hf
  refine s_nil ?_
  refine then_n ?_
  refine wp_seq ?_
  refine wp_region_lit ?_
  refine s_m hf rfl ?_; clear hf a; intro a hf
  refine s_v hf (x_len Tryd.underlying25 (hf.eval rfl)) ?_; clear hf a; intro a hf
  refine s_a hf rfl ?_; clear hf a; intro a hf
  refine s_nil ?_
  refine then_n ?_
  refine wp_seq ?_
  refine wp_region_lit ?_
  refine s_m hf rfl ?_; clear hf a; intro a hf
  refine s_v hf (x_bin (hf.eval rfl) (hf.eval rfl) (r_quon _ (by omega) (by omega) (by omega))) ?_; clear hf a; intro a hf
  refine s_v hf (x_bin (hf.eval rfl) (hf.eval rfl) (r_muli _ (by omega) (by omega))) ?_; clear hf a; intro a hf
  refine s_v hf (x_bin (hf.eval rfl) (hf.eval rfl) (r_subi _ (by omega) (by omega))) ?_; clear hf a; intro a hf
  refine s_a hf rfl ?_; clear hf a; intro a hf
  refine s_nil ?_
  refine then_n ?_
  refine wp_seq ?_
  refine wp_seq ?_
  refine wp_region_lit ?_
  refine s_m hf rfl ?_; clear hf a; intro a hf
  refine s_v hf (x_bin (hf.eval rfl) (hf.eval rfl) (r_lt _ _ _ _)) ?_; clear hf a; intro a hf
  refine s_nil ?_
  refine then_n ?_
  refine c_cond hf rfl (fun hi0 => ?_) (fun hi0 => ?_)
  · first | simp only [decide_eq_true_eq, decide_eq_false_iff_not, Bool.not_eq_true', Bool.not_eq_false'] at hi0 | skip
    refine wp_seq ?_
    refine wp_region_lit ?_
    refine s_r hf (x_build (v := .agg (fdF (0, 0, 0) (.slice none 0 0) (.slice none 0 0)).toArray) (hf.parts rfl) (fun w => by kernel_rfl) _) ?_; clear hf a; intro a hf
    replace hs := hs.take (A := cb b2 82 (fdF (0, 0, 0) (.slice none 0 0) (.slice none 0 0))) (by first | exact .k0 | exact .k1 | exact .k2 | exact .k3 | exact .k4 | exact .k5 | exact .k6 | exact .k7 | exact .k8 | exact .k9 | exact .k10 | exact .k11)
    refine s_do0 hf rfl (y_storeAgg (cs := fdF (0, 0, 0) (.slice none 0 0) (.slice none 0 0)) hs (n := 5) (by kernel_rfl) (hf.eval rfl) (hf.eval rfl) (by simp [Value.oneCell', fdF]) rfl rfl .k0 ?_); clear hf hs a; intro w hs a hf
    refine s_a hf rfl ?_; clear hf a; intro a hf
    refine s_nil ?_
    refine then_n ?_
    refine wp_ret ?_
    refine then_r ?_
    refine r_2c hf Tryd.results81 rfl rfl hs ag82 rfl .k0 ?_
    have hno : lkOk l = false := by
      unfold lkOk seOk
      first
      | (rw [decide_eq_false (show ¬ 512 ≤ l.length by omega)]; simp; done)
      | (rw [dec_ne hg6_2]; simp; done)
      | (rw [decide_eq_false (show ¬ (sdS l).2.2.1 ≤ 16777216 by omega)]; simp; done)
      | (rw [decide_eq_false (show ¬ (sdS l).2.2.2.1 ≤ 16777216 by omega)]; simp; done)
      | (rw [decide_eq_false (show ¬ (zt (l.drop (seAt l.length + 512)) : Int) = (l.length : Int) - (seAt l.length : Int) - 512 by omega)]; simp; done)
      | (rw [decide_eq_false (show ¬ filZ (sdS l).2.2.1 (sdS l).2.2.2.1 (sdS l).2.2.2.2.2.1 = (l.length : Int) by omega)]; simp; done)
      | (rw [decide_eq_true hc3, hi5]; simp; done)
    rw [hno]
    exact ⟨(0, 0, 0), .slice none 0 0, .slice none 0 0, [], [], rfl, fun h => (by cases h), ((((St.keep [] _ hs).emp (A := datR []) (fun _ => trivial)).emp (A := sl 110 2 (.slice none 0 0) ([] : List Pt).length (([] : List Pt).flatMap pcF)) slW0).emp (slB_nil _))⟩
  · first | simp only [decide_eq_true_eq, decide_eq_false_iff_not, Bool.not_eq_true', Bool.not_eq_false'] at hi0 | skip
    have hn5 : 512 ≤ l.length := by omega
    have hsa := seAt_le hn5
    have hsl := segS_len hn5
    replace hf := hf.now (k := 5) (v' := .int .i64 (((seAt l.length) : Nat) : Int)) rfl (by congr 1; unfold seAt; omega)
    refine wp_skip ?_
    refine then_n ?_
    refine wp_seq ?_
    refine wp_region_lit ?_
    refine s_m hf rfl ?_; clear hf a; intro a hf
    refine s_m hf rfl ?_; clear hf a; intro a hf
    refine s_m hf rfl ?_; clear hf a; intro a hf
    refine s_v hf (x_bin (hf.eval rfl) (hf.eval rfl) (r_addi _ (by omega) (by omega))) ?_; clear hf a; intro a hf
    refine s_v hf (x_slice sl25 (hf.eval rfl) (hf.eval rfl) (hf.eval rfl)  (by omega) (by omega) (by omega)) ?_; clear hf a; intro a hf
    replace hf := hf.now (k := 28) (v' := .slice (subA a1 c1 (seAt l.length) 1) (segS l).length (c1 - (seAt l.length))) rfl (by rw [hsl]; congr 1 <;> omega)
    refine s_do hf rfl (y_call (hf.eval rfl) (hf.evals rfl) Tryd.call16 ((decode_spec _ (hT.kept hs.kept) _ _ (segS l) (hs.oldB (seg_rd hr1 hn5)) (by omega)).mono ?_))
    rintro e w1 ⟨rfl, hk⟩
    replace hs := hs.ext hk
    refine ⟨_, rfl, ?_⟩; clear hf a; intro a hf
    refine s_m hf rfl ?_; clear hf a; intro a hf
    refine s_v hf (x_extract (hf.eval rfl) rfl) ?_; clear hf a; intro a hf
    refine s_v hf (x_extract (hf.eval rfl) rfl) ?_; clear hf a; intro a hf
    refine s_do hf rfl (y_alloc hs Tryd.zeroValue24 ?_); clear hf hs a; intro b6 w hs a hf
    change St _ _ (cb b6 24 (slF zSl) :: _) at hs
    refine s_do0 hf rfl (y_storeAgg (cs := slF (decV (segS l))) hs (n := 7) (by kernel_rfl) (hf.eval rfl) (hf.eval rfl) (by simp [Value.oneCell', slF]) rfl rfl .k0 ?_); clear hf hs a; intro w hs a hf
    refine s_a hf rfl ?_; clear hf a; intro a hf
    refine s_nil ?_
    refine then_n ?_
    refine wp_seq ?_
    refine wp_seq ?_
    refine wp_region_lit ?_
    refine s_m hf rfl ?_; clear hf a; intro a hf
    refine s_v hf (x_bin (hf.eval rfl) (hf.eval rfl) (r_ne _ _ _ _)) ?_; clear hf a; intro a hf
    refine s_m hf rfl ?_; clear hf a; intro a hf
    refine s_bool hf (k := 34) rfl (fun hg6_2 hf' => ?_) (fun hg6_2 hf' => ?_)
    · clear hf
      have hf := hf'
      clear hf'
      first | simp only [decide_eq_true_eq, decide_eq_false_iff_not, Bool.not_eq_true', Bool.not_eq_false'] at hg6_2 | skip
      refine s_pass hf rfl rfl ?_; clear hf a; intro a hf
      refine s_pass hf rfl rfl ?_; clear hf a; intro a hf
      refine s_pass hf rfl rfl ?_; clear hf a; intro a hf
      refine s_pass hf rfl rfl ?_; clear hf a; intro a hf
      refine s_v hf (x_pick_t (hf.eval rfl) (hf.eval rfl)) ?_; clear hf a; intro a hf
      refine s_m hf rfl ?_; clear hf a; intro a hf
      refine s_pass hf rfl rfl ?_; clear hf a; intro a hf
      refine s_pass hf rfl rfl ?_; clear hf a; intro a hf
      refine s_pass hf rfl rfl ?_; clear hf a; intro a hf
      refine s_pass hf rfl rfl ?_; clear hf a; intro a hf
      refine s_v hf (x_pick_t (hf.eval rfl) (hf.eval rfl)) ?_; clear hf a; intro a hf
      refine s_m hf rfl ?_; clear hf a; intro a hf
      refine s_pass hf rfl rfl ?_; clear hf a; intro a hf
      refine s_pass hf rfl rfl ?_; clear hf a; intro a hf
      refine s_pass hf rfl rfl ?_; clear hf a; intro a hf
      refine s_pass hf rfl rfl ?_; clear hf a; intro a hf
      refine s_pass hf rfl rfl ?_; clear hf a; intro a hf
      refine s_pass hf rfl rfl ?_; clear hf a; intro a hf
      refine s_pass hf rfl rfl ?_; clear hf a; intro a hf
      refine s_pass hf rfl rfl ?_; clear hf a; intro a hf
      refine s_pass hf rfl rfl ?_; clear hf a; intro a hf
      refine s_pass hf rfl rfl ?_; clear hf a; intro a hf
      refine s_v hf (x_pick_t (hf.eval rfl) (hf.eval rfl)) ?_; clear hf a; intro a hf
      refine s_nil ?_
      refine then_n ?_
      refine c_cond_t hf rfl rfl ?_
      refine wp_seq ?_
      refine wp_region_lit ?_
      refine s_r hf (x_build (v := .agg (fdF (0, 0, 0) (.slice none 0 0) (.slice none 0 0)).toArray) (hf.parts rfl) (fun w => by kernel_rfl) _) ?_; clear hf a; intro a hf
      replace hs := hs.take (A := cb b2 82 (fdF (0, 0, 0) (.slice none 0 0) (.slice none 0 0))) (by first | exact .k0 | exact .k1 | exact .k2 | exact .k3 | exact .k4 | exact .k5 | exact .k6 | exact .k7 | exact .k8 | exact .k9 | exact .k10 | exact .k11)
      refine s_do0 hf rfl (y_storeAgg (cs := fdF (0, 0, 0) (.slice none 0 0) (.slice none 0 0)) hs (n := 5) (by kernel_rfl) (hf.eval rfl) (hf.eval rfl) (by simp [Value.oneCell', fdF]) rfl rfl .k0 ?_); clear hf hs a; intro w hs a hf
      refine s_a hf rfl ?_; clear hf a; intro a hf
      refine s_nil ?_
      refine then_n ?_
      refine wp_ret ?_
      refine then_r ?_
      refine r_2c hf Tryd.results81 rfl rfl hs ag82 rfl .k0 ?_
      have hno : lkOk l = false := by
        unfold lkOk seOk
        first
        | (rw [decide_eq_false (show ¬ 512 ≤ l.length by omega)]; simp; done)
        | (rw [dec_ne hg6_2]; simp; done)
        | (rw [decide_eq_false (show ¬ (sdS l).2.2.1 ≤ 16777216 by omega)]; simp; done)
        | (rw [decide_eq_false (show ¬ (sdS l).2.2.2.1 ≤ 16777216 by omega)]; simp; done)
        | (rw [decide_eq_false (show ¬ (zt (l.drop (seAt l.length + 512)) : Int) = (l.length : Int) - (seAt l.length : Int) - 512 by omega)]; simp; done)
        | (rw [decide_eq_false (show ¬ filZ (sdS l).2.2.1 (sdS l).2.2.2.1 (sdS l).2.2.2.2.2.1 = (l.length : Int) by omega)]; simp; done)
        | (rw [decide_eq_true hc3, hi5]; simp; done)
      rw [hno]
      exact ⟨(0, 0, 0), .slice none 0 0, .slice none 0 0, [], [], rfl, fun h => (by cases h), ((((St.keep [] _ hs).emp (A := datR []) (fun _ => trivial)).emp (A := sl 110 2 (.slice none 0 0) ([] : List Pt).length (([] : List Pt).flatMap pcF)) slW0).emp (slB_nil _))⟩
    · clear hf
      have hf := hf'
      clear hf'
      first | simp only [decide_eq_true_eq, decide_eq_false_iff_not, Bool.not_eq_true', Bool.not_eq_false'] at hg6_2 | skip
      have hdk := decE_yes hg6_2
      obtain ⟨d0, d1, d2, d3, d4, d5⟩ := dec_flds hdk
      rw [(dec_yes hdk).1] at hs
      have hsd : dsF (segS l) = sdS l := by unfold sdS; rfl
      rw [hsd] at d0 d1 d2 d3 d4 d5 hs
      refine s_do hf (wanted_of hf rfl rfl rfl) (.value (x_fieldAddr fo24_2 (hf.eval rfl) _) ?_); clear hf a; intro a hf
      refine s_do hf (wanted_of hf rfl rfl rfl) (.value (x_load sc3 (hf.eval rfl) (by first | exact hs.cell .k0 rfl | exact hs.cell .k1 rfl | exact hs.cell .k2 rfl | exact hs.cell .k3 rfl | exact hs.cell .k4 rfl | exact hs.cell .k5 rfl | exact hs.cell .k6 rfl | exact hs.cell .k7 rfl | exact hs.cell .k8 rfl | exact hs.cell .k9 rfl)) ?_); clear hf a; intro a hf
      refine s_do hf (wanted_of hf rfl rfl rfl) (y_call (hf.eval rfl) (hf.evals rfl) Tryd.call99 ((sized_spec _ _).mono ?_))
      rintro e w1 ⟨rfl, hw9⟩
      rw [hw9]
      clear hw9 w1
      refine ⟨_, rfl, ?_⟩; clear hf a; intro a hf
      refine s_do hf (wanted_of hf rfl rfl rfl) (.value (x_not (hf.eval rfl) _) ?_); clear hf a; intro a hf
      refine s_v hf (x_pick_f (hf.eval rfl) (hf.eval rfl)) ?_; clear hf a; intro a hf
      refine s_m hf rfl ?_; clear hf a; intro a hf
      refine s_bool hf (k := 40) rfl (fun hg6_8 hf' => ?_) (fun hg6_8 hf' => ?_)
      · clear hf
        have hf := hf'
        clear hf'
        first | simp only [decide_eq_true_eq, decide_eq_false_iff_not, Bool.not_eq_true', Bool.not_eq_false'] at hg6_8 | skip
        refine s_pass hf rfl rfl ?_; clear hf a; intro a hf
        refine s_pass hf rfl rfl ?_; clear hf a; intro a hf
        refine s_pass hf rfl rfl ?_; clear hf a; intro a hf
        refine s_pass hf rfl rfl ?_; clear hf a; intro a hf
        refine s_v hf (x_pick_t (hf.eval rfl) (hf.eval rfl)) ?_; clear hf a; intro a hf
        refine s_m hf rfl ?_; clear hf a; intro a hf
        refine s_pass hf rfl rfl ?_; clear hf a; intro a hf
        refine s_pass hf rfl rfl ?_; clear hf a; intro a hf
        refine s_pass hf rfl rfl ?_; clear hf a; intro a hf
        refine s_pass hf rfl rfl ?_; clear hf a; intro a hf
        refine s_pass hf rfl rfl ?_; clear hf a; intro a hf
        refine s_pass hf rfl rfl ?_; clear hf a; intro a hf
        refine s_pass hf rfl rfl ?_; clear hf a; intro a hf
        refine s_pass hf rfl rfl ?_; clear hf a; intro a hf
        refine s_pass hf rfl rfl ?_; clear hf a; intro a hf
        refine s_pass hf rfl rfl ?_; clear hf a; intro a hf
        refine s_v hf (x_pick_t (hf.eval rfl) (hf.eval rfl)) ?_; clear hf a; intro a hf
        refine s_nil ?_
        refine then_n ?_
        refine c_cond_t hf rfl rfl ?_
        refine wp_seq ?_
        refine wp_region_lit ?_
        refine s_r hf (x_build (v := .agg (fdF (0, 0, 0) (.slice none 0 0) (.slice none 0 0)).toArray) (hf.parts rfl) (fun w => by kernel_rfl) _) ?_; clear hf a; intro a hf
        replace hs := hs.take (A := cb b2 82 (fdF (0, 0, 0) (.slice none 0 0) (.slice none 0 0))) (by first | exact .k0 | exact .k1 | exact .k2 | exact .k3 | exact .k4 | exact .k5 | exact .k6 | exact .k7 | exact .k8 | exact .k9 | exact .k10 | exact .k11)
        refine s_do0 hf rfl (y_storeAgg (cs := fdF (0, 0, 0) (.slice none 0 0) (.slice none 0 0)) hs (n := 5) (by kernel_rfl) (hf.eval rfl) (hf.eval rfl) (by simp [Value.oneCell', fdF]) rfl rfl .k0 ?_); clear hf hs a; intro w hs a hf
        refine s_a hf rfl ?_; clear hf a; intro a hf
        refine s_nil ?_
        refine then_n ?_
        refine wp_ret ?_
        refine then_r ?_
        refine r_2c hf Tryd.results81 rfl rfl hs ag82 rfl .k0 ?_
        have hno : lkOk l = false := by
          unfold lkOk seOk
          first
          | (rw [decide_eq_false (show ¬ 512 ≤ l.length by omega)]; simp; done)
          | (rw [dec_ne hg6_2]; simp; done)
          | (rw [decide_eq_false (show ¬ (sdS l).2.2.1 ≤ 16777216 by omega)]; simp; done)
          | (rw [decide_eq_false (show ¬ (sdS l).2.2.2.1 ≤ 16777216 by omega)]; simp; done)
          | (rw [decide_eq_false (show ¬ (zt (l.drop (seAt l.length + 512)) : Int) = (l.length : Int) - (seAt l.length : Int) - 512 by omega)]; simp; done)
          | (rw [decide_eq_false (show ¬ filZ (sdS l).2.2.1 (sdS l).2.2.2.1 (sdS l).2.2.2.2.2.1 = (l.length : Int) by omega)]; simp; done)
          | (rw [decide_eq_true hc3, hi5]; simp; done)
        rw [hno]
        exact ⟨(0, 0, 0), .slice none 0 0, .slice none 0 0, [], [], rfl, fun h => (by cases h), ((((St.keep [] _ hs).emp (A := datR []) (fun _ => trivial)).emp (A := sl 110 2 (.slice none 0 0) ([] : List Pt).length (([] : List Pt).flatMap pcF)) slW0).emp (slB_nil _))⟩
      · clear hf
        have hf := hf'
        clear hf'
        first | simp only [decide_eq_true_eq, decide_eq_false_iff_not, Bool.not_eq_true', Bool.not_eq_false'] at hg6_8 | skip
        refine s_do hf (wanted_of hf rfl rfl rfl) (.value (x_fieldAddr fo24_3 (hf.eval rfl) _) ?_); clear hf a; intro a hf
        refine s_do hf (wanted_of hf rfl rfl rfl) (.value (x_load sc3 (hf.eval rfl) (by first | exact hs.cell .k0 rfl | exact hs.cell .k1 rfl | exact hs.cell .k2 rfl | exact hs.cell .k3 rfl | exact hs.cell .k4 rfl | exact hs.cell .k5 rfl | exact hs.cell .k6 rfl | exact hs.cell .k7 rfl | exact hs.cell .k8 rfl | exact hs.cell .k9 rfl)) ?_); clear hf a; intro a hf
        refine s_do hf (wanted_of hf rfl rfl rfl) (y_call (hf.eval rfl) (hf.evals rfl) Tryd.call99 ((sized_spec _ _).mono ?_))
        rintro e w1 ⟨rfl, hw9⟩
        rw [hw9]
        clear hw9 w1
        refine ⟨_, rfl, ?_⟩; clear hf a; intro a hf
        refine s_do hf (wanted_of hf rfl rfl rfl) (.value (x_not (hf.eval rfl) _) ?_); clear hf a; intro a hf
        refine s_v hf (x_pick_f (hf.eval rfl) (hf.eval rfl)) ?_; clear hf a; intro a hf
        refine s_m hf rfl ?_; clear hf a; intro a hf
        refine s_bool hf (k := 46) rfl (fun hg6_14 hf' => ?_) (fun hg6_14 hf' => ?_)
        · clear hf
          have hf := hf'
          clear hf'
          first | simp only [decide_eq_true_eq, decide_eq_false_iff_not, Bool.not_eq_true', Bool.not_eq_false'] at hg6_14 | skip
          refine s_pass hf rfl rfl ?_; clear hf a; intro a hf
          refine s_pass hf rfl rfl ?_; clear hf a; intro a hf
          refine s_pass hf rfl rfl ?_; clear hf a; intro a hf
          refine s_pass hf rfl rfl ?_; clear hf a; intro a hf
          refine s_pass hf rfl rfl ?_; clear hf a; intro a hf
          refine s_pass hf rfl rfl ?_; clear hf a; intro a hf
          refine s_pass hf rfl rfl ?_; clear hf a; intro a hf
          refine s_pass hf rfl rfl ?_; clear hf a; intro a hf
          refine s_pass hf rfl rfl ?_; clear hf a; intro a hf
          refine s_pass hf rfl rfl ?_; clear hf a; intro a hf
          refine s_v hf (x_pick_t (hf.eval rfl) (hf.eval rfl)) ?_; clear hf a; intro a hf
          refine s_nil ?_
          refine then_n ?_
          refine c_cond_t hf rfl rfl ?_
          refine wp_seq ?_
          refine wp_region_lit ?_
          refine s_r hf (x_build (v := .agg (fdF (0, 0, 0) (.slice none 0 0) (.slice none 0 0)).toArray) (hf.parts rfl) (fun w => by kernel_rfl) _) ?_; clear hf a; intro a hf
          replace hs := hs.take (A := cb b2 82 (fdF (0, 0, 0) (.slice none 0 0) (.slice none 0 0))) (by first | exact .k0 | exact .k1 | exact .k2 | exact .k3 | exact .k4 | exact .k5 | exact .k6 | exact .k7 | exact .k8 | exact .k9 | exact .k10 | exact .k11)
          refine s_do0 hf rfl (y_storeAgg (cs := fdF (0, 0, 0) (.slice none 0 0) (.slice none 0 0)) hs (n := 5) (by kernel_rfl) (hf.eval rfl) (hf.eval rfl) (by simp [Value.oneCell', fdF]) rfl rfl .k0 ?_); clear hf hs a; intro w hs a hf
          refine s_a hf rfl ?_; clear hf a; intro a hf
          refine s_nil ?_
          refine then_n ?_
          refine wp_ret ?_
          refine then_r ?_
          refine r_2c hf Tryd.results81 rfl rfl hs ag82 rfl .k0 ?_
          have hno : lkOk l = false := by
            unfold lkOk seOk
            first
            | (rw [decide_eq_false (show ¬ 512 ≤ l.length by omega)]; simp; done)
            | (rw [dec_ne hg6_2]; simp; done)
            | (rw [decide_eq_false (show ¬ (sdS l).2.2.1 ≤ 16777216 by omega)]; simp; done)
            | (rw [decide_eq_false (show ¬ (sdS l).2.2.2.1 ≤ 16777216 by omega)]; simp; done)
            | (rw [decide_eq_false (show ¬ (zt (l.drop (seAt l.length + 512)) : Int) = (l.length : Int) - (seAt l.length : Int) - 512 by omega)]; simp; done)
            | (rw [decide_eq_false (show ¬ filZ (sdS l).2.2.1 (sdS l).2.2.2.1 (sdS l).2.2.2.2.2.1 = (l.length : Int) by omega)]; simp; done)
            | (rw [decide_eq_true hc3, hi5]; simp; done)
          rw [hno]
          exact ⟨(0, 0, 0), .slice none 0 0, .slice none 0 0, [], [], rfl, fun h => (by cases h), ((((St.keep [] _ hs).emp (A := datR []) (fun _ => trivial)).emp (A := sl 110 2 (.slice none 0 0) ([] : List Pt).length (([] : List Pt).flatMap pcF)) slW0).emp (slB_nil _))⟩
        · clear hf
          have hf := hf'
          clear hf'
          first | simp only [decide_eq_true_eq, decide_eq_false_iff_not, Bool.not_eq_true', Bool.not_eq_false'] at hg6_14 | skip
          refine s_do hf (wanted_of hf rfl rfl rfl) (.value (x_move (hf.eval rfl) _) ?_); clear hf a; intro a hf
          refine s_do hf (wanted_of hf rfl rfl rfl) (.value (x_move (hf.eval rfl) _) ?_); clear hf a; intro a hf
          refine s_do hf (wanted_of hf rfl rfl rfl) (.value (x_bin (hf.eval rfl) (hf.eval rfl) (r_addi _ (by omega) (by omega)) _) ?_); clear hf a; intro a hf
          refine s_do hf (wanted_of hf rfl rfl rfl) (.value (x_slice_lo sl25 (hf.eval rfl) (hf.eval rfl)  (by omega) (by omega) _) ?_); clear hf a; intro a hf
          replace hf := hf.now (k := 50) (v' := .slice (subA a1 c1 ((seAt l.length) + 512) 1) (l.drop ((seAt l.length) + 512)).length (c1 - ((seAt l.length) + 512))) rfl (by rw [List.length_drop]; congr 1 <;> omega)
          refine s_do hf (wanted_of hf rfl rfl rfl) (y_call (hf.eval rfl) (hf.evals rfl) Tryd.call80 ((tail_spec _ _ _ (l.drop ((seAt l.length) + 512)) (hs.oldB (tl_rd hr1 hsa)) (by rw [List.length_drop]; omega)).mono ?_))
          rintro e w1 ⟨rfl, hk⟩
          replace hs := hs.ext hk
          refine ⟨_, rfl, ?_⟩; clear hf a; intro a hf
          refine s_do hf (wanted_of hf rfl rfl rfl) (.value (x_move (hf.eval rfl) _) ?_); clear hf a; intro a hf
          refine s_do hf (wanted_of hf rfl rfl rfl) (.value (x_move (hf.eval rfl) _) ?_); clear hf a; intro a hf
          refine s_do hf (wanted_of hf rfl rfl rfl) (.value (x_bin (hf.eval rfl) (hf.eval rfl) (r_subi _ (by omega) (by omega)) _) ?_); clear hf a; intro a hf
          refine s_do hf (wanted_of hf rfl rfl rfl) (.value (x_bin (hf.eval rfl) (hf.eval rfl) (r_subi _ (by omega) (by omega)) _) ?_); clear hf a; intro a hf
          refine s_do hf (wanted_of hf rfl rfl rfl) (.value (x_bin (hf.eval rfl) (hf.eval rfl) (r_ne _ _ _ _) _) ?_); clear hf a; intro a hf
          refine s_v hf (x_pick_f (hf.eval rfl) (hf.eval rfl)) ?_; clear hf a; intro a hf
          refine s_nil ?_
          refine then_n ?_
          refine c_cond hf rfl (fun hi1 => ?_) (fun hi1 => ?_)
          · first | simp only [decide_eq_true_eq, decide_eq_false_iff_not, Bool.not_eq_true', Bool.not_eq_false'] at hi1 | skip
            refine wp_seq ?_
            refine wp_region_lit ?_
            refine s_r hf (x_build (v := .agg (fdF (0, 0, 0) (.slice none 0 0) (.slice none 0 0)).toArray) (hf.parts rfl) (fun w => by kernel_rfl) _) ?_; clear hf a; intro a hf
            replace hs := hs.take (A := cb b2 82 (fdF (0, 0, 0) (.slice none 0 0) (.slice none 0 0))) (by first | exact .k0 | exact .k1 | exact .k2 | exact .k3 | exact .k4 | exact .k5 | exact .k6 | exact .k7 | exact .k8 | exact .k9 | exact .k10 | exact .k11)
            refine s_do0 hf rfl (y_storeAgg (cs := fdF (0, 0, 0) (.slice none 0 0) (.slice none 0 0)) hs (n := 5) (by kernel_rfl) (hf.eval rfl) (hf.eval rfl) (by simp [Value.oneCell', fdF]) rfl rfl .k0 ?_); clear hf hs a; intro w hs a hf
            refine s_a hf rfl ?_; clear hf a; intro a hf
            refine s_nil ?_
            refine then_n ?_
            refine wp_ret ?_
            refine then_r ?_
            refine r_2c hf Tryd.results81 rfl rfl hs ag82 rfl .k0 ?_
            have hno : lkOk l = false := by
              unfold lkOk seOk
              first
              | (rw [decide_eq_false (show ¬ 512 ≤ l.length by omega)]; simp; done)
              | (rw [dec_ne hg6_2]; simp; done)
              | (rw [decide_eq_false (show ¬ (sdS l).2.2.1 ≤ 16777216 by omega)]; simp; done)
              | (rw [decide_eq_false (show ¬ (sdS l).2.2.2.1 ≤ 16777216 by omega)]; simp; done)
              | (rw [decide_eq_false (show ¬ (zt (l.drop (seAt l.length + 512)) : Int) = (l.length : Int) - (seAt l.length : Int) - 512 by omega)]; simp; done)
              | (rw [decide_eq_false (show ¬ filZ (sdS l).2.2.1 (sdS l).2.2.2.1 (sdS l).2.2.2.2.2.1 = (l.length : Int) by omega)]; simp; done)
              | (rw [decide_eq_true hc3, hi5]; simp; done)
            rw [hno]
            exact ⟨(0, 0, 0), .slice none 0 0, .slice none 0 0, [], [], rfl, fun h => (by cases h), ((((St.keep [] _ hs).emp (A := datR []) (fun _ => trivial)).emp (A := sl 110 2 (.slice none 0 0) ([] : List Pt).length (([] : List Pt).flatMap pcF)) slW0).emp (slB_nil _))⟩
          · first | simp only [decide_eq_true_eq, decide_eq_false_iff_not, Bool.not_eq_true', Bool.not_eq_false'] at hi1 | skip
            refine wp_skip ?_
            refine then_n ?_
            refine wp_seq ?_
            refine wp_region_lit ?_
            refine s_v hf (x_fieldAddr fo24_2 (hf.eval rfl)) ?_; clear hf a; intro a hf
            refine s_r hf (x_load sc3 (hf.eval rfl) (by first | exact hs.cell .k0 rfl | exact hs.cell .k1 rfl | exact hs.cell .k2 rfl | exact hs.cell .k3 rfl | exact hs.cell .k4 rfl | exact hs.cell .k5 rfl | exact hs.cell .k6 rfl | exact hs.cell .k7 rfl | exact hs.cell .k8 rfl | exact hs.cell .k9 rfl)) ?_; clear hf a; intro a hf
            refine s_v hf (x_fieldAddr fo24_3 (hf.eval rfl)) ?_; clear hf a; intro a hf
            refine s_r hf (x_load sc3 (hf.eval rfl) (by first | exact hs.cell .k0 rfl | exact hs.cell .k1 rfl | exact hs.cell .k2 rfl | exact hs.cell .k3 rfl | exact hs.cell .k4 rfl | exact hs.cell .k5 rfl | exact hs.cell .k6 rfl | exact hs.cell .k7 rfl | exact hs.cell .k8 rfl | exact hs.cell .k9 rfl)) ?_; clear hf a; intro a hf
            refine s_v hf (x_fieldAddr fo24_5 (hf.eval rfl)) ?_; clear hf a; intro a hf
            refine s_r hf (x_load sc3 (hf.eval rfl) (by first | exact hs.cell .k0 rfl | exact hs.cell .k1 rfl | exact hs.cell .k2 rfl | exact hs.cell .k3 rfl | exact hs.cell .k4 rfl | exact hs.cell .k5 rfl | exact hs.cell .k6 rfl | exact hs.cell .k7 rfl | exact hs.cell .k8 rfl | exact hs.cell .k9 rfl)) ?_; clear hf a; intro a hf
            refine s_do hf rfl (y_call (hf.eval rfl) (hf.evals rfl) Tryd.call100 ((placedF_spec _ (sdS l).2.2.1 (sdS l).2.2.2.1 (sdS l).2.2.2.2.2.1 (by omega) (by omega) (by omega) (by omega) (by omega) (by omega)).mono ?_))
            rintro e w1 ⟨rfl, hk⟩
            replace hs := hs.ext hk
            refine ⟨_, rfl, ?_⟩; clear hf a; intro a hf
            refine s_do hf rfl (y_alloc hs Tryd.zeroValue100 ?_); clear hf hs a; intro b8 w hs a hf
            change St _ _ (cb b8 100 [.int .i64 0, .int .i64 0, .int .i64 0] :: _) at hs
            refine s_do0 hf rfl (y_storeAgg (cs := [.int .i64 (upZ (max (sdS l).2.2.1 (sdS l).2.2.2.1)), .int .i64 (filZ (sdS l).2.2.1 (sdS l).2.2.2.1 (sdS l).2.2.2.2.2.1 / 512 * 512 - 512), .int .i64 (filZ (sdS l).2.2.1 (sdS l).2.2.2.1 (sdS l).2.2.2.2.2.1)]) hs (n := 3) (by kernel_rfl) (hf.eval rfl) (hf.eval rfl) (by simp [Value.oneCell']) rfl rfl .k0 ?_); clear hf hs a; intro w hs a hf
            refine s_nil ?_
            refine then_n ?_
            refine wp_seq ?_
            refine wp_seq ?_
            refine wp_region_lit ?_
            refine s_v hf (x_fieldAddr fo100_2 (hf.eval rfl)) ?_; clear hf a; intro a hf
            refine s_r hf (x_load sc3 (hf.eval rfl) (by first | exact hs.cell .k0 rfl | exact hs.cell .k1 rfl | exact hs.cell .k2 rfl | exact hs.cell .k3 rfl | exact hs.cell .k4 rfl | exact hs.cell .k5 rfl | exact hs.cell .k6 rfl | exact hs.cell .k7 rfl | exact hs.cell .k8 rfl | exact hs.cell .k9 rfl)) ?_; clear hf a; intro a hf
            refine s_m hf rfl ?_; clear hf a; intro a hf
            refine s_v hf (x_bin (hf.eval rfl) (hf.eval rfl) (r_ne _ _ _ _)) ?_; clear hf a; intro a hf
            refine s_nil ?_
            refine then_n ?_
            refine c_cond hf rfl (fun hi2 => ?_) (fun hi2 => ?_)
            · first | simp only [decide_eq_true_eq, decide_eq_false_iff_not, Bool.not_eq_true', Bool.not_eq_false'] at hi2 | skip
              try simp only [ne_eq, Classical.not_not] at hi2
              refine wp_seq ?_
              refine wp_region_lit ?_
              refine s_r hf (x_build (v := .agg (fdF (0, 0, 0) (.slice none 0 0) (.slice none 0 0)).toArray) (hf.parts rfl) (fun w => by kernel_rfl) _) ?_; clear hf a; intro a hf
              replace hs := hs.take (A := cb b2 82 (fdF (0, 0, 0) (.slice none 0 0) (.slice none 0 0))) (by first | exact .k0 | exact .k1 | exact .k2 | exact .k3 | exact .k4 | exact .k5 | exact .k6 | exact .k7 | exact .k8 | exact .k9 | exact .k10 | exact .k11)
              refine s_do0 hf rfl (y_storeAgg (cs := fdF (0, 0, 0) (.slice none 0 0) (.slice none 0 0)) hs (n := 5) (by kernel_rfl) (hf.eval rfl) (hf.eval rfl) (by simp [Value.oneCell', fdF]) rfl rfl .k0 ?_); clear hf hs a; intro w hs a hf
              refine s_a hf rfl ?_; clear hf a; intro a hf
              refine s_nil ?_
              refine then_n ?_
              refine wp_ret ?_
              refine then_r ?_
              refine r_2c hf Tryd.results81 rfl rfl hs ag82 rfl .k0 ?_
              have hno : lkOk l = false := by
                unfold lkOk seOk
                first
                | (rw [decide_eq_false (show ¬ 512 ≤ l.length by omega)]; simp; done)
                | (rw [dec_ne hg6_2]; simp; done)
                | (rw [decide_eq_false (show ¬ (sdS l).2.2.1 ≤ 16777216 by omega)]; simp; done)
                | (rw [decide_eq_false (show ¬ (sdS l).2.2.2.1 ≤ 16777216 by omega)]; simp; done)
                | (rw [decide_eq_false (show ¬ (zt (l.drop (seAt l.length + 512)) : Int) = (l.length : Int) - (seAt l.length : Int) - 512 by omega)]; simp; done)
                | (rw [decide_eq_false (show ¬ filZ (sdS l).2.2.1 (sdS l).2.2.2.1 (sdS l).2.2.2.2.2.1 = (l.length : Int) by omega)]; simp; done)
                | (rw [decide_eq_true hc3, hi5]; simp; done)
              rw [hno]
              exact ⟨(0, 0, 0), .slice none 0 0, .slice none 0 0, [], [], rfl, fun h => (by cases h), ((((St.keep [] _ hs).emp (A := datR []) (fun _ => trivial)).emp (A := sl 110 2 (.slice none 0 0) ([] : List Pt).length (([] : List Pt).flatMap pcF)) slW0).emp (slB_nil _))⟩
            · first | simp only [decide_eq_true_eq, decide_eq_false_iff_not, Bool.not_eq_true', Bool.not_eq_false'] at hi2 | skip
              try simp only [ne_eq, Classical.not_not] at hi2
              have hfil : filZ (sdS l).2.2.1 (sdS l).2.2.2.1 (sdS l).2.2.2.2.2.1 = (l.length : Int) := by omega
              have hse : seOk l = true := by unfold seOk; rw [decide_eq_true hn5, hdk, decide_eq_true (show (sdS l).2.2.1 ≤ 16777216 by omega), decide_eq_true (show (sdS l).2.2.2.1 ≤ 16777216 by omega), decide_eq_true hfil, decide_eq_true (show (zt (l.drop (seAt l.length + 512)) : Int) = (l.length : Int) - (seAt l.length : Int) - 512 by omega)]; rfl
              have hgd := seGood hse
              have gb := hgd.body
              have gs := hgd.st
              have gu := hgd.sum
              rw [hfil] at hs
              refine wp_skip ?_
              refine then_n ?_
              refine wp_seq ?_
              refine wp_region_lit ?_
              refine s_v hf (x_fieldAddr fo24_0 (hf.eval rfl)) ?_; clear hf a; intro a hf
              refine s_r hf (x_load sc3 (hf.eval rfl) (by first | exact hs.cell .k0 rfl | exact hs.cell .k1 rfl | exact hs.cell .k2 rfl | exact hs.cell .k3 rfl | exact hs.cell .k4 rfl | exact hs.cell .k5 rfl | exact hs.cell .k6 rfl | exact hs.cell .k7 rfl | exact hs.cell .k8 rfl | exact hs.cell .k9 rfl)) ?_; clear hf a; intro a hf
              refine s_v hf (x_fieldAddr fo24_1 (hf.eval rfl)) ?_; clear hf a; intro a hf
              refine s_r hf (x_load sc3 (hf.eval rfl) (by first | exact hs.cell .k0 rfl | exact hs.cell .k1 rfl | exact hs.cell .k2 rfl | exact hs.cell .k3 rfl | exact hs.cell .k4 rfl | exact hs.cell .k5 rfl | exact hs.cell .k6 rfl | exact hs.cell .k7 rfl | exact hs.cell .k8 rfl | exact hs.cell .k9 rfl)) ?_; clear hf a; intro a hf
              refine s_v hf (x_fieldAddr fo24_2 (hf.eval rfl)) ?_; clear hf a; intro a hf
              refine s_r hf (x_load sc3 (hf.eval rfl) (by first | exact hs.cell .k0 rfl | exact hs.cell .k1 rfl | exact hs.cell .k2 rfl | exact hs.cell .k3 rfl | exact hs.cell .k4 rfl | exact hs.cell .k5 rfl | exact hs.cell .k6 rfl | exact hs.cell .k7 rfl | exact hs.cell .k8 rfl | exact hs.cell .k9 rfl)) ?_; clear hf a; intro a hf
              refine s_r hf (x_build (v := .agg (vdF ((sdS l).1, (sdS l).2.1, (sdS l).2.2.1)).toArray) (hf.parts rfl) (fun w => by kernel_rfl) _) ?_; clear hf a; intro a hf
              refine s_r hf (x_build (v := .agg (fdF ((sdS l).1, (sdS l).2.1, (sdS l).2.2.1) (.slice none 0 0) (.slice none 0 0)).toArray) (hf.parts rfl) (fun w => by kernel_rfl) _) ?_; clear hf a; intro a hf
              refine s_do hf rfl (y_alloc hs Tryd.zeroValue82 ?_); clear hf hs a; intro b9 w hs a hf
              change St _ _ (cb b9 82 (fdF (0, 0, 0) (.slice none 0 0) (.slice none 0 0)) :: _) at hs
              refine s_do0 hf rfl (y_storeAgg (cs := fdF ((sdS l).1, (sdS l).2.1, (sdS l).2.2.1) (.slice none 0 0) (.slice none 0 0)) hs (n := 5) (by kernel_rfl) (hf.eval rfl) (hf.eval rfl) (by simp [Value.oneCell', fdF]) rfl rfl .k0 ?_); clear hf hs a; intro w hs a hf
              refine s_nil ?_
              refine then_n ?_
              refine c_join (N := 132) (L0 := [(0, _), (2, _), (9, _)]) (fun M w => ∃ (av : Option Addr) (cvv : Nat) (ps : List Pt), M = [] ∧ lkOk l = true ∧ ps.map pcOf = lkP l ∧ St ⟨w0, None_⟩ w [cb b9 82 (fdF ((sdS l).1, (sdS l).2.1, lkZ l) (.slice none 0 0) (.slice av ps.length cvv)), sl 110 2 (.slice av ps.length cvv) ps.length (ps.flatMap pcF), datR ps, cb b2 82 (fdF (0, 0, 0) (.slice none 0 0) (.slice none 0 0))]) (hf.sub ⟨rfl, rfl, rfl, trivial⟩) ?_ ?_
              · refine wp_seq ?_
                refine wp_region_lit ?_
                refine s_v hf (x_fieldAddr fo24_0 (hf.eval rfl)) ?_; clear hf a; intro a hf
                refine s_r hf (x_load sc3 (hf.eval rfl) (by first | exact hs.cell .k0 rfl | exact hs.cell .k1 rfl | exact hs.cell .k2 rfl | exact hs.cell .k3 rfl | exact hs.cell .k4 rfl | exact hs.cell .k5 rfl | exact hs.cell .k6 rfl | exact hs.cell .k7 rfl | exact hs.cell .k8 rfl | exact hs.cell .k9 rfl)) ?_; clear hf a; intro a hf
                refine s_nil ?_
                refine then_n ?_
                refine wp_block ?_
                refine wp_seq ?_
                refine wp_region_lit ?_
                refine s_v hf (x_bin (hf.eval rfl) (hf.eval rfl) (r_eq _ _ _ _)) ?_; clear hf a; intro a hf
                refine s_a hf rfl ?_; clear hf a; intro a hf
                refine s_nil ?_
                refine then_n ?_
                refine c_cond hf rfl (fun hi3 => ?_) (fun hi3 => ?_)
                · first | simp only [decide_eq_true_eq, decide_eq_false_iff_not, Bool.not_eq_true', Bool.not_eq_false'] at hi3 | skip
                  refine wp_region_lit ?_
                  refine s_v hf (x_fieldAddr fo24_3 (hf.eval rfl)) ?_; clear hf a; intro a hf
                  refine s_r hf (x_load sc3 (hf.eval rfl) (by first | exact hs.cell .k0 rfl | exact hs.cell .k1 rfl | exact hs.cell .k2 rfl | exact hs.cell .k3 rfl | exact hs.cell .k4 rfl | exact hs.cell .k5 rfl | exact hs.cell .k6 rfl | exact hs.cell .k7 rfl | exact hs.cell .k8 rfl | exact hs.cell .k9 rfl)) ?_; clear hf a; intro a hf
                  refine s_v hf (x_fieldAddr fo82_0 (hf.eval rfl)) ?_; clear hf a; intro a hf
                  refine s_v hf (x_fieldAddr fo45_2 (hf.eval rfl)) ?_; clear hf a; intro a hf
                  replace hs := hs.take (A := cb b9 82 (fdF ((sdS l).1, (sdS l).2.1, (sdS l).2.2.1) (.slice none 0 0) (.slice none 0 0))) (by first | exact .k0 | exact .k1 | exact .k2 | exact .k3 | exact .k4 | exact .k5 | exact .k6 | exact .k7 | exact .k8 | exact .k9 | exact .k10 | exact .k11)
                  refine s_do0 hf rfl (y_store hs sc3 (hf.eval rfl) (hf.eval rfl) rfl .k0 (by simp [fdF]) ?_); clear hf hs a; intro w hs a hf
                  change St _ _ (cb b9 82 (fdF ((sdS l).1, (sdS l).2.1, (sdS l).2.2.2.1) (.slice none 0 0) (.slice none 0 0)) :: _) at hs
                  have hz : lkZ l = (sdS l).2.2.2.1 := by unfold lkZ; rw [if_pos hi3]
                  have hok9 : lkOk l = true := by unfold lkOk; rw [hse, decide_eq_false (show ¬ (sdS l).1 = 3 by omega)]; rfl
                  have hpm9 : ([] : List Pt).map pcOf = lkP l := by unfold lkP; rw [if_neg (show ¬ (sdS l).1 = 3 by omega)]; rfl
                  rw [← hz] at hs
                  replace hs := hs.take (A := cb b2 82 (fdF (0, 0, 0) (.slice none 0 0) (.slice none 0 0))) (by first | exact .k0 | exact .k1 | exact .k2 | exact .k3 | exact .k4 | exact .k5 | exact .k6 | exact .k7 | exact .k8 | exact .k9 | exact .k10 | exact .k11)
                  replace hs := (hs.emp (A := datR []) (fun _ => trivial)).emp (A := sl 110 2 (.slice none 0 0) ([] : List Pt).length (([] : List Pt).flatMap pcF)) slW0
                  replace hs := hs.take (A := cb b9 82 (fdF ((sdS l).1, (sdS l).2.1, lkZ l) (.slice none 0 0) (.slice none 0 0))) (by first | exact .k0 | exact .k1 | exact .k2 | exact .k3 | exact .k4 | exact .k5 | exact .k6 | exact .k7 | exact .k8 | exact .k9 | exact .k10 | exact .k11)
                  have hs9 := St.keep [_, _, _, _] _ hs
                  refine s_nil ?_
                  refine blk_n ?_
                  refine then_n ?_
                  exact ⟨_, ⟨_, _, _, rfl, hok9, hpm9, hs9⟩, hf.sub ⟨rfl, rfl, rfl, trivial⟩⟩
                · first | simp only [decide_eq_true_eq, decide_eq_false_iff_not, Bool.not_eq_true', Bool.not_eq_false'] at hi3 | skip
                  refine wp_seq ?_
                  refine wp_region_lit ?_
                  refine s_v hf (x_bin (hf.eval rfl) (hf.eval rfl) (r_eq _ _ _ _)) ?_; clear hf a; intro a hf
                  refine s_a hf rfl ?_; clear hf a; intro a hf
                  refine s_nil ?_
                  refine then_n ?_
                  refine c_cond hf rfl (fun hi4 => ?_) (fun hi4 => ?_)
                  · first | simp only [decide_eq_true_eq, decide_eq_false_iff_not, Bool.not_eq_true', Bool.not_eq_false'] at hi4 | skip
                    refine wp_seq ?_
                    refine c_draw hs (fun _ => True) [.read, .held, .held, .read, .held, .read, .held, .read, .held, .held, .eff, .held, .held, .held, .held, .held] (by kernel_rfl) (by kernel_rfl) (fun _ _ _ => trivial) ?_
                    clear hs; intro w hs hC hw
                    replace hs := hs.take (A := cb b6 24 (slF (sdS l))) (by first | exact .k0 | exact .k1 | exact .k2 | exact .k3 | exact .k4 | exact .k5 | exact .k6 | exact .k7 | exact .k8 | exact .k9 | exact .k10 | exact .k11)
                    refine m_read hf rfl (x_loadBlk hs ag24 (hf.eval rfl) rfl (by first | exact .k0 | exact .k1 | exact .k2 | exact .k3 | exact .k4 | exact .k5 | exact .k6 | exact .k7 | exact .k8 | exact .k9)) ?_; clear hf a; intro a hf
                    refine m_held hf rfl (fun w' _ => x_move (hf.eval rfl) w') ?_; clear hf a; intro a hf
                    refine m_held hf rfl (fun w' _ => x_fieldAddr fo100_0 (hf.eval rfl) w') ?_; clear hf a; intro a hf
                    refine m_read hf rfl (x_load sc3 (hf.eval rfl) (by first | exact hs.cell .k0 rfl | exact hs.cell .k1 rfl | exact hs.cell .k2 rfl | exact hs.cell .k3 rfl | exact hs.cell .k4 rfl | exact hs.cell .k5 rfl | exact hs.cell .k6 rfl | exact hs.cell .k7 rfl | exact hs.cell .k8 rfl | exact hs.cell .k9 rfl)) ?_; clear hf a; intro a hf
                    refine m_held hf rfl (fun w' _ => x_fieldAddr fo100_0 (hf.eval rfl) w') ?_; clear hf a; intro a hf
                    refine m_read hf rfl (x_load sc3 (hf.eval rfl) (by first | exact hs.cell .k0 rfl | exact hs.cell .k1 rfl | exact hs.cell .k2 rfl | exact hs.cell .k3 rfl | exact hs.cell .k4 rfl | exact hs.cell .k5 rfl | exact hs.cell .k6 rfl | exact hs.cell .k7 rfl | exact hs.cell .k8 rfl | exact hs.cell .k9 rfl)) ?_; clear hf a; intro a hf
                    refine m_held hf rfl (fun w' _ => x_fieldAddr fo24_5 (hf.eval rfl) w') ?_; clear hf a; intro a hf
                    refine m_read hf rfl (x_load sc3 (hf.eval rfl) (by first | exact hs.cell .k0 rfl | exact hs.cell .k1 rfl | exact hs.cell .k2 rfl | exact hs.cell .k3 rfl | exact hs.cell .k4 rfl | exact hs.cell .k5 rfl | exact hs.cell .k6 rfl | exact hs.cell .k7 rfl | exact hs.cell .k8 rfl | exact hs.cell .k9 rfl)) ?_; clear hf a; intro a hf
                    refine m_held hf rfl (fun w' _ => x_bin (hf.eval rfl) (hf.eval rfl) (r_addi _ (by omega) (by omega)) w') ?_; clear hf a; intro a hf
                    refine m_held hf rfl (fun w' _ => x_slice sl25 (hf.eval rfl) (hf.eval rfl) (hf.eval rfl)  (by omega) (by omega) (by omega) w') ?_; clear hf a; intro a hf
                    have hbl : (bodyS l).length = (sdS l).2.2.2.2.2.1.toNat := by unfold bodyS; rw [List.length_take, List.length_drop]; omega
                    have hbr : RdB (hp w0) (.slice (subA a1 c1 (upZ (max (sdS l).2.2.1 (sdS l).2.2.2.1)).toNat 1) (bodyS l).length (c1 - (upZ (max (sdS l).2.2.1 (sdS l).2.2.2.1)).toNat)) (bodyS l) := by unfold bodyS; exact sub_rd hr1 (by omega)
                    replace hf := hf.now (k := 99) (v' := .slice (subA a1 c1 (upZ (max (sdS l).2.2.1 (sdS l).2.2.2.1)).toNat 1) (bodyS l).length (c1 - (upZ (max (sdS l).2.2.1 (sdS l).2.2.2.1)).toNat)) rfl (by rw [hbl]; exact slice_eq rfl (by omega) rfl)
                    refine m_eff hf rfl (y_call (hf.eval rfl) (hf.evals rfl) Tryd.call101 ((restored_spec _ (hT.kept hs.kept) (sdS l) gu (by omega) (by omega) _ _ (bodyS l) (hs.oldB hbr) (by omega)).mono ?_))
                    rintro e w1 ⟨vr, ps, rfl, hps, hj⟩
                    replace hs := hs.join hj
                    simp only [List.cons_append, List.nil_append] at hs
                    obtain ⟨av, cvv, rfl⟩ := sl_shape hs
                    have hc3 : (sdS l).1 = 3 := hi4
                    refine ⟨_, rfl, ⟨trivial, ?_⟩⟩; clear hf a; intro a hf
                    refine m_held hf rfl (fun w' _ => x_move (hf.eval rfl) w') ?_; clear hf a; intro a hf
                    refine m_held hf rfl (fun w' _ => x_extract (hf.eval rfl) rfl w') ?_; clear hf a; intro a hf
                    refine m_held hf rfl (fun w' _ => x_extract (hf.eval rfl) rfl w') ?_; clear hf a; intro a hf
                    refine m_held hf rfl (fun w' _ => x_assign (hf.eval rfl) w') ?_; clear hf a; intro a hf
                    refine m_held hf rfl (fun w' _ => x_assign (hf.eval rfl) w') ?_; clear hf a; intro a hf
                    refine m_nil ?_
                    refine then_n ?_
                    refine wp_seq ?_
                    refine wp_seq ?_
                    refine wp_region_lit ?_
                    refine s_m hf rfl ?_; clear hf a; intro a hf
                    refine s_v hf (x_not (hf.eval rfl)) ?_; clear hf a; intro a hf
                    refine s_nil ?_
                    refine then_n ?_
                    refine c_cond hf rfl (fun hi5 => ?_) (fun hi5 => ?_)
                    · first | simp only [decide_eq_true_eq, decide_eq_false_iff_not, Bool.not_eq_true', Bool.not_eq_false'] at hi5 | skip
                      refine wp_seq ?_
                      refine wp_region_lit ?_
                      refine s_r hf (x_build (v := .agg (fdF (0, 0, 0) (.slice none 0 0) (.slice none 0 0)).toArray) (hf.parts rfl) (fun w => by kernel_rfl) _) ?_; clear hf a; intro a hf
                      replace hs := hs.take (A := cb b2 82 (fdF (0, 0, 0) (.slice none 0 0) (.slice none 0 0))) (by first | exact .k0 | exact .k1 | exact .k2 | exact .k3 | exact .k4 | exact .k5 | exact .k6 | exact .k7 | exact .k8 | exact .k9 | exact .k10 | exact .k11)
                      refine s_do0 hf rfl (y_storeAgg (cs := fdF (0, 0, 0) (.slice none 0 0) (.slice none 0 0)) hs (n := 5) (by kernel_rfl) (hf.eval rfl) (hf.eval rfl) (by simp [Value.oneCell', fdF]) rfl rfl .k0 ?_); clear hf hs a; intro w hs a hf
                      refine s_a hf rfl ?_; clear hf a; intro a hf
                      refine s_nil ?_
                      refine then_n ?_
                      refine wp_ret ?_
                      refine then_r (blk_r (then_r ?_))
                      refine r_2c hf Tryd.results81 rfl rfl hs ag82 rfl .k0 ?_
                      have hno : lkOk l = false := by
                        unfold lkOk seOk
                        first
                        | (rw [decide_eq_false (show ¬ 512 ≤ l.length by omega)]; simp; done)
                        | (rw [dec_ne hg6_2]; simp; done)
                        | (rw [decide_eq_false (show ¬ (sdS l).2.2.1 ≤ 16777216 by omega)]; simp; done)
                        | (rw [decide_eq_false (show ¬ (sdS l).2.2.2.1 ≤ 16777216 by omega)]; simp; done)
                        | (rw [decide_eq_false (show ¬ (zt (l.drop (seAt l.length + 512)) : Int) = (l.length : Int) - (seAt l.length : Int) - 512 by omega)]; simp; done)
                        | (rw [decide_eq_false (show ¬ filZ (sdS l).2.2.1 (sdS l).2.2.2.1 (sdS l).2.2.2.2.2.1 = (l.length : Int) by omega)]; simp; done)
                        | (rw [decide_eq_true hc3, hi5]; simp; done)
                      rw [hno]
                      exact ⟨(0, 0, 0), .slice none 0 0, .slice none 0 0, [], [], rfl, fun h => (by cases h), ((((St.keep [] _ hs).emp (A := datR []) (fun _ => trivial)).emp (A := sl 110 2 (.slice none 0 0) ([] : List Pt).length (([] : List Pt).flatMap pcF)) slW0).emp (slB_nil _))⟩
                    · first | simp only [decide_eq_true_eq, decide_eq_false_iff_not, Bool.not_eq_true', Bool.not_eq_false'] at hi5 | skip
                      refine wp_skip ?_
                      refine then_n ?_
                      refine wp_region_lit ?_
                      refine s_m hf rfl ?_; clear hf a; intro a hf
                      refine s_v hf (x_fieldAddr fo82_2 (hf.eval rfl)) ?_; clear hf a; intro a hf
                      replace hs := hs.take (A := cb b9 82 (fdF ((sdS l).1, (sdS l).2.1, (sdS l).2.2.1) (.slice none 0 0) (.slice none 0 0))) (by first | exact .k0 | exact .k1 | exact .k2 | exact .k3 | exact .k4 | exact .k5 | exact .k6 | exact .k7 | exact .k8 | exact .k9 | exact .k10 | exact .k11)
                      refine s_do0 hf rfl (y_store hs sc80 (hf.eval rfl) (hf.eval rfl) rfl .k0 (by simp [fdF]) ?_); clear hf hs a; intro w hs a hf
                      change St _ _ (cb b9 82 (fdF ((sdS l).1, (sdS l).2.1, (sdS l).2.2.1) (.slice none 0 0) (.slice av ps.length cvv)) :: _) at hs
                      have hz : lkZ l = (sdS l).2.2.1 := by unfold lkZ; rw [if_neg (show ¬ (sdS l).1 = 4 by omega)]
                      have hok9 : lkOk l = true := by unfold lkOk; rw [hse, hi5]; simp
                      have hpm9 : ps.map pcOf = lkP l := by unfold lkP; rw [if_pos hc3]; exact hps hi5
                      rw [← hz] at hs
                      replace hs := hs.take (A := cb b2 82 (fdF (0, 0, 0) (.slice none 0 0) (.slice none 0 0))) (by first | exact .k0 | exact .k1 | exact .k2 | exact .k3 | exact .k4 | exact .k5 | exact .k6 | exact .k7 | exact .k8 | exact .k9 | exact .k10 | exact .k11)
                      replace hs := hs.take (A := datR ps) (by first | exact .k0 | exact .k1 | exact .k2 | exact .k3 | exact .k4 | exact .k5 | exact .k6 | exact .k7 | exact .k8 | exact .k9 | exact .k10 | exact .k11)
                      replace hs := hs.take (A := sl 110 2 (.slice av ps.length cvv) ps.length (ps.flatMap pcF)) (by first | exact .k0 | exact .k1 | exact .k2 | exact .k3 | exact .k4 | exact .k5 | exact .k6 | exact .k7 | exact .k8 | exact .k9 | exact .k10 | exact .k11)
                      replace hs := hs.take (A := cb b9 82 (fdF ((sdS l).1, (sdS l).2.1, lkZ l) (.slice none 0 0) (.slice av ps.length cvv))) (by first | exact .k0 | exact .k1 | exact .k2 | exact .k3 | exact .k4 | exact .k5 | exact .k6 | exact .k7 | exact .k8 | exact .k9 | exact .k10 | exact .k11)
                      have hs9 := St.keep [_, _, _, _] _ hs
                      refine s_nil ?_
                      refine blk_n ?_
                      refine then_n ?_
                      exact ⟨_, ⟨_, _, _, rfl, hok9, hpm9, hs9⟩, hf.sub ⟨rfl, rfl, rfl, trivial⟩⟩
                  · first | simp only [decide_eq_true_eq, decide_eq_false_iff_not, Bool.not_eq_true', Bool.not_eq_false'] at hi4 | skip
                    have hz : lkZ l = (sdS l).2.2.1 := by unfold lkZ; rw [if_neg (show ¬ (sdS l).1 = 4 by omega)]
                    have hok9 : lkOk l = true := by unfold lkOk; rw [hse, decide_eq_false (show ¬ (sdS l).1 = 3 by omega)]; rfl
                    have hpm9 : ([] : List Pt).map pcOf = lkP l := by unfold lkP; rw [if_neg (show ¬ (sdS l).1 = 3 by omega)]; rfl
                    rw [← hz] at hs
                    replace hs := hs.take (A := cb b2 82 (fdF (0, 0, 0) (.slice none 0 0) (.slice none 0 0))) (by first | exact .k0 | exact .k1 | exact .k2 | exact .k3 | exact .k4 | exact .k5 | exact .k6 | exact .k7 | exact .k8 | exact .k9 | exact .k10 | exact .k11)
                    replace hs := (hs.emp (A := datR []) (fun _ => trivial)).emp (A := sl 110 2 (.slice none 0 0) ([] : List Pt).length (([] : List Pt).flatMap pcF)) slW0
                    replace hs := hs.take (A := cb b9 82 (fdF ((sdS l).1, (sdS l).2.1, lkZ l) (.slice none 0 0) (.slice none 0 0))) (by first | exact .k0 | exact .k1 | exact .k2 | exact .k3 | exact .k4 | exact .k5 | exact .k6 | exact .k7 | exact .k8 | exact .k9 | exact .k10 | exact .k11)
                    have hs9 := St.keep [_, _, _, _] _ hs
                    refine wp_skip ?_
                    refine blk_n ?_
                    refine then_n ?_
                    exact ⟨_, ⟨_, _, _, rfl, hok9, hpm9, hs9⟩, hf.sub ⟨rfl, rfl, rfl, trivial⟩⟩
              · clear hf hs a
                rintro M a w ⟨av, cvv, ps, rfl, hok, hpm, hs⟩ hf
                have hzb : 0 ≤ lkZ l ∧ lkZ l ≤ (l.length : Int) := by unfold lkZ; split <;> omega
                have hmem := lk_mem hok
                have hpb : ps.length ≤ 16777216 := by have h9 := congrArg List.length hpm; rw [List.length_map] at h9; have h8 := lkP_len hok hl1; omega
                refine wp_seq ?_
                refine wp_region_lit ?_
                refine s_m hf rfl ?_; clear hf a; intro a hf
                refine s_v hf (x_fieldAddr fo82_0 (hf.eval rfl)) ?_; clear hf a; intro a hf
                refine s_v hf (x_fieldAddr fo45_2 (hf.eval rfl)) ?_; clear hf a; intro a hf
                refine s_r hf (x_load sc3 (hf.eval rfl) (by first | exact hs.cell .k0 rfl | exact hs.cell .k1 rfl | exact hs.cell .k2 rfl | exact hs.cell .k3 rfl | exact hs.cell .k4 rfl | exact hs.cell .k5 rfl | exact hs.cell .k6 rfl | exact hs.cell .k7 rfl | exact hs.cell .k8 rfl | exact hs.cell .k9 rfl)) ?_; clear hf a; intro a hf
                replace hf := hf.now (k := 111) (v' := .int .i64 (lkZ l)) rfl (rfl)
                refine s_v hf (x_slice_hi sl25 (hf.eval rfl) (hf.eval rfl)  (by omega) (by omega)) ?_; clear hf a; intro a hf
                replace hf := hf.now (k := 112) (v' := .slice a1 (l.take (lkZ l).toNat).length c1) rfl (by rw [tkl (by omega)] <;> exact slice_eq rfl (by omega) rfl)
                refine s_do hf rfl (y_appendB (v := .slice none 0 0) (s := l.take (lkZ l).toNat) (hs.emp (slB_nil 5)) sl25 rfl rfl (hf.eval rfl) .k0 (hs.oldB (tk_rd hr1 (by omega))) (by simp; omega) ?_); clear hf hs a; intro v2 w hs hv a hf
                simp only [List.nil_append] at hs
                obtain ⟨g, cg, rfl, hcg⟩ := slB_shape hs
                rw [tkl (show (lkZ l).toNat ≤ l.length by omega)] at hs hf
                refine s_v hf (x_fieldAddr fo82_1 (hf.eval rfl)) ?_; clear hf a; intro a hf
                replace hs := hs.take (A := cb b9 82 (fdF ((sdS l).1, (sdS l).2.1, lkZ l) (.slice none 0 0) (.slice av ps.length cvv))) (by first | exact .k0 | exact .k1 | exact .k2 | exact .k3 | exact .k4 | exact .k5 | exact .k6 | exact .k7 | exact .k8 | exact .k9 | exact .k10 | exact .k11)
                refine s_do0 hf rfl (y_store hs sc25 (hf.eval rfl) (hf.eval rfl) rfl .k0 (by simp [fdF]) ?_); clear hf hs a; intro w hs a hf
                change St _ _ (cb b9 82 (fdF ((sdS l).1, (sdS l).2.1, lkZ l) (.slice g (lkZ l).toNat cg) (.slice av ps.length cvv)) :: _) at hs
                refine s_nil ?_
                refine then_n ?_
                refine wp_seq ?_
                refine wp_seq ?_
                refine wp_region_lit ?_
                refine s_v hf (x_fieldAddr fo82_2 (hf.eval rfl)) ?_; clear hf a; intro a hf
                refine s_r hf (x_load sc80 (hf.eval rfl) (by first | exact hs.cell .k0 rfl | exact hs.cell .k1 rfl | exact hs.cell .k2 rfl | exact hs.cell .k3 rfl | exact hs.cell .k4 rfl | exact hs.cell .k5 rfl | exact hs.cell .k6 rfl | exact hs.cell .k7 rfl | exact hs.cell .k8 rfl | exact hs.cell .k9 rfl)) ?_; clear hf a; intro a hf
                refine s_v hf (x_len Tryd.underlying80 (hf.eval rfl)) ?_; clear hf a; intro a hf
                refine s_m hf rfl ?_; clear hf a; intro a hf
                refine s_nil ?_
                refine then_n ?_
                refine wp_block ?_
                replace hs := hs.take (A := cb b2 82 (fdF (0, 0, 0) (.slice none 0 0) (.slice none 0 0))) (by first | exact .k0 | exact .k1 | exact .k2 | exact .k3 | exact .k4 | exact .k5 | exact .k6 | exact .k7 | exact .k8 | exact .k9 | exact .k10 | exact .k11)
                replace hs := hs.take (A := datR ps) (by first | exact .k0 | exact .k1 | exact .k2 | exact .k3 | exact .k4 | exact .k5 | exact .k6 | exact .k7 | exact .k8 | exact .k9 | exact .k10 | exact .k11)
                replace hs := hs.take (A := sl 110 2 (.slice av ps.length cvv) ps.length (ps.flatMap pcF)) (by first | exact .k0 | exact .k1 | exact .k2 | exact .k3 | exact .k4 | exact .k5 | exact .k6 | exact .k7 | exact .k8 | exact .k9 | exact .k10 | exact .k11)
                replace hs := hs.take (A := cb b9 82 (fdF ((sdS l).1, (sdS l).2.1, lkZ l) (.slice g (lkZ l).toNat cg) (.slice av ps.length cvv))) (by first | exact .k0 | exact .k1 | exact .k2 | exact .k3 | exact .k4 | exact .k5 | exact .k6 | exact .k7 | exact .k8 | exact .k9 | exact .k10 | exact .k11)
                replace hs := hs.take (A := slB 5 (.slice g (lkZ l).toNat cg) (l.take (lkZ l).toNat)) (by first | exact .k0 | exact .k1 | exact .k2 | exact .k3 | exact .k4 | exact .k5 | exact .k6 | exact .k7 | exact .k8 | exact .k9 | exact .k10 | exact .k11)
                replace hs := St.keep [_, _, _, _, _] _ hs
                refine c_loop (L0 := [(2, _), (9, _), (116, _), (117, _)]) (fun M w m => ∃ i : Nat, M = [(118, .int .i64 (i : Int))] ∧ ps.length - i = m ∧ i ≤ ps.length ∧ St ⟨w0, None_⟩ w [slB 5 (.slice g (lkZ l).toNat cg) (putPs (l.take (lkZ l).toNat) ((ps.map pcOf).take i)), cb b9 82 (fdF ((sdS l).1, (sdS l).2.1, lkZ l) (.slice g (lkZ l).toNat cg) (.slice av ps.length cvv)), sl 110 2 (.slice av ps.length cvv) ps.length (ps.flatMap pcF), datR ps, cb b2 82 (fdF (0, 0, 0) (.slice none 0 0) (.slice none 0 0))]) (M0 := _) (⟨0, rfl, rfl, Nat.zero_le _, by rw [List.take_zero, putPsN]; exact hs⟩) (hf.sub ⟨rfl, rfl, rfl, rfl, rfl, trivial⟩) ?_
                clear hf hs a
                rintro M m a w ⟨i, rfl, rfl, hi, hs⟩ hf
                refine wp_seq ?_
                refine wp_region_lit ?_
                refine s_v hf (x_bin (hf.eval rfl) (hf.eval rfl) (r_lt _ _ _ _)) ?_; clear hf a; intro a hf
                refine s_nil ?_
                refine then_n ?_
                refine wp_seq ?_
                refine c_cond hf rfl (fun hi6 => ?_) (fun hi6 => ?_)
                · simp only [decide_eq_true_eq, decide_eq_false_iff_not, Bool.not_eq_true', Bool.not_eq_false', Bool.not_eq_true, Int.not_lt, Int.not_le] at hi6
                  have hlt : i < ps.length := by omega
                  have hpl : i < (ps.map pcOf).length := by simpa using hlt
                  obtain ⟨hq1, hq2⟩ := hmem (pcOf ps[i]) (by rw [← hpm]; exact List.mem_map_of_mem (List.getElem_mem hlt))
                  have hq1 : 1 ≤ ps[i].2.2.length := hq1
                  have hq2 : ((ps[i].1 + ps[i].2.2.length : Nat) : Int) ≤ lkZ l := hq2
                  have hpil : (putPs (l.take (lkZ l).toNat) ((ps.map pcOf).take i)).length = (lkZ l).toNat := by rw [putPs_len, tkl (by omega)]
                  obtain ⟨gb, gc, hge, _⟩ := slB_block hs (by rw [hpil]; omega)
                  injection hge with hge1 hge2 hge3
                  subst hge1
                  replace hs := hs.take (A := sl 110 2 (.slice av ps.length cvv) ps.length (ps.flatMap pcF)) (by first | exact .k0 | exact .k1 | exact .k2 | exact .k3 | exact .k4 | exact .k5 | exact .k6 | exact .k7 | exact .k8 | exact .k9 | exact .k10 | exact .k11)
                  obtain ⟨av, rfl⟩ := sl_some hs (by omega)
                  have hpd := hs.datR (by first | exact .k0 | exact .k1 | exact .k2 | exact .k3 | exact .k4 | exact .k5 | exact .k6 | exact .k7 | exact .k8 | exact .k9) hlt
                  obtain ⟨pa, pk, hpv⟩ := hpd.shape
                  refine wp_skip ?_
                  refine then_n ?_
                  refine wp_seq ?_
                  refine wp_block ?_
                  refine wp_seq ?_
                  refine wp_region_lit ?_
                  refine s_v hf (x_indexAddr sl80 (hf.eval rfl) (hf.eval rfl) (by omega) (by omega)) ?_; clear hf a; intro a hf
                  refine s_r hf (x_loadS (f := pcF) ag110 (fun _ => rfl) (hs.rd (A := sl 110 2 (.slice (some av) ps.length cvv) ps.length (ps.flatMap pcF)) (by first | exact .k0 | exact .k1 | exact .k2 | exact .k3 | exact .k4 | exact .k5 | exact .k6 | exact .k7 | exact .k8 | exact .k9) fun h hh => sl_rd hh) (hf.eval rfl) (by rw [Int.toNat_natCast]; exact hlt)) ?_; clear hf a; intro a hf
                  replace hf := hf.now (k := 121) (v' := .agg (pcF ps[i]).toArray) rfl (rfl)
                  refine s_do hf rfl (y_alloc hs Tryd.zeroValue110 ?_); clear hf hs a; intro b13 w hs a hf
                  change St _ _ (cb b13 110 [.int .i64 0, .slice none 0 0] :: _) at hs
                  refine s_do0 hf rfl (y_storeAgg (cs := pcF ps[i]) hs (n := 2) (by kernel_rfl) (hf.eval rfl) (hf.eval rfl) (pcF_one hpd) rfl rfl .k0 ?_); clear hf hs a; intro w hs a hf
                  refine s_nil ?_
                  refine then_n ?_
                  refine c_draw hs (fun _ => True) [.held, .read, .held, .read, .held, .held, .read, .fin] (by kernel_rfl) (by kernel_rfl) (fun _ _ _ => trivial) ?_
                  clear hs; intro w hs hC hw
                  refine m_held hf rfl (fun w' _ => x_fieldAddr fo82_1 (hf.eval rfl) w') ?_; clear hf a; intro a hf
                  replace hs := hs.take (A := cb b9 82 (fdF ((sdS l).1, (sdS l).2.1, lkZ l) (.slice (some ⟨gb, 0, none⟩) (lkZ l).toNat cg) (.slice (some av) ps.length cvv))) (by first | exact .k0 | exact .k1 | exact .k2 | exact .k3 | exact .k4 | exact .k5 | exact .k6 | exact .k7 | exact .k8 | exact .k9 | exact .k10 | exact .k11)
                  refine m_read hf rfl (x_load sc25 (hf.eval rfl) (by first | exact hs.cell .k0 rfl | exact hs.cell .k1 rfl | exact hs.cell .k2 rfl | exact hs.cell .k3 rfl | exact hs.cell .k4 rfl | exact hs.cell .k5 rfl | exact hs.cell .k6 rfl | exact hs.cell .k7 rfl | exact hs.cell .k8 rfl | exact hs.cell .k9 rfl)) ?_; clear hf a; intro a hf
                  refine m_held hf rfl (fun w' _ => x_fieldAddr fo110_0 (hf.eval rfl) w') ?_; clear hf a; intro a hf
                  refine m_read hf rfl (x_load sc3 (hf.eval rfl) (by first | exact hs.cell .k0 rfl | exact hs.cell .k1 rfl | exact hs.cell .k2 rfl | exact hs.cell .k3 rfl | exact hs.cell .k4 rfl | exact hs.cell .k5 rfl | exact hs.cell .k6 rfl | exact hs.cell .k7 rfl | exact hs.cell .k8 rfl | exact hs.cell .k9 rfl)) ?_; clear hf a; intro a hf
                  refine m_held hf rfl (fun w' _ => x_slice_lo sl25 (hf.eval rfl) (hf.eval rfl)  (by omega) (by omega) w') ?_; clear hf a; intro a hf
                  refine m_held hf rfl (fun w' _ => x_fieldAddr fo110_1 (hf.eval rfl) w') ?_; clear hf a; intro a hf
                  refine m_read hf rfl (x_load sc25 (hf.eval rfl) (by first | exact hs.cell .k0 rfl | exact hs.cell .k1 rfl | exact hs.cell .k2 rfl | exact hs.cell .k3 rfl | exact hs.cell .k4 rfl | exact hs.cell .k5 rfl | exact hs.cell .k6 rfl | exact hs.cell .k7 rfl | exact hs.cell .k8 rfl | exact hs.cell .k9 rfl)) ?_; clear hf a; intro a hf
                  replace hf := hf.now (k := 128) (v' := .slice pa ps[i].2.2.length pk) rfl (hpv)
                  refine m_fin hf rfl (y_copyAt (T := 5) (n := (lkZ l).toNat) (o := ps[i].1) (s := ps[i].2.2) hs sl25 (hf.eval rfl) rfl (hf.eval rfl) (by first | exact .k0 | exact .k1 | exact .k2 | exact .k3 | exact .k4 | exact .k5 | exact .k6 | exact .k7 | exact .k8 | exact .k9) (by rw [← hpv]; exact hs.datR (by first | exact .k0 | exact .k1 | exact .k2 | exact .k3 | exact .k4 | exact .k5 | exact .k6 | exact .k7 | exact .k8 | exact .k9) hlt) (by omega) hpil ?_); clear hf hs a; intro w hs; intro a hf
                  rw [show min ps[i].2.2.length ((lkZ l).toNat - ps[i].1) = ps[i].2.2.length by omega, List.take_length] at hs
                  have hsn : putPs (l.take (lkZ l).toNat) ((ps.map pcOf).take (i + 1)) = spl (putPs (l.take (lkZ l).toNat) ((ps.map pcOf).take i)) ps[i].1 ps[i].2.2 := by
                    rw [List.take_succ_eq_append_getElem hpl, putPs_snoc, List.getElem_map]
                    exact putP_fit (by rw [hpil]; omega) (by omega)
                  rw [← hsn] at hs
                  replace hs := hs.take (A := cb b2 82 (fdF (0, 0, 0) (.slice none 0 0) (.slice none 0 0))) (by first | exact .k0 | exact .k1 | exact .k2 | exact .k3 | exact .k4 | exact .k5 | exact .k6 | exact .k7 | exact .k8 | exact .k9 | exact .k10 | exact .k11)
                  replace hs := hs.take (A := datR ps) (by first | exact .k0 | exact .k1 | exact .k2 | exact .k3 | exact .k4 | exact .k5 | exact .k6 | exact .k7 | exact .k8 | exact .k9 | exact .k10 | exact .k11)
                  replace hs := hs.take (A := sl 110 2 (.slice (some av) ps.length cvv) ps.length (ps.flatMap pcF)) (by first | exact .k0 | exact .k1 | exact .k2 | exact .k3 | exact .k4 | exact .k5 | exact .k6 | exact .k7 | exact .k8 | exact .k9 | exact .k10 | exact .k11)
                  replace hs := hs.take (A := cb b9 82 (fdF ((sdS l).1, (sdS l).2.1, lkZ l) (.slice (some ⟨gb, 0, none⟩) (lkZ l).toNat cg) (.slice (some av) ps.length cvv))) (by first | exact .k0 | exact .k1 | exact .k2 | exact .k3 | exact .k4 | exact .k5 | exact .k6 | exact .k7 | exact .k8 | exact .k9 | exact .k10 | exact .k11)
                  replace hs : St _ _ (slB 5 (.slice (some ⟨gb, 0, none⟩) (lkZ l).toNat cg) (putPs (l.take (lkZ l).toNat) ((ps.map pcOf).take (i + 1))) :: _) := hs.take (A := slB 5 (.slice (some ⟨gb, 0, none⟩) (lkZ l).toNat cg) (putPs (l.take (lkZ l).toNat) ((ps.map pcOf).take (i + 1)))) (by first | exact .k0 | exact .k1 | exact .k2 | exact .k3 | exact .k4 | exact .k5 | exact .k6 | exact .k7 | exact .k8 | exact .k9)
                  replace hs := St.keep [_, _, _, _, _] _ hs
                  refine blk_n ?_
                  refine then_n ?_
                  refine wp_region_lit ?_
                  refine s_v hf (x_bin (hf.eval rfl) (hf.eval rfl) (r_addi _ (by omega) (by omega))) ?_; clear hf a; intro a hf
                  refine s_m hf rfl ?_; clear hf a; intro a hf
                  refine s_nil ?_
                  exact ⟨_, _, ⟨i + 1, rfl, rfl, by omega, hs⟩, by omega, hf.sub ⟨rfl, rfl, rfl, rfl, rfl, trivial⟩⟩
                · simp only [decide_eq_true_eq, decide_eq_false_iff_not, Bool.not_eq_true', Bool.not_eq_false', Bool.not_eq_true, Int.not_lt, Int.not_le] at hi6
                  obtain rfl : i = ps.length := by omega
                  rw [show (ps.map pcOf).take ps.length = lkP l by rw [← hpm]; exact List.take_of_length_le (by simp)] at hs
                  refine wp_exit ?_
                  refine then_x ?_
                  refine then_x ?_
                  refine blk_x ?_
                  refine then_n ?_
                  refine wp_seq ?_
                  refine wp_region_lit ?_
                  replace hs := hs.take (A := cb b9 82 (fdF ((sdS l).1, (sdS l).2.1, lkZ l) (.slice g (lkZ l).toNat cg) (.slice av ps.length cvv))) (by first | exact .k0 | exact .k1 | exact .k2 | exact .k3 | exact .k4 | exact .k5 | exact .k6 | exact .k7 | exact .k8 | exact .k9 | exact .k10 | exact .k11)
                  refine s_r hf (x_loadBlk hs ag82 (hf.eval rfl) rfl .k0) ?_; clear hf a; intro a hf
                  replace hs := hs.take (A := cb b2 82 (fdF (0, 0, 0) (.slice none 0 0) (.slice none 0 0))) (by first | exact .k0 | exact .k1 | exact .k2 | exact .k3 | exact .k4 | exact .k5 | exact .k6 | exact .k7 | exact .k8 | exact .k9 | exact .k10 | exact .k11)
                  refine s_do0 hf rfl (y_storeAgg (cs := fdF ((sdS l).1, (sdS l).2.1, lkZ l) (.slice g (lkZ l).toNat cg) (.slice av ps.length cvv)) hs (n := 5) (by kernel_rfl) (hf.eval rfl) (hf.eval rfl) (by simp [Value.oneCell', fdF]) rfl rfl .k0 ?_); clear hf hs a; intro w hs a hf
                  refine s_a hf rfl ?_; clear hf a; intro a hf
                  refine s_nil ?_
                  refine then_n ?_
                  refine wp_ret ?_
                  refine r_2c hf Tryd.results81 rfl rfl hs ag82 rfl .k0 ?_
                  rw [hok]
                  replace hs := hs.take (A := datR ps) (by first | exact .k0 | exact .k1 | exact .k2 | exact .k3 | exact .k4 | exact .k5 | exact .k6 | exact .k7 | exact .k8 | exact .k9 | exact .k10 | exact .k11)
                  replace hs := hs.take (A := sl 110 2 (.slice av ps.length cvv) ps.length (ps.flatMap pcF)) (by first | exact .k0 | exact .k1 | exact .k2 | exact .k3 | exact .k4 | exact .k5 | exact .k6 | exact .k7 | exact .k8 | exact .k9 | exact .k10 | exact .k11)
                  replace hs := hs.take (A := slB 5 (.slice g (lkZ l).toNat cg) (putPs (l.take (lkZ l).toNat) (lkP l))) (by first | exact .k0 | exact .k1 | exact .k2 | exact .k3 | exact .k4 | exact .k5 | exact .k6 | exact .k7 | exact .k8 | exact .k9 | exact .k10 | exact .k11)
                  have hcl : (putPs (l.take (lkZ l).toNat) (lkP l)).length = (lkZ l).toNat := by rw [putPs_len, tkl (by omega)]
                  exact ⟨((sdS l).1, (sdS l).2.1, lkZ l), .slice g (lkZ l).toNat cg, (.slice av ps.length cvv), _, ps, rfl, fun _ => ⟨rfl, rfl, by rw [hcl]; exact ⟨g, cg, rfl⟩, hpm⟩, St.keep [_, _, _] _ hs⟩
end Go.Proofs.YtehakfbfjpolfaaDoor

namespace Go.Proofs.YtehakfbfjpolfaaDoor
open Go Vw
theorem lk_blank {l : List UInt8} (h : 1024 ≤ zt l) : lkV l = ((1, 0, ((l.length - zt l / 1024 * 1024 : Nat) : Int)), l.take (l.length - zt l / 1024 * 1024)) := by unfold lkV; rw [if_pos h]
attribute [local irreducible] Vw.sl Vw.sdS Vw.bodyS Vw.zt Vw.putPs Vw.seOk Vw.bkOk Vw.lkZ Vw.lkP Vw.lkOk Vw.lkV
theorem looked_spec (w0 : World) (hT : Tab 0 (hp w0)) (a1 : Option Addr) (c1 : Nat) (l : List UInt8) (hr1 : RdB (hp w0) (.slice a1 l.length c1) l) (hl1 : l.length ≤ 16777216) : Calls Tryd.prog 55 #[.slice a1 l.length c1] w0 fun e w' => ∃ (g : Option Addr) (cg : Nat) (bv : Value) (ps : List Pt), e = .returned (.agg (fdF (lkV l).1 (.slice g (lkV l).2.length cg) bv).toArray) ∧ (zt l < 1024 → lkOk l = true → ps.map pcOf = lkP l) ∧ St ⟨w0, None_⟩ w' [slB 5 (.slice g (lkV l).2.length cg) (lkV l).2, sl 110 2 bv ps.length (ps.flatMap pcF), datR ps] := by
  have hs := St.start w0 None_
  have hcp := RdB.cap hr1
  have hzl := zt_le l
  refine c_enter (N := 37) Tryd.func55 rfl Tryd.ntmps55 (by simp) ?_
  intro a hf
  refine wp_seq ?_
  refine wp_region_lit ?_
  refine s_do hf rfl (y_alloc hs Tryd.zeroValue82 ?_); clear hf hs a; intro b2 w hs a hf
  change St _ _ (cb b2 82 (fdF (0, 0, 0) (.slice none 0 0) (.slice none 0 0)) :: _) at hs
  refine s_nil ?_
  refine then_n ?_
  refine wp_seq ?_
  refine wp_seq ?_
  refine wp_region_lit ?_
  refine s_m hf rfl ?_; clear hf a; intro a hf
  refine s_do hf rfl (y_call (hf.eval rfl) (hf.evals rfl) Tryd.call80 ((tail_spec _ _ _ l (hs.oldB hr1) (by omega)).mono ?_))
  rintro e w1 ⟨rfl, hk⟩
  replace hs := hs.ext hk
  refine ⟨_, rfl, ?_⟩; clear hf a; intro a hf
  refine s_a hf rfl ?_; clear hf a; intro a hf
  refine s_nil ?_
  refine then_n ?_
  refine wp_seq ?_
  refine wp_region_lit ?_
  refine s_m hf rfl ?_; clear hf a; intro a hf
  refine s_v hf (x_bin (hf.eval rfl) (hf.eval rfl) (r_ge _ _ _ _)) ?_; clear hf a; intro a hf
  refine s_nil ?_
  refine then_n ?_
  refine c_cond hf rfl (fun hi0 => ?_) (fun hi0 => ?_)
  · first | simp only [decide_eq_true_eq, decide_eq_false_iff_not, Bool.not_eq_true', Bool.not_eq_false'] at hi0 | skip
    have hsz : zt l / 1024 * 1024 ≤ l.length := by omega
    refine wp_seq ?_
    refine wp_region_lit ?_
    refine s_m hf rfl ?_; clear hf a; intro a hf
    refine s_v hf (x_len Tryd.underlying25 (hf.eval rfl)) ?_; clear hf a; intro a hf
    refine s_m hf rfl ?_; clear hf a; intro a hf
    refine s_v hf (x_bin (hf.eval rfl) (hf.eval rfl) (r_quon _ (Int.natCast_nonneg _) (by decide) (by omega))) ?_; clear hf a; intro a hf
    replace hf := hf.now (k := 14) (v' := .int .i64 ((zt l / 1024 : Nat) : Int)) rfl (by congr 1)
    refine s_v hf (x_bin (hf.eval rfl) (hf.eval rfl) (r_muli _ (by omega) (by omega))) ?_; clear hf a; intro a hf
    refine s_v hf (x_bin (hf.eval rfl) (hf.eval rfl) (r_subi _ (by omega) (by omega))) ?_; clear hf a; intro a hf
    replace hf := hf.now (k := 16) (v' := .int .i64 (((l.length - zt l / 1024 * 1024) : Nat) : Int)) rfl (by congr 1 <;> omega)
    refine s_a hf rfl ?_; clear hf a; intro a hf
    refine s_nil ?_
    refine then_n ?_
    refine wp_seq ?_
    refine wp_region_lit ?_
    refine s_m hf rfl ?_; clear hf a; intro a hf
    refine s_r hf (x_build (v := .agg (vdF (1, 0, (((l.length - zt l / 1024 * 1024) : Nat) : Int))).toArray) (hf.parts rfl) (fun w => by kernel_rfl) _) ?_; clear hf a; intro a hf
    refine s_m hf rfl ?_; clear hf a; intro a hf
    refine s_m hf rfl ?_; clear hf a; intro a hf
    refine s_v hf (x_slice_hi sl25 (hf.eval rfl) (hf.eval rfl)  (by omega) (by omega)) ?_; clear hf a; intro a hf
    replace hf := hf.now (k := 21) (v' := .slice a1 (l.take (l.length - zt l / 1024 * 1024)).length c1) rfl (by rw [tkl (by omega)] <;> exact slice_eq rfl (by omega) rfl)
    refine s_do hf rfl (y_appendB (v := .slice none 0 0) (s := l.take (l.length - zt l / 1024 * 1024)) (hs.emp (slB_nil 5)) sl25 rfl rfl (hf.eval rfl) .k0 (hs.oldB (tk_rd hr1 (by omega))) (by simp; omega) ?_); clear hf hs a; intro v2 w hs hv a hf
    simp only [List.nil_append] at hs
    obtain ⟨g, cg, rfl, hcg⟩ := slB_shape hs
    refine s_r hf (x_build (v := .agg (fdF (1, 0, (((l.length - zt l / 1024 * 1024) : Nat) : Int)) (.slice g (l.take (l.length - zt l / 1024 * 1024)).length cg) (.slice none 0 0)).toArray) (hf.parts rfl) (fun w => by kernel_rfl) _) ?_; clear hf a; intro a hf
    replace hs := hs.take (A := cb b2 82 (fdF (0, 0, 0) (.slice none 0 0) (.slice none 0 0))) (by first | exact .k0 | exact .k1 | exact .k2 | exact .k3 | exact .k4 | exact .k5 | exact .k6 | exact .k7 | exact .k8 | exact .k9 | exact .k10 | exact .k11)
    refine s_do0 hf rfl (y_storeAgg (cs := fdF (1, 0, (((l.length - zt l / 1024 * 1024) : Nat) : Int)) (.slice g (l.take (l.length - zt l / 1024 * 1024)).length cg) (.slice none 0 0)) hs (n := 5) (by kernel_rfl) (hf.eval rfl) (hf.eval rfl) (by simp [Value.oneCell', fdF]) rfl rfl .k0 ?_); clear hf hs a; intro w hs a hf
    refine s_nil ?_
    refine then_n ?_
    refine wp_ret ?_
    refine then_r ?_
    refine r_1c hf Tryd.results55 rfl hs ag82 rfl .k0 ?_
    have hv := lk_blank (l := l) (by omega)
    replace hs := (hs.emp (A := datR []) (fun _ => trivial)).emp (A := sl 110 2 (.slice none 0 0) ([] : List Pt).length (([] : List Pt).flatMap pcF)) slW0
    rw [hv]
    replace hs := hs.take (A := slB 5 (.slice g (l.take (l.length - zt l / 1024 * 1024)).length cg) (l.take (l.length - zt l / 1024 * 1024))) (by first | exact .k0 | exact .k1 | exact .k2 | exact .k3 | exact .k4 | exact .k5 | exact .k6 | exact .k7 | exact .k8 | exact .k9 | exact .k10 | exact .k11)
    exact ⟨g, cg, _, [], rfl, fun h1 h2 => absurd h1 (by omega), St.keep [_, _, _] _ hs⟩
  · first | simp only [decide_eq_true_eq, decide_eq_false_iff_not, Bool.not_eq_true', Bool.not_eq_false'] at hi0 | skip
    refine wp_skip ?_
    refine then_n ?_
    refine wp_seq ?_
    refine wp_seq ?_
    refine wp_region_lit ?_
    refine s_m hf rfl ?_; clear hf a; intro a hf
    refine s_do hf rfl (y_call (hf.eval rfl) (hf.evals rfl) Tryd.call81 ((sealed_spec _ (hT.kept hs.kept) _ _ l (hs.oldB hr1) hl1).mono ?_))
    rintro e w1 ⟨sv, cv, bv, C, ps, rfl, hsv, hj⟩
    replace hs := hs.join hj
    simp only [List.cons_append, List.nil_append] at hs
    obtain ⟨g5, cg5, rfl, hcg5⟩ := slB_shape hs
    replace hs := hs.take (A := sl 110 2 bv ps.length (ps.flatMap pcF)) (by first | exact .k0 | exact .k1 | exact .k2 | exact .k3 | exact .k4 | exact .k5 | exact .k6 | exact .k7 | exact .k8 | exact .k9 | exact .k10 | exact .k11)
    obtain ⟨a5, c5, rfl⟩ := sl_shape hs
    refine ⟨_, rfl, ?_⟩; clear hf a; intro a hf
    refine s_m hf rfl ?_; clear hf a; intro a hf
    refine s_v hf (x_extract (hf.eval rfl) rfl) ?_; clear hf a; intro a hf
    refine s_v hf (x_extract (hf.eval rfl) rfl) ?_; clear hf a; intro a hf
    refine s_do hf rfl (y_alloc hs Tryd.zeroValue82 ?_); clear hf hs a; intro b5 w hs a hf
    change St _ _ (cb b5 82 (fdF (0, 0, 0) (.slice none 0 0) (.slice none 0 0)) :: _) at hs
    refine s_do0 hf rfl (y_storeAgg (cs := fdF sv (.slice g5 C.length cg5) (.slice a5 ps.length c5)) hs (n := 5) (by kernel_rfl) (hf.eval rfl) (hf.eval rfl) (by simp [Value.oneCell', fdF]) rfl rfl .k0 ?_); clear hf hs a; intro w hs a hf
    refine s_a hf rfl ?_; clear hf a; intro a hf
    refine s_nil ?_
    refine then_n ?_
    refine wp_seq ?_
    refine wp_region_lit ?_
    refine s_m hf rfl ?_; clear hf a; intro a hf
    refine s_nil ?_
    refine then_n ?_
    refine c_cond hf rfl (fun hi1 => ?_) (fun hi1 => ?_)
    · first | simp only [decide_eq_true_eq, decide_eq_false_iff_not, Bool.not_eq_true', Bool.not_eq_false'] at hi1 | skip
      refine wp_seq ?_
      refine wp_region_lit ?_
      replace hs := hs.take (A := cb b5 82 (fdF sv (.slice g5 C.length cg5) (.slice a5 ps.length c5))) (by first | exact .k0 | exact .k1 | exact .k2 | exact .k3 | exact .k4 | exact .k5 | exact .k6 | exact .k7 | exact .k8 | exact .k9 | exact .k10 | exact .k11)
      refine s_r hf (x_loadBlk hs ag82 (hf.eval rfl) rfl .k0) ?_; clear hf a; intro a hf
      replace hs := hs.take (A := cb b2 82 (fdF (0, 0, 0) (.slice none 0 0) (.slice none 0 0))) (by first | exact .k0 | exact .k1 | exact .k2 | exact .k3 | exact .k4 | exact .k5 | exact .k6 | exact .k7 | exact .k8 | exact .k9 | exact .k10 | exact .k11)
      refine s_do0 hf rfl (y_storeAgg (cs := fdF sv (.slice g5 C.length cg5) (.slice a5 ps.length c5)) hs (n := 5) (by kernel_rfl) (hf.eval rfl) (hf.eval rfl) (by simp [Value.oneCell', fdF]) rfl rfl .k0 ?_); clear hf hs a; intro w hs a hf
      refine s_nil ?_
      refine then_n ?_
      refine wp_ret ?_
      refine then_r ?_
      refine r_1c hf Tryd.results55 rfl hs ag82 rfl .k0 ?_
      obtain ⟨hq1, hq2, _, hq4⟩ := hsv hi1
      have hv := lk_of (show zt l < 1024 by omega) hi1
      rw [← hq1, ← hq2] at hv
      rw [hv]
      replace hs := hs.take (A := datR ps) (by first | exact .k0 | exact .k1 | exact .k2 | exact .k3 | exact .k4 | exact .k5 | exact .k6 | exact .k7 | exact .k8 | exact .k9 | exact .k10 | exact .k11)
      replace hs := hs.take (A := sl 110 2 (.slice a5 ps.length c5) ps.length (ps.flatMap pcF)) (by first | exact .k0 | exact .k1 | exact .k2 | exact .k3 | exact .k4 | exact .k5 | exact .k6 | exact .k7 | exact .k8 | exact .k9 | exact .k10 | exact .k11)
      replace hs := hs.take (A := slB 5 (.slice g5 C.length cg5) C) (by first | exact .k0 | exact .k1 | exact .k2 | exact .k3 | exact .k4 | exact .k5 | exact .k6 | exact .k7 | exact .k8 | exact .k9 | exact .k10 | exact .k11)
      exact ⟨g5, cg5, _, ps, rfl, fun _ _ => hq4, St.keep [_, _, _] _ hs⟩
    · first | simp only [decide_eq_true_eq, decide_eq_false_iff_not, Bool.not_eq_true', Bool.not_eq_false'] at hi1 | skip
      refine wp_skip ?_
      refine then_n ?_
      refine wp_seq ?_
      refine wp_region_lit ?_
      refine s_m hf rfl ?_; clear hf a; intro a hf
      refine s_v hf (x_len Tryd.underlying25 (hf.eval rfl)) ?_; clear hf a; intro a hf
      refine s_r hf (x_build (v := .agg (vdF (0, 0, (l.length : Int))).toArray) (hf.parts rfl) (fun w => by kernel_rfl) _) ?_; clear hf a; intro a hf
      refine s_m hf rfl ?_; clear hf a; intro a hf
      refine s_do hf rfl (y_appendB (v := .slice none 0 0) (s := l) (hs.emp (slB_nil 5)) sl25 rfl rfl (hf.eval rfl) .k0 (hs.oldB (hr1)) (by simp; omega) ?_); clear hf hs a; intro v2 w hs hv a hf
      simp only [List.nil_append] at hs
      obtain ⟨g, cg, rfl, hcg⟩ := slB_shape hs
      refine s_r hf (x_build (v := .agg (fdF (0, 0, (l.length : Int)) (.slice g (l).length cg) (.slice none 0 0)).toArray) (hf.parts rfl) (fun w => by kernel_rfl) _) ?_; clear hf a; intro a hf
      replace hs := hs.take (A := cb b2 82 (fdF (0, 0, 0) (.slice none 0 0) (.slice none 0 0))) (by first | exact .k0 | exact .k1 | exact .k2 | exact .k3 | exact .k4 | exact .k5 | exact .k6 | exact .k7 | exact .k8 | exact .k9 | exact .k10 | exact .k11)
      refine s_do0 hf rfl (y_storeAgg (cs := fdF (0, 0, (l.length : Int)) (.slice g (l).length cg) (.slice none 0 0)) hs (n := 5) (by kernel_rfl) (hf.eval rfl) (hf.eval rfl) (by simp [Value.oneCell', fdF]) rfl rfl .k0 ?_); clear hf hs a; intro w hs a hf
      refine s_nil ?_
      refine then_n ?_
      refine wp_ret ?_
      refine r_1c hf Tryd.results55 rfl hs ag82 rfl .k0 ?_
      have hv := lk_no (show zt l < 1024 by omega) hi1
      replace hs := (hs.emp (A := datR []) (fun _ => trivial)).emp (A := sl 110 2 (.slice none 0 0) ([] : List Pt).length (([] : List Pt).flatMap pcF)) slW0
      rw [hv]
      replace hs := hs.take (A := slB 5 (.slice g (l).length cg) l) (by first | exact .k0 | exact .k1 | exact .k2 | exact .k3 | exact .k4 | exact .k5 | exact .k6 | exact .k7 | exact .k8 | exact .k9 | exact .k10 | exact .k11)
      exact ⟨g, cg, _, [], rfl, fun h1 h2 => (by rw [hi1] at h2; cases h2), St.keep [_, _, _] _ hs⟩
end Go.Proofs.YtehakfbfjpolfaaDoor

namespace Go.Proofs.YtehakfbfjpolfaaDoor
open Go Vw
theorem vd_fd {v : Int × Int × Int} {cv bv u : Value} {j : Nat} (h : (vdF v)[j]? = some u) : (fdF v cv bv)[j]? = some u := by
  have e : fdF v cv bv = vdF v ++ [cv, bv] := rfl
  have hj : j < (vdF v).length := (List.getElem?_eq_some_iff.1 h).1
  rw [e, List.getElem?_append_left hj]
  exact h
theorem vd_eq (d : Nat) (w : World) (s : Int × Int × Int) : (Op.equalIn (d + 2) 45 (.agg (vdF s).toArray) (.agg (vdF s).toArray)).run Tryd.prog w = .ok true w := by
  have hst : Tryd.prog.stoodInHeld 45 = false := by kernel_rfl
  have h0 := pt3 (vdF s).toArray 0 w (.int .i64 s.1) rfl
  have h1 := pt3 (vdF s).toArray 1 w (.int .i64 s.2.1) rfl
  have h2 := pt3 (vdF s).toArray 2 w (.int .i64 s.2.2) rfl
  have hp : ∀ {α : Type} (f : Program → Sem α), Sem.run Tryd.prog (Sem.program f) w = Sem.run Tryd.prog (f Tryd.prog) w := fun f => rfl
  have hq : Sem.run Tryd.prog (Sem.pure Tryd.prog) w = .ok Tryd.prog w := rfl
  have e3 := fun n => eqi (P := Tryd.prog) d (t := 3) Tryd.underlying3 n w
  rw [Op.equalIn]
  simp only [Sem.run_bind, run_underlying Tryd.underlying45, Result.andThen_ok]
  simp only [program, Sem.run_bind, hp, hq, hst, Sem.run_pure, Result.andThen_ok, if_false, Bool.false_eq_true, ← Array.forIn_toList, List.forIn_cons, List.forIn_nil, h0, h1, h2, e3, Bool.not_true, ne_eq, String.reduceEq, not_false_eq_true, if_true]
theorem x_vdEq {ρ : Operand → Value} {d : Option Nat} {ty : TypeId} {pos : String} {after : Array Edge} {g : Option (Nat × Bool)} {u : TypeId} {x y : Operand} {s t : Int × Int × Int} (hx : ρ x = .agg (vdF s).toArray) (hy : ρ y = .agg (vdF t).toArray) (h : s = t) (w : World) :
    (execOp ρ ⟨d, .binOp .eql 45 x y u, ty, pos, after, g⟩).run Tryd.prog w = .ok (.value (.bool true)) w := by
  subst h
  have h1 := vd_eq 9998 w s
  simp only [execOp, hx, hy]
  simp [eqGuard, binOp, Op.equal, Op.maxDepth, go_sem, h1]
attribute [local irreducible] Vw.sl Vw.sdS Vw.bodyS Vw.zt Vw.putPs Vw.seOk Vw.bkOk Vw.lkZ Vw.lkP Vw.lkOk Vw.lkV
end Go.Proofs.YtehakfbfjpolfaaDoor

namespace Go.Proofs.YtehakfbfjpolfaaDoor
open Go Vw
theorem lkP_small {l : List UInt8} (h : lkOk l = true) (hl : l.length ≤ 16777216) : (lkP l).length ≤ 2097152 := by
  unfold lkOk at h
  simp only [Bool.and_eq_true] at h
  have h2 := h.2
  have hf := (seGood h.1).flds.2.2.2.1
  have hb : (bodyS l).length ≤ l.length := by unfold bodyS; rw [List.length_take, List.length_drop]; omega
  unfold lkP
  revert h2 hf hb
  generalize sdS l = s
  generalize bodyS l = b
  intro hf h2 hb
  by_cases c3 : s.1 = 3
  · rw [if_pos c3]
    have hk : bkOk s b = true := by first | (rw [c3] at h2; simpa using h2) | (rw [c3] at hf; simpa using hf)
    have h9 := bk_cnt hk
    unfold bkL
    rw [List.length_map, List.length_range]
    omega
  · rw [if_neg c3]; simp
theorem St.cut {σ : Sig} {w : World} : ∀ (A L : List Asrt) {R : List Asrt}, St σ w (A ++ (L ++ R)) → St σ w (A ++ R)
  | A, [], _, h => h
  | A, x :: L, R, h => by
    have tk : ∀ (A : List Asrt), Take x (A ++ x :: (L ++ R)) (A ++ (L ++ R)) := fun A => by
      induction A with
      | nil => exact .k0
      | cons y A ih => exact .there _ ih
    exact St.cut A L (h.lose (tk A))
theorem St.mid {σ : Sig} {w : World} {A : Asrt} : ∀ (L : List Asrt) {R : List Asrt}, St σ w (A :: (L ++ R)) → St σ w (A :: R)
  | [], _, h => h
  | _ :: L, _, h => St.mid L ((h.take .k1).drop)
def vA : Value → Option Addr
  | .slice a _ _ => a
  | _ => none
def vC : Value → Nat
  | .slice _ _ c => c
  | _ => 0
def toW (p : Pt) : Wr := ((p.1 : Int), vA p.2.1, vC p.2.1, p.2.2)
theorem toW_v {h : Heaplet} {p : Pt} (hr : RdB h p.2.1 p.2.2) : p.2.1 = .slice (vA p.2.1) p.2.2.length (vC p.2.1) := by
  obtain ⟨a, c, e⟩ := hr.shape
  rw [e]; rfl
theorem toW_F : ∀ {ps : List Pt}, (∀ p ∈ ps, p.2.1 = .slice (vA p.2.1) p.2.2.length (vC p.2.1)) → (ps.map toW).flatMap wF = ps.flatMap pcF
  | [], _ => rfl
  | p :: ps, h => by
    rw [List.map_cons, List.flatMap_cons, List.flatMap_cons, toW_F fun q hq => h q (by simp [hq])]
    congr 1
    show [Value.int .i64 (p.1 : Int), Value.slice (vA p.2.1) p.2.2.length (vC p.2.1)] = [.int .i64 (p.1 : Int), p.2.1]
    rw [← h p (by simp)]
theorem toW_ops (ps : List Pt) : wrsU (ps.map toW) = (ps.map pcOf).map wrO := by
  unfold wrsU
  rw [List.map_map, List.map_map]
  rfl
theorem datR_shape {σ : Sig} {w : World} {L R : List Asrt} {ps : List Pt} (hs : St σ w L) (tk : Take (datR ps) L R) : ∀ p ∈ ps, p.2.1 = .slice (vA p.2.1) p.2.2.length (vC p.2.1) := fun p hp => by
  obtain ⟨i, hi, rfl⟩ := List.getElem_of_mem hp
  exact toW_v (hs.datR tk hi)
theorem datR_rdy {σ : Sig} {R R' : List Asrt} {ps : List Pt} (tk : Take (datR ps) R R') (hv : ∀ p ∈ ps, p.2.1 = .slice (vA p.2.1) p.2.2.length (vC p.2.1)) : ∀ z ∈ ps.map toW, Rdy σ R (.slice z.2.1 z.2.2.2.length z.2.2.1) z.2.2.2 := fun z hz => by
  obtain ⟨p, hp, rfl⟩ := List.mem_map.1 hz
  obtain ⟨i, hi, rfl⟩ := List.getElem_of_mem hp
  intro w L hs
  have := hs.datR (take_append tk L) hi
  show RdB _ (.slice (vA ps[i].2.1) ps[i].2.2.length (vC ps[i].2.1)) _
  rw [← hv _ hp]; exact this
def recV (s : DS) : (Int × Int × Int) × Int := if s.dead = true then ((0, 0, 0), 12) else if (runS s (opsR s.now)).1 ≠ 0 then ((0, 0, 0), (runS s (opsR s.now)).1) else ((lkV s.now).1, 0)
def recS (s : DS) : DS := if s.dead = true then s else (runS s (opsR s.now)).2
theorem rec_dead {s : DS} (h : s.dead = true) : recV s = ((0, 0, 0), 12) ∧ recS s = s := by unfold recV recS; rw [if_pos h, if_pos h]; exact ⟨rfl, rfl⟩
theorem rec_bad {s : DS} (h : s.dead = false) (h1 : (runS s (opsR s.now)).1 ≠ 0) : recV s = ((0, 0, 0), (runS s (opsR s.now)).1) ∧ recS s = (runS s (opsR s.now)).2 := by unfold recV recS; rw [if_neg (by simp [h]), if_pos h1, if_neg (by simp [h])]; exact ⟨rfl, rfl⟩
theorem rec_ok {s : DS} (h : s.dead = false) (h1 : (runS s (opsR s.now)).1 = 0) : recV s = ((lkV s.now).1, 0) ∧ recS s = (runS s (opsR s.now)).2 := by unfold recV recS; rw [if_neg (by simp [h]), if_neg (by simp [h1]), if_neg (by simp [h])]; exact ⟨rfl, rfl⟩
theorem rec_none {s : DS} (h : s.dead = false) (h1 : (lkV s.now).1.1 = 0) : recV s = ((lkV s.now).1, 0) ∧ recS s = s := by
  have e : opsR s.now = [] := by unfold opsR; rw [if_pos h1]
  have e2 : runS s (opsR s.now) = (0, s) := by rw [e]; rfl
  have := rec_ok h (by rw [e2])
  rw [e2] at this
  exact this
theorem opsR_3 {im : List UInt8} (h : (lkV im).1.1 = 3) : opsR im = ((lkP im).map wrO ++ [syO]) ++ [(3, (lkV im).1.2.2, []), syO] := by unfold opsR; rw [if_neg (by omega), if_pos h]
theorem opsR_o {im : List UInt8} (h : (lkV im).1.1 ≠ 0) (h3 : (lkV im).1.1 ≠ 3) : opsR im = [(3, (lkV im).1.2.2, []), syO] := by unfold opsR; rw [if_neg h, if_neg h3]; rfl
attribute [local irreducible] Vw.sl Vw.sdS Vw.bodyS Vw.zt Vw.putPs Vw.seOk Vw.bkOk Vw.lkZ Vw.lkP Vw.lkOk Vw.lkV Vw.runS Vw.opsR Vw.wrsU
theorem recAll (w0 w : World) (R : List Asrt) (p D b : Nat) (fs : List Nat) (s : DS) (aw : Option Addr) (cw : Nat) (ps : List Pt) (hrw : RdyS wF 2 ⟨w0, None_⟩ R (.slice aw (ps.map toW).length cw) (ps.map toW)) (hlw : (lkV s.now).1.1 = 3 → ps.length ≤ 2097152 ∧ ∀ z ∈ ps.map toW, z.2.2.2.length ≤ 16777216) (hgw : ∀ z ∈ ps.map toW, Rdy ⟨w0, None_⟩ R (.slice z.2.1 z.2.2.2.length z.2.2.1) z.2.2.2) (hps : (lkV s.now).1.1 = 3 → ps.map pcOf = lkP s.now)
    (hs : St ⟨w0, None_⟩ w (cb b 73 (fs.map (fnV (.pointer (some ⟨p, 0, none⟩)))) :: cb p 102 (runF (.pointer (some ⟨D, 0, none⟩)) (lkV s.now).1.2.2 (lkV s.now).1.2.2 (.slice aw (ps.map toW).length cw) zSl (.slice none 0 0) 0 0 0) :: diskA 94 113 5 3 D s :: R)) (h0 : (lkV s.now).1.1 ≠ 0) (hfs : fs = if (lkV s.now).1.1 = 3 then [64, 63] else [63]) (ho : DOk s) (k : Nat) (hb : DB s k) (hk : k ≤ 100000) :
    Calls Tryd.prog 65 #[.slice (some ⟨b, 0, none⟩) fs.length fs.length] w fun e w' => e = .returned (.int .i64 (runS s (opsR s.now)).1) ∧ St ⟨w0, None_⟩ w' (cb b 73 (fs.map (fnV (.pointer (some ⟨p, 0, none⟩)))) :: cb p 102 (runF (.pointer (some ⟨D, 0, none⟩)) (lkV s.now).1.2.2 (lkV s.now).1.2.2 (.slice aw (ps.map toW).length cw) zSl (.slice none 0 0) 0 0 0) :: diskA 94 113 5 3 D (runS s (opsR s.now)).2 :: R) := by
  have hln : ((ps.map toW)).length = ps.length := List.length_map _
  have hwl : (wrsU (ps.map toW)).length = ps.length := by rw [toW_ops, List.length_map, List.length_map]
  have hcut : ∀ t w, St ⟨w0, None_⟩ w (cb b 73 (fs.map (fnV (.pointer (some ⟨p, 0, none⟩)))) :: cb p 102 (runF (.pointer (some ⟨D, 0, none⟩)) (lkV s.now).1.2.2 (lkV s.now).1.2.2 (.slice aw (ps.map toW).length cw) zSl (.slice none 0 0) 0 0 0) :: diskA 94 113 5 3 D t :: R) → DOk t → ∀ k, DB t k → k ≤ 33000000 → Calls Tryd.prog 63 #[.pointer (some ⟨p, 0, none⟩)] w fun e w' => e = .returned (.int .i64 (runS t [(3, (lkV s.now).1.2.2, []), syO]).1) ∧ St ⟨w0, None_⟩ w' (cb b 73 (fs.map (fnV (.pointer (some ⟨p, 0, none⟩)))) :: cb p 102 (runF (.pointer (some ⟨D, 0, none⟩)) (lkV s.now).1.2.2 (lkV s.now).1.2.2 (.slice aw (ps.map toW).length cw) zSl (.slice none 0 0) 0 0 0) :: diskA 94 113 5 3 D (runS t [(3, (lkV s.now).1.2.2, []), syO]).2 :: R) := fun t w hs ho k hb hk =>
    (cut_spec w0 w (_ :: R) p D _ _ _ _ _ _ _ _ t (hs.take .k1 |>.take .k2 |>.take .k1) ho k hb hk).mono fun e w' ⟨he, hs⟩ => ⟨he, hs.take .k2⟩
  have hwri : (lkV s.now).1.1 = 3 → ∀ t w, St ⟨w0, None_⟩ w (cb b 73 (fs.map (fnV (.pointer (some ⟨p, 0, none⟩)))) :: cb p 102 (runF (.pointer (some ⟨D, 0, none⟩)) (lkV s.now).1.2.2 (lkV s.now).1.2.2 (.slice aw (ps.map toW).length cw) zSl (.slice none 0 0) 0 0 0) :: diskA 94 113 5 3 D t :: R) → DOk t → ∀ k, DB t k → k + ps.length ≤ 33000000 → Calls Tryd.prog 64 #[.pointer (some ⟨p, 0, none⟩)] w fun e w' => e = .returned (.int .i64 (runS t (wrsU (ps.map toW) ++ [syO])).1) ∧ St ⟨w0, None_⟩ w' (cb b 73 (fs.map (fnV (.pointer (some ⟨p, 0, none⟩)))) :: cb p 102 (runF (.pointer (some ⟨D, 0, none⟩)) (lkV s.now).1.2.2 (lkV s.now).1.2.2 (.slice aw (ps.map toW).length cw) zSl (.slice none 0 0) 0 0 0) :: diskA 94 113 5 3 D (runS t (wrsU (ps.map toW) ++ [syO])).2 :: R) := fun h3 t w hs ho k hb hk =>
    (write_spec w0 w (_ :: R) p D _ _ _ aw cw (ps.map toW) (RdyS.more hrw [_]) (by rw [hln]; have := (hlw h3).1; omega) (fun z hz => ⟨(hgw z hz).more [_], (hlw h3).2 z hz⟩) _ _ _ _ t (hs.take .k1 |>.take .k2 |>.take .k1) ho k hb (by rw [hln]; exact hk)).mono fun e w' ⟨he, hs⟩ => ⟨he, hs.take .k2⟩
  by_cases h3 : (lkV s.now).1.1 = 3
  · rw [if_pos h3] at hfs
    subst hfs
    have e1 : opsR s.now = [wrsU (ps.map toW) ++ [syO], [(3, (lkV s.now).1.2.2, []), syO]].flatten := by
      rw [opsR_3 h3, toW_ops, hps h3]; simp
    rw [e1]
    refine (steps_all w (.pointer (some ⟨p, 0, none⟩)) [64, 63] [wrsU (ps.map toW) ++ [syO], [(3, (lkV s.now).1.2.2, []), syO]] rfl (some ⟨b, 0, none⟩) 2 (fun t w => St ⟨w0, None_⟩ w (cb b 73 ([64, 63].map (fnV (.pointer (some ⟨p, 0, none⟩)))) :: cb p 102 (runF (.pointer (some ⟨D, 0, none⟩)) (lkV s.now).1.2.2 (lkV s.now).1.2.2 (.slice aw (ps.map toW).length cw) zSl (.slice none 0 0) 0 0 0) :: diskA 94 113 5 3 D t :: R)) s k (by decide) (fun t w h => h.rd .k0 fun hh hb => rd_rows hb rfl) ?_ ?_ hs ho hb)
    · intro f hf
      simp only [List.mem_cons, List.not_mem_nil, or_false] at hf
      rcases hf with rfl | rfl
      · exact Tryd.call64
      · exact Tryd.call63
    · intro i hi hi2 t w hs ho hb
      simp only [List.flatten_cons, List.flatten_nil, List.append_nil, List.length_append, List.length_cons, List.length_nil, hwl] at hb
      have hi' : i = 0 ∨ i = 1 := by simp at hi; omega
      rcases hi' with rfl | rfl
      · exact hwri h3 t w hs ho _ hb (by have := (hlw h3).1; omega)
      · exact hcut t w hs ho _ hb (by omega)
  · rw [if_neg h3] at hfs
    subst hfs
    have e1 : opsR s.now = [[(3, (lkV s.now).1.2.2, []), syO]].flatten := by rw [opsR_o h0 h3]; simp
    rw [e1]
    refine (steps_all w (.pointer (some ⟨p, 0, none⟩)) [63] [[(3, (lkV s.now).1.2.2, []), syO]] rfl (some ⟨b, 0, none⟩) 1 (fun t w => St ⟨w0, None_⟩ w (cb b 73 ([63].map (fnV (.pointer (some ⟨p, 0, none⟩)))) :: cb p 102 (runF (.pointer (some ⟨D, 0, none⟩)) (lkV s.now).1.2.2 (lkV s.now).1.2.2 (.slice aw (ps.map toW).length cw) zSl (.slice none 0 0) 0 0 0) :: diskA 94 113 5 3 D t :: R)) s k (by decide) (fun t w h => h.rd .k0 fun hh hb => rd_rows hb rfl) ?_ ?_ hs ho hb)
    · intro f hf
      simp only [List.mem_singleton] at hf
      subst hf
      exact Tryd.call63
    · intro i hi hi2 t w hs ho hb
      simp only [List.flatten_cons, List.flatten_nil, List.append_nil, List.length_cons, List.length_nil] at hb
      have hi' : i = 0 := by simp at hi; omega
      subst hi'
      exact hcut t w hs ho _ hb (by omega)
attribute [local irreducible] recV recS
theorem recover_spec (w0 w : World) (R : List Asrt) (D : Nat) (s : DS) (hT : Tab 0 (hp w0)) (hs : St ⟨w0, None_⟩ w (diskA 94 113 5 3 D s :: R)) (ho : DOk s) (k : Nat) (hb : DB s k) (hk : k ≤ 100000) : Calls Tryd.prog 29 #[.pointer (some ⟨D, 0, none⟩)] w fun e w' => e = .returned (.tuple #[.agg (vdF (recV s).1).toArray, .int .i64 (recV s).2]) ∧ St ⟨w0, None_⟩ w' (diskA 94 113 5 3 D (recS s) :: R) := by
  have hn1 := ho.now
  have hn2 := ho.room1
  refine c_enter (N := 55) Tryd.func29 rfl Tryd.ntmps29 (by simp) ?_
  intro a hf
  refine wp_seq ?_
  refine wp_region_lit ?_
  refine s_do hf rfl (y_alloc hs Tryd.zeroValue45 ?_); clear hf hs a; intro b2 w hs a hf
  change St _ _ (cb b2 45 (vdF (0, 0, 0)) :: _) at hs
  refine s_a hf rfl ?_; clear hf a; intro a hf
  refine s_nil ?_
  refine then_n ?_
  refine wp_seq ?_
  refine wp_seq ?_
  refine wp_region_lit ?_
  refine s_m hf rfl ?_; clear hf a; intro a hf
  refine s_v hf (x_eqNil Tryd.underlying49 (hf.eval rfl) (hf.eval rfl)) ?_; clear hf a; intro a hf
  replace hf := hf.now (k := 9) (v' := .bool false) rfl rfl
  refine s_nil ?_
  refine then_n ?_
  refine c_cond_f hf rfl rfl ?_
  refine wp_skip ?_
  refine then_n ?_
  refine wp_seq ?_
  refine wp_seq ?_
  refine wp_region_lit ?_
  refine s_m hf rfl ?_; clear hf a; intro a hf
  replace hs := hs.take (A := diskA 94 113 5 3 D s) (by first | exact .k0 | exact .k1 | exact .k2 | exact .k3 | exact .k4 | exact .k5 | exact .k6 | exact .k7 | exact .k8 | exact .k9 | exact .k10 | exact .k11)
  refine s_do hf rfl (y_call (hf.eval rfl) (hf.evals rfl) Tryd.call62 ((dAlive_spec _ _ _ D s hs).mono ?_))
  rintro e w1 ⟨rfl, hw9⟩
  rw [hw9]
  clear hw9 w1
  refine ⟨_, rfl, ?_⟩; clear hf a; intro a hf
  refine s_v hf (x_not (hf.eval rfl)) ?_; clear hf a; intro a hf
  refine s_nil ?_
  refine then_n ?_
  refine c_cond hf rfl (fun hi1 => ?_) (fun hi1 => ?_)
  · simp only [Bool.not_not, Bool.not_eq_true', Bool.not_eq_false'] at hi1
    refine wp_seq ?_
    refine wp_region_lit ?_
    refine s_r hf (x_build (v := .agg (vdF (0, 0, 0)).toArray) (hf.parts rfl) (fun w => by kernel_rfl) _) ?_; clear hf a; intro a hf
    replace hs := hs.take (A := cb b2 45 (vdF (0, 0, 0))) (by first | exact .k0 | exact .k1 | exact .k2 | exact .k3 | exact .k4 | exact .k5 | exact .k6 | exact .k7 | exact .k8 | exact .k9 | exact .k10 | exact .k11)
    refine s_do0 hf rfl (y_storeAgg (cs := vdF (0, 0, 0)) hs (n := 3) (by kernel_rfl) (hf.eval rfl) (hf.eval rfl) (by simp [Value.oneCell', vdF]) rfl rfl .k0 ?_); clear hf hs a; intro w hs a hf
    refine s_a hf rfl ?_; clear hf a; intro a hf
    refine s_nil ?_
    refine then_n ?_
    refine wp_ret ?_
    refine then_r ?_
    refine r_2c hf Tryd.results29 rfl rfl hs ag45 rfl (by first | exact .k0 | exact .k1 | exact .k2 | exact .k3 | exact .k4 | exact .k5 | exact .k6 | exact .k7 | exact .k8 | exact .k9 | exact .k10 | exact .k11) ?_
    rw [(rec_dead hi1).1, (rec_dead hi1).2]
    replace hs := hs.take (A := diskA 94 113 5 3 D s) (by first | exact .k0 | exact .k1 | exact .k2 | exact .k3 | exact .k4 | exact .k5 | exact .k6 | exact .k7 | exact .k8 | exact .k9 | exact .k10 | exact .k11)
    exact ⟨rfl, St.mid [_] hs⟩
  · simp only [Bool.not_not, Bool.not_eq_true', Bool.not_eq_false'] at hi1
    refine wp_skip ?_
    refine then_n ?_
    refine wp_seq ?_
    refine wp_region_lit ?_
    refine s_m hf rfl ?_; clear hf a; intro a hf
    replace hs := hs.take (A := diskA 94 113 5 3 D s) (by first | exact .k0 | exact .k1 | exact .k2 | exact .k3 | exact .k4 | exact .k5 | exact .k6 | exact .k7 | exact .k8 | exact .k9 | exact .k10 | exact .k11)
    refine s_do hf rfl (y_call (hf.eval rfl) (hf.evals rfl) Tryd.call36 ((dImage_spec _ _ _ D s hs (by omega)).mono ?_))
    rintro e w1 ⟨e1, f1, rfl, hs⟩
    refine ⟨_, rfl, ?_⟩; clear hf a; intro a hf
    refine s_do hf rfl (y_call (hf.eval rfl) (hf.evals rfl) Tryd.call55 ((looked_spec _ (hT.kept hs.kept) _ _ s.now (hs.rdB .k0 fun h => slB_rd) (by omega)).mono ?_))
    rintro e w1 ⟨g, cg, bv, ps, rfl, hps, hj⟩
    replace hs := hs.join hj
    simp only [List.cons_append, List.nil_append] at hs
    replace hs := hs.take (A := sl 110 2 bv ps.length (ps.flatMap pcF)) (by first | exact .k0 | exact .k1 | exact .k2 | exact .k3 | exact .k4 | exact .k5 | exact .k6 | exact .k7 | exact .k8 | exact .k9 | exact .k10 | exact .k11)
    obtain ⟨av, cvv, rfl⟩ := sl_shape hs
    refine ⟨_, rfl, ?_⟩; clear hf a; intro a hf
    refine s_do hf rfl (y_alloc hs Tryd.zeroValue82 ?_); clear hf hs a; intro b4 w hs a hf
    change St _ _ (cb b4 82 (fdF (0, 0, 0) (.slice none 0 0) (.slice none 0 0)) :: _) at hs
    refine s_do0 hf rfl (y_storeAgg (cs := fdF (lkV s.now).1 (.slice g (lkV s.now).2.length cg) (.slice av ps.length cvv)) hs (n := 5) (by kernel_rfl) (hf.eval rfl) (hf.eval rfl) (by simp [Value.oneCell', fdF]) rfl rfl .k0 ?_); clear hf hs a; intro w hs a hf
    refine s_nil ?_
    refine then_n ?_
    refine wp_seq ?_
    refine wp_seq ?_
    refine wp_region_lit ?_
    refine s_v hf (x_fieldAddr fo82_0 (hf.eval rfl)) ?_; clear hf a; intro a hf
    refine s_v hf (x_fieldAddr fo45_0 (hf.eval rfl)) ?_; clear hf a; intro a hf
    refine s_r hf (x_load sc3 (hf.eval rfl) (by first | exact hs.cell .k0 rfl | exact hs.cell .k1 rfl | exact hs.cell .k2 rfl | exact hs.cell .k3 rfl | exact hs.cell .k4 rfl | exact hs.cell .k5 rfl | exact hs.cell .k6 rfl | exact hs.cell .k7 rfl | exact hs.cell .k8 rfl | exact hs.cell .k9 rfl)) ?_; clear hf a; intro a hf
    replace hf := hf.now (k := 20) (v' := .int .i64 (lkV s.now).1.1) rfl (rfl)
    refine s_v hf (x_bin (hf.eval rfl) (hf.eval rfl) (r_eq _ _ _ _)) ?_; clear hf a; intro a hf
    refine s_nil ?_
    refine then_n ?_
    refine c_cond hf rfl (fun hi2 => ?_) (fun hi2 => ?_)
    · first | simp only [decide_eq_true_eq, decide_eq_false_iff_not, Bool.not_eq_true', Bool.not_eq_false', ne_eq, Classical.not_not] at hi2 | skip
      refine wp_seq ?_
      refine wp_region_lit ?_
      refine s_v hf (x_fieldAddr fo82_0 (hf.eval rfl)) ?_; clear hf a; intro a hf
      refine s_r hf (x_loadAgg ag45 (hf.eval rfl) (vs := vdF (lkV s.now).1) rfl (fun j v hv => cells_of (hs.take (A := cb b4 82 (fdF (lkV s.now).1 (.slice g (lkV s.now).2.length cg) (.slice av ps.length cvv))) (by first | exact .k0 | exact .k1 | exact .k2 | exact .k3 | exact .k4 | exact .k5 | exact .k6 | exact .k7 | exact .k8 | exact .k9 | exact .k10 | exact .k11)) .k0 j v (vd_fd hv))) ?_; clear hf a; intro a hf
      replace hs := hs.take (A := cb b2 45 (vdF (0, 0, 0))) (by first | exact .k0 | exact .k1 | exact .k2 | exact .k3 | exact .k4 | exact .k5 | exact .k6 | exact .k7 | exact .k8 | exact .k9 | exact .k10 | exact .k11)
      refine s_do0 hf rfl (y_storeAgg (cs := vdF (lkV s.now).1) hs (n := 3) (by kernel_rfl) (hf.eval rfl) (hf.eval rfl) (by simp [Value.oneCell', vdF]) rfl rfl .k0 ?_); clear hf hs a; intro w hs a hf
      refine s_a hf rfl ?_; clear hf a; intro a hf
      refine s_nil ?_
      refine then_n ?_
      refine wp_ret ?_
      refine then_r ?_
      refine r_2c hf Tryd.results29 rfl rfl hs ag45 rfl (by first | exact .k0 | exact .k1 | exact .k2 | exact .k3 | exact .k4 | exact .k5 | exact .k6 | exact .k7 | exact .k8 | exact .k9 | exact .k10 | exact .k11) ?_
      rw [(rec_none hi1 hi2).1, (rec_none hi1 hi2).2]
      replace hs := hs.take (A := diskA 94 113 5 3 D s) (by first | exact .k0 | exact .k1 | exact .k2 | exact .k3 | exact .k4 | exact .k5 | exact .k6 | exact .k7 | exact .k8 | exact .k9 | exact .k10 | exact .k11)
      exact ⟨rfl, St.mid [_, _, _, _, _, _] hs⟩
    · first | simp only [decide_eq_true_eq, decide_eq_false_iff_not, Bool.not_eq_true', Bool.not_eq_false', ne_eq, Classical.not_not] at hi2 | skip
      have hl3 : (lkV s.now).1.1 = 3 → ps.map pcOf = lkP s.now ∧ ps.length ≤ 2097152 ∧ ∀ z ∈ ps.map toW, z.2.2.2.length ≤ 16777216 := by
        intro h3
        rcases look_cases s.now with h | h | ⟨_, k1, _, _, k2, k3, _⟩
        · omega
        · omega
        · have hk0 : zt s.now < 1024 := by have k9 := k1; unfold lkOk at k9; simp only [Bool.and_eq_true] at k9; exact se_zt k9.1
          have hpm := hps hk0 k1
          have h7 := congrArg List.length hpm
          rw [List.length_map] at h7
          have h8 := lkP_small k1 (by omega)
          refine ⟨hpm, by omega, fun z hz => ?_⟩
          obtain ⟨q, hq, rfl⟩ := List.mem_map.1 hz
          have h9 := lk_mem k1 (pcOf q) (by rw [← hpm]; exact List.mem_map_of_mem hq)
          show q.2.2.length ≤ _
          have h6 : (((q.1 + q.2.2.length : Nat)) : Int) ≤ lkZ s.now := h9.2
          omega
      refine wp_skip ?_
      refine then_n ?_
      refine wp_seq ?_
      refine wp_region_lit ?_
      refine s_m hf rfl ?_; clear hf a; intro a hf
      refine s_v hf (x_fieldAddr fo82_0 (hf.eval rfl)) ?_; clear hf a; intro a hf
      refine s_v hf (x_fieldAddr fo45_2 (hf.eval rfl)) ?_; clear hf a; intro a hf
      refine s_r hf (x_load sc3 (hf.eval rfl) (by first | exact hs.cell .k0 rfl | exact hs.cell .k1 rfl | exact hs.cell .k2 rfl | exact hs.cell .k3 rfl | exact hs.cell .k4 rfl | exact hs.cell .k5 rfl | exact hs.cell .k6 rfl | exact hs.cell .k7 rfl | exact hs.cell .k8 rfl | exact hs.cell .k9 rfl)) ?_; clear hf a; intro a hf
      replace hf := hf.now (k := 27) (v' := .int .i64 (lkV s.now).1.2.2) rfl (rfl)
      refine s_v hf (x_fieldAddr fo82_0 (hf.eval rfl)) ?_; clear hf a; intro a hf
      refine s_v hf (x_fieldAddr fo45_2 (hf.eval rfl)) ?_; clear hf a; intro a hf
      refine s_r hf (x_load sc3 (hf.eval rfl) (by first | exact hs.cell .k0 rfl | exact hs.cell .k1 rfl | exact hs.cell .k2 rfl | exact hs.cell .k3 rfl | exact hs.cell .k4 rfl | exact hs.cell .k5 rfl | exact hs.cell .k6 rfl | exact hs.cell .k7 rfl | exact hs.cell .k8 rfl | exact hs.cell .k9 rfl)) ?_; clear hf a; intro a hf
      replace hf := hf.now (k := 30) (v' := .int .i64 (lkV s.now).1.2.2) rfl (rfl)
      refine s_v hf (x_fieldAddr fo82_2 (hf.eval rfl)) ?_; clear hf a; intro a hf
      refine s_r hf (x_load sc80 (hf.eval rfl) (by first | exact hs.cell .k0 rfl | exact hs.cell .k1 rfl | exact hs.cell .k2 rfl | exact hs.cell .k3 rfl | exact hs.cell .k4 rfl | exact hs.cell .k5 rfl | exact hs.cell .k6 rfl | exact hs.cell .k7 rfl | exact hs.cell .k8 rfl | exact hs.cell .k9 rfl)) ?_; clear hf a; intro a hf
      replace hf := hf.now (k := 32) (v' := .slice av (ps.map toW).length cvv) rfl (by rw [List.length_map])
      refine s_r hf (x_build (v := .agg (runF (.pointer (some ⟨D, 0, none⟩)) (lkV s.now).1.2.2 (lkV s.now).1.2.2 (.slice av (ps.map toW).length cvv) zSl (.slice none 0 0) 0 0 0).toArray) (hf.parts rfl) (fun w => by kernel_rfl) _) ?_; clear hf a; intro a hf
      refine s_do hf rfl (y_box hs (hf.eval rfl) ?_); clear hf hs a; intro p w hs a hf
      replace hs : St _ _ (cb p 102 (runF (.pointer (some ⟨D, 0, none⟩)) (lkV s.now).1.2.2 (lkV s.now).1.2.2 (.slice av (ps.map toW).length cvv) zSl (.slice none 0 0) 0 0 0) :: _) := hs
      refine s_a hf rfl ?_; clear hf a; intro a hf
      refine s_nil ?_
      refine then_n ?_
      refine wp_seq ?_
      refine wp_region_lit ?_
      refine s_m hf rfl ?_; clear hf a; intro a hf
      refine s_v hf (x_makeFunc (hf.evals rfl)) ?_; clear hf a; intro a hf
      refine s_do hf rfl (y_lit (xs := [.tmp 36]) hs sl103 (hf.evals rfl) rfl (by simp [Value.cells]) (by decide) ?_); clear hf hs a; intro b w hs a hf
      replace hs : St _ _ (cb b 73 (([63] : List Nat).map (fnV (.pointer (some ⟨p, 0, none⟩)))) :: _) := hs
      refine s_a hf rfl ?_; clear hf a; intro a hf
      refine s_nil ?_
      refine then_n ?_
      have hsh := datR_shape (ps := ps) hs (by first | exact .k0 | exact .k1 | exact .k2 | exact .k3 | exact .k4 | exact .k5 | exact .k6 | exact .k7 | exact .k8 | exact .k9 | exact .k10 | exact .k11)
      have hslw : sl 110 2 (.slice av ps.length cvv) ps.length (ps.flatMap pcF) = sl 110 2 (.slice av (ps.map toW).length cvv) (ps.map toW).length ((ps.map toW).flatMap wF) := by rw [toW_F hsh, List.length_map]
      rw [hslw] at hs
      replace hs := hs.take (A := cb b2 45 (vdF (0, 0, 0))) (by first | exact .k0 | exact .k1 | exact .k2 | exact .k3 | exact .k4 | exact .k5 | exact .k6 | exact .k7 | exact .k8 | exact .k9 | exact .k10 | exact .k11)
      replace hs := hs.take (A := cb b4 82 (fdF (lkV s.now).1 (.slice g (lkV s.now).2.length cg) (.slice av ps.length cvv))) (by first | exact .k0 | exact .k1 | exact .k2 | exact .k3 | exact .k4 | exact .k5 | exact .k6 | exact .k7 | exact .k8 | exact .k9 | exact .k10 | exact .k11)
      replace hs := hs.take (A := datR ps) (by first | exact .k0 | exact .k1 | exact .k2 | exact .k3 | exact .k4 | exact .k5 | exact .k6 | exact .k7 | exact .k8 | exact .k9 | exact .k10 | exact .k11)
      replace hs := hs.take (A := sl 110 2 (.slice av (ps.map toW).length cvv) (ps.map toW).length ((ps.map toW).flatMap wF)) (by first | exact .k0 | exact .k1 | exact .k2 | exact .k3 | exact .k4 | exact .k5 | exact .k6 | exact .k7 | exact .k8 | exact .k9 | exact .k10 | exact .k11)
      replace hs := hs.take (A := diskA 94 113 5 3 D s) (by first | exact .k0 | exact .k1 | exact .k2 | exact .k3 | exact .k4 | exact .k5 | exact .k6 | exact .k7 | exact .k8 | exact .k9 | exact .k10 | exact .k11)
      replace hs := hs.take (A := cb p 102 (runF (.pointer (some ⟨D, 0, none⟩)) (lkV s.now).1.2.2 (lkV s.now).1.2.2 (.slice av (ps.map toW).length cvv) zSl (.slice none 0 0) 0 0 0)) (by first | exact .k0 | exact .k1 | exact .k2 | exact .k3 | exact .k4 | exact .k5 | exact .k6 | exact .k7 | exact .k8 | exact .k9 | exact .k10 | exact .k11)
      replace hs := hs.take (A := cb b 73 (([63] : List Nat).map (fnV (.pointer (some ⟨p, 0, none⟩))))) (by first | exact .k0 | exact .k1 | exact .k2 | exact .k3 | exact .k4 | exact .k5 | exact .k6 | exact .k7 | exact .k8 | exact .k9 | exact .k10 | exact .k11)
      refine c_join (N := 55) (L0 := [(2, _), (3, _), (4, _)]) (fun M w => ∃ (bq : Nat) (fs : List Nat), M = [(6, .slice (some ⟨bq, 0, none⟩) fs.length fs.length)] ∧ fs = (if (lkV s.now).1.1 = 3 then [64, 63] else [63]) ∧ St ⟨w0, None_⟩ w (cb bq 73 (fs.map (fnV (.pointer (some ⟨p, 0, none⟩)))) :: cb p 102 (runF (.pointer (some ⟨D, 0, none⟩)) (lkV s.now).1.2.2 (lkV s.now).1.2.2 (.slice av (ps.map toW).length cvv) zSl (.slice none 0 0) 0 0 0) :: diskA 94 113 5 3 D s :: sl 110 2 (.slice av (ps.map toW).length cvv) (ps.map toW).length ((ps.map toW).flatMap wF) :: datR ps :: cb b4 82 (fdF (lkV s.now).1 (.slice g (lkV s.now).2.length cg) (.slice av ps.length cvv)) :: cb b2 45 (vdF (0, 0, 0)) :: R)) (hf.sub ⟨rfl, rfl, rfl, trivial⟩) ?_ ?_
      · refine wp_seq ?_
        refine wp_region_lit ?_
        refine s_v hf (x_fieldAddr fo82_0 (hf.eval rfl)) ?_; clear hf a; intro a hf
        refine s_v hf (x_fieldAddr fo45_0 (hf.eval rfl)) ?_; clear hf a; intro a hf
        refine s_r hf (x_load sc3 (hf.eval rfl) (by first | exact hs.cell .k0 rfl | exact hs.cell .k1 rfl | exact hs.cell .k2 rfl | exact hs.cell .k3 rfl | exact hs.cell .k4 rfl | exact hs.cell .k5 rfl | exact hs.cell .k6 rfl | exact hs.cell .k7 rfl | exact hs.cell .k8 rfl | exact hs.cell .k9 rfl)) ?_; clear hf a; intro a hf
        replace hf := hf.now (k := 40) (v' := .int .i64 (lkV s.now).1.1) rfl (rfl)
        refine s_v hf (x_bin (hf.eval rfl) (hf.eval rfl) (r_eq _ _ _ _)) ?_; clear hf a; intro a hf
        refine s_nil ?_
        refine then_n ?_
        refine c_cond hf rfl (fun hi3 => ?_) (fun hi3 => ?_)
        · first | simp only [decide_eq_true_eq, decide_eq_false_iff_not, Bool.not_eq_true', Bool.not_eq_false', ne_eq, Classical.not_not] at hi3 | skip
          refine wp_region_lit ?_
          refine s_m hf rfl ?_; clear hf a; intro a hf
          refine s_v hf (x_makeFunc (hf.evals rfl)) ?_; clear hf a; intro a hf
          refine s_m hf rfl ?_; clear hf a; intro a hf
          refine s_v hf (x_makeFunc (hf.evals rfl)) ?_; clear hf a; intro a hf
          refine s_do hf rfl (y_lit (xs := [.tmp 43, .tmp 45]) hs sl103 (hf.evals rfl) rfl (by simp [Value.cells]) (by decide) ?_); clear hf hs a; intro bb_ w hs a hf
          replace hs : St _ _ (cb bb_ 73 (([64, 63] : List Nat).map (fnV (.pointer (some ⟨p, 0, none⟩)))) :: _) := hs
          have hs9 := St.cut [_, _, _, _, _, _, _] [_, _] (hs.lose .k1)
          refine s_a hf rfl ?_; clear hf a; intro a hf
          refine s_nil ?_
          refine then_n ?_
          exact ⟨_, ⟨_, _, rfl, by first | exact (if_pos hi3).symm | exact (if_neg hi3).symm, hs9⟩, hf.sub ⟨rfl, rfl, rfl, rfl, trivial⟩⟩
        · first | simp only [decide_eq_true_eq, decide_eq_false_iff_not, Bool.not_eq_true', Bool.not_eq_false', ne_eq, Classical.not_not] at hi3 | skip
          have hs9 := St.cut [_, _, _, _, _, _, _] [_, _] hs
          refine wp_skip ?_
          refine then_n ?_
          exact ⟨_, ⟨_, _, rfl, by first | exact (if_pos hi3).symm | exact (if_neg hi3).symm, hs9⟩, hf.sub ⟨rfl, rfl, rfl, rfl, trivial⟩⟩
      · clear hf hs a
        rintro M a w ⟨bq, fs, rfl, hfs, hs⟩ hf
        refine wp_seq ?_
        refine wp_seq ?_
        refine wp_region_lit ?_
        refine s_m hf rfl ?_; clear hf a; intro a hf
        refine s_do hf rfl (y_call (hf.eval rfl) (hf.evals rfl) Tryd.call65 ((recAll w0 _ _ p D bq fs s av cvv ps (RdyS.own .k0) (fun h3 => ⟨(hl3 h3).2.1, (hl3 h3).2.2⟩) (datR_rdy .k1 hsh) (fun h3 => (hl3 h3).1) hs hi2 hfs ho k hb hk).mono ?_))
        rintro e w1 ⟨rfl, hs⟩
        refine ⟨_, rfl, ?_⟩; clear hf a; intro a hf
        refine s_a hf rfl ?_; clear hf a; intro a hf
        refine s_nil ?_
        refine then_n ?_
        refine wp_seq ?_
        refine wp_region_lit ?_
        refine s_m hf rfl ?_; clear hf a; intro a hf
        refine s_v hf (x_bin (hf.eval rfl) (hf.eval rfl) (r_ne _ _ _ _)) ?_; clear hf a; intro a hf
        refine s_nil ?_
        refine then_n ?_
        refine c_cond hf rfl (fun hi4 => ?_) (fun hi4 => ?_)
        · first | simp only [decide_eq_true_eq, decide_eq_false_iff_not, Bool.not_eq_true', Bool.not_eq_false', ne_eq, Classical.not_not] at hi4 | skip
          refine wp_seq ?_
          refine wp_region_lit ?_
          refine s_r hf (x_build (v := .agg (vdF (0, 0, 0)).toArray) (hf.parts rfl) (fun w => by kernel_rfl) _) ?_; clear hf a; intro a hf
          refine s_m hf rfl ?_; clear hf a; intro a hf
          replace hs := hs.take (A := cb b2 45 (vdF (0, 0, 0))) (by first | exact .k0 | exact .k1 | exact .k2 | exact .k3 | exact .k4 | exact .k5 | exact .k6 | exact .k7 | exact .k8 | exact .k9 | exact .k10 | exact .k11)
          refine s_do0 hf rfl (y_storeAgg (cs := vdF (0, 0, 0)) hs (n := 3) (by kernel_rfl) (hf.eval rfl) (hf.eval rfl) (by simp [Value.oneCell', vdF]) rfl rfl .k0 ?_); clear hf hs a; intro w hs a hf
          refine s_a hf rfl ?_; clear hf a; intro a hf
          refine s_nil ?_
          refine then_n ?_
          refine wp_ret ?_
          refine then_r ?_
          refine r_2c hf Tryd.results29 rfl rfl hs ag45 rfl (by first | exact .k0 | exact .k1 | exact .k2 | exact .k3 | exact .k4 | exact .k5 | exact .k6 | exact .k7 | exact .k8 | exact .k9 | exact .k10 | exact .k11) ?_
          rw [(rec_bad hi1 hi4).1, (rec_bad hi1 hi4).2]
          replace hs := hs.take (A := diskA 94 113 5 3 D (runS s (opsR s.now)).2) (by first | exact .k0 | exact .k1 | exact .k2 | exact .k3 | exact .k4 | exact .k5 | exact .k6 | exact .k7 | exact .k8 | exact .k9 | exact .k10 | exact .k11)
          exact ⟨rfl, St.mid [_, _, _, _, _, _] hs⟩
        · first | simp only [decide_eq_true_eq, decide_eq_false_iff_not, Bool.not_eq_true', Bool.not_eq_false', ne_eq, Classical.not_not] at hi4 | skip
          refine wp_skip ?_
          refine then_n ?_
          refine wp_seq ?_
          refine wp_region_lit ?_
          refine s_v hf (x_fieldAddr fo82_0 (hf.eval rfl)) ?_; clear hf a; intro a hf
          refine s_r hf (x_loadAgg ag45 (hf.eval rfl) (vs := vdF (lkV s.now).1) rfl (fun j v hv => cells_of (hs.take (A := cb b4 82 (fdF (lkV s.now).1 (.slice g (lkV s.now).2.length cg) (.slice av ps.length cvv))) (by first | exact .k0 | exact .k1 | exact .k2 | exact .k3 | exact .k4 | exact .k5 | exact .k6 | exact .k7 | exact .k8 | exact .k9 | exact .k10 | exact .k11)) .k0 j v (vd_fd hv))) ?_; clear hf a; intro a hf
          replace hs := hs.take (A := cb b2 45 (vdF (0, 0, 0))) (by first | exact .k0 | exact .k1 | exact .k2 | exact .k3 | exact .k4 | exact .k5 | exact .k6 | exact .k7 | exact .k8 | exact .k9 | exact .k10 | exact .k11)
          refine s_do0 hf rfl (y_storeAgg (cs := vdF (lkV s.now).1) hs (n := 3) (by kernel_rfl) (hf.eval rfl) (hf.eval rfl) (by simp [Value.oneCell', vdF]) rfl rfl .k0 ?_); clear hf hs a; intro w hs a hf
          refine s_a hf rfl ?_; clear hf a; intro a hf
          refine s_nil ?_
          refine then_n ?_
          refine wp_ret ?_
          refine r_2c hf Tryd.results29 rfl rfl hs ag45 rfl (by first | exact .k0 | exact .k1 | exact .k2 | exact .k3 | exact .k4 | exact .k5 | exact .k6 | exact .k7 | exact .k8 | exact .k9 | exact .k10 | exact .k11) ?_
          rw [(rec_ok hi1 hi4).1, (rec_ok hi1 hi4).2]
          replace hs := hs.take (A := diskA 94 113 5 3 D (runS s (opsR s.now)).2) (by first | exact .k0 | exact .k1 | exact .k2 | exact .k3 | exact .k4 | exact .k5 | exact .k6 | exact .k7 | exact .k8 | exact .k9 | exact .k10 | exact .k11)
          exact ⟨rfl, St.mid [_, _, _, _, _, _] hs⟩
end Go.Proofs.YtehakfbfjpolfaaDoor

namespace Go.Proofs.YtehakfbfjpolfaaDoor
open Go Vw
theorem carried_spec (σ : Sig) (w : World) (R : List Asrt) (p : Nat) (s : DS) (hs : St σ w (refA 97 139 5 3 p s :: R)) (hf1 : s.fuse ≤ 9223372036854775807) (hf0 : -1 ≤ s.fuse) (hcl : s.calls ≤ 4611686018427387904) : Calls Tryd.prog 88 #[.pointer (some ⟨p, 0, none⟩)] w fun e w' => e = .returned (.bool (decide (s.fuse ≠ 0))) ∧ St σ w' (refA 97 139 5 3 p (spent s) :: R) := by
  obtain ⟨⟨v1, v2, v3, v4, ps⟩, hps, hs⟩ := refA_open hs
  dsimp only at hps hs
  obtain ⟨a1, c1, rfl, hc1⟩ := slB_shape (hs.take .k1)
  obtain ⟨a2, c2, rfl, hc2⟩ := slB_shape (hs.take .k2)
  obtain ⟨a3, c3, rfl⟩ := sl_shape (hs.take .k3)
  obtain ⟨a4, c4, rfl⟩ := sl_shape (hs.take .k5)
  refine c_enter (N := 30) Tryd.func88 rfl Tryd.ntmps88 (by simp) ?_
  intro a hf
  refine wp_seq ?_
  refine wp_region_lit ?_
  refine s_a hf rfl ?_; clear hf a; intro a hf
  refine s_nil ?_
  refine then_n ?_
  refine wp_seq ?_
  refine wp_seq ?_
  refine wp_region_lit ?_
  refine s_m hf rfl ?_; clear hf a; intro a hf
  refine s_v hf (x_nilCheck (hf.eval rfl)) ?_; clear hf a; intro a hf
  refine s_v hf (x_fieldAddr fo97_6 (hf.eval rfl)) ?_; clear hf a; intro a hf
  refine s_r hf (x_load sc3 (hf.eval rfl) (by first | exact hs.cell .k0 rfl | exact hs.cell .k1 rfl | exact hs.cell .k2 rfl | exact hs.cell .k3 rfl | exact hs.cell .k4 rfl | exact hs.cell .k5 rfl)) ?_; clear hf a; intro a hf
  refine s_v hf (x_bin (hf.eval rfl) (hf.eval rfl) (r_eq _ _ _ _)) ?_; clear hf a; intro a hf
  refine s_nil ?_
  refine then_n ?_
  refine c_cond hf rfl (fun hi0 => ?_) (fun hi0 => ?_)
  · simp only [decide_eq_true_eq, decide_eq_false_iff_not, Bool.not_eq_true', Bool.not_eq_false', Bool.not_eq_true, Int.not_lt, Int.not_le] at hi0
    refine wp_seq ?_
    refine wp_region_lit ?_
    refine s_m hf rfl ?_; clear hf a; intro a hf
    refine s_v hf (x_nilCheck (hf.eval rfl)) ?_; clear hf a; intro a hf
    refine s_v hf (x_fieldAddr fo97_7 (hf.eval rfl)) ?_; clear hf a; intro a hf
    refine s_do0 hf rfl (y_store hs sc4 (hf.eval rfl) (hf.eval rfl) rfl (by first | exact .k0 | exact .k1 | exact .k2 | exact .k3 | exact .k4 | exact .k5) (by simp) ?_); clear hf hs a; intro w hs a hf
    refine s_nil ?_
    refine then_n ?_
    refine wp_seq ?_
    refine wp_region_lit ?_
    refine s_a hf rfl ?_; clear hf a; intro a hf
    refine s_nil ?_
    refine then_n ?_
    refine wp_ret ?_
    refine then_r ?_
    refine r_1 hf Tryd.results88 rfl ?_
    have hz : s.fuse = 0 := hi0
    refine ⟨by simp [hz], ?_⟩
    rw [spent_0 hz]
    exact refA_close (x := ⟨.slice a1 s.now.length c1, .slice a2 s.dur.length c2, .slice a3 ps.length c3, .slice a4 s.sizes.length c4, ps⟩) hps hs
  · simp only [decide_eq_true_eq, decide_eq_false_iff_not, Bool.not_eq_true', Bool.not_eq_false', Bool.not_eq_true, Int.not_lt, Int.not_le] at hi0
    refine wp_skip ?_
    refine then_n ?_
    refine wp_seq ?_
    refine wp_seq ?_
    refine wp_region_lit ?_
    refine s_m hf rfl ?_; clear hf a; intro a hf
    refine s_v hf (x_nilCheck (hf.eval rfl)) ?_; clear hf a; intro a hf
    refine s_v hf (x_fieldAddr fo97_6 (hf.eval rfl)) ?_; clear hf a; intro a hf
    refine s_r hf (x_load sc3 (hf.eval rfl) (by first | exact hs.cell .k0 rfl | exact hs.cell .k1 rfl | exact hs.cell .k2 rfl | exact hs.cell .k3 rfl | exact hs.cell .k4 rfl | exact hs.cell .k5 rfl)) ?_; clear hf a; intro a hf
    refine s_v hf (x_bin (hf.eval rfl) (hf.eval rfl) (r_gt _ _ _ _)) ?_; clear hf a; intro a hf
    refine s_nil ?_
    refine then_n ?_
    refine c_cond hf rfl (fun hi1 => ?_) (fun hi1 => ?_)
    · simp only [decide_eq_true_eq, decide_eq_false_iff_not, Bool.not_eq_true', Bool.not_eq_false', Bool.not_eq_true, Int.not_lt, Int.not_le] at hi1
      refine wp_region_lit ?_
      refine s_m hf rfl ?_; clear hf a; intro a hf
      refine s_v hf (x_nilCheck (hf.eval rfl)) ?_; clear hf a; intro a hf
      refine s_v hf (x_fieldAddr fo97_6 (hf.eval rfl)) ?_; clear hf a; intro a hf
      refine s_r hf (x_load sc3 (hf.eval rfl) (by first | exact hs.cell .k0 rfl | exact hs.cell .k1 rfl | exact hs.cell .k2 rfl | exact hs.cell .k3 rfl | exact hs.cell .k4 rfl | exact hs.cell .k5 rfl)) ?_; clear hf a; intro a hf
      refine s_v hf (x_bin (hf.eval rfl) (hf.eval rfl) (r_subi _ (by omega) (by omega))) ?_; clear hf a; intro a hf
      refine s_v hf (x_nilCheck (hf.eval rfl)) ?_; clear hf a; intro a hf
      refine s_v hf (x_fieldAddr fo97_6 (hf.eval rfl)) ?_; clear hf a; intro a hf
      refine s_do0 hf rfl (y_store hs sc3 (hf.eval rfl) (hf.eval rfl) rfl (by first | exact .k0 | exact .k1 | exact .k2 | exact .k3 | exact .k4 | exact .k5) (by simp) ?_); clear hf hs a; intro w hs a hf
      refine s_nil ?_
      refine then_n ?_
      refine wp_seq ?_
      refine wp_region_lit ?_
      refine s_m hf rfl ?_; clear hf a; intro a hf
      refine s_v hf (x_nilCheck (hf.eval rfl)) ?_; clear hf a; intro a hf
      refine s_v hf (x_fieldAddr fo97_5 (hf.eval rfl)) ?_; clear hf a; intro a hf
      refine s_r hf (x_load sc3 (hf.eval rfl) (by first | exact hs.cell .k0 rfl | exact hs.cell .k1 rfl | exact hs.cell .k2 rfl | exact hs.cell .k3 rfl | exact hs.cell .k4 rfl | exact hs.cell .k5 rfl)) ?_; clear hf a; intro a hf
      refine s_v hf (x_bin (hf.eval rfl) (hf.eval rfl) (r_addi _ (by omega) (by omega))) ?_; clear hf a; intro a hf
      replace hf := hf.now (k := 27) (v' := .int .i64 ((s.calls + 1 : Nat) : Int)) rfl (by push_cast; rfl)
      refine s_v hf (x_nilCheck (hf.eval rfl)) ?_; clear hf a; intro a hf
      refine s_v hf (x_fieldAddr fo97_5 (hf.eval rfl)) ?_; clear hf a; intro a hf
      refine s_do0 hf rfl (y_store hs sc3 (hf.eval rfl) (hf.eval rfl) rfl (by first | exact .k0 | exact .k1 | exact .k2 | exact .k3 | exact .k4 | exact .k5) (by simp) ?_); clear hf hs a; intro w hs a hf
      refine s_nil ?_
      refine then_n ?_
      refine wp_seq ?_
      refine wp_region_lit ?_
      refine s_a hf rfl ?_; clear hf a; intro a hf
      refine s_nil ?_
      refine then_n ?_
      refine wp_ret ?_
      refine r_1 hf Tryd.results88 rfl ?_
      refine ⟨by simp; omega, ?_⟩
      first | rw [spent_pos (show 0 < s.fuse by omega)] | rw [spent_neg (show s.fuse < 0 by omega)]
      exact refA_close (x := ⟨.slice a1 s.now.length c1, .slice a2 s.dur.length c2, .slice a3 ps.length c3, .slice a4 s.sizes.length c4, ps⟩) hps hs
    · simp only [decide_eq_true_eq, decide_eq_false_iff_not, Bool.not_eq_true', Bool.not_eq_false', Bool.not_eq_true, Int.not_lt, Int.not_le] at hi1
      refine wp_skip ?_
      refine then_n ?_
      refine wp_seq ?_
      refine wp_region_lit ?_
      refine s_m hf rfl ?_; clear hf a; intro a hf
      refine s_v hf (x_nilCheck (hf.eval rfl)) ?_; clear hf a; intro a hf
      refine s_v hf (x_fieldAddr fo97_5 (hf.eval rfl)) ?_; clear hf a; intro a hf
      refine s_r hf (x_load sc3 (hf.eval rfl) (by first | exact hs.cell .k0 rfl | exact hs.cell .k1 rfl | exact hs.cell .k2 rfl | exact hs.cell .k3 rfl | exact hs.cell .k4 rfl | exact hs.cell .k5 rfl)) ?_; clear hf a; intro a hf
      refine s_v hf (x_bin (hf.eval rfl) (hf.eval rfl) (r_addi _ (by omega) (by omega))) ?_; clear hf a; intro a hf
      replace hf := hf.now (k := 27) (v' := .int .i64 ((s.calls + 1 : Nat) : Int)) rfl (by push_cast; rfl)
      refine s_v hf (x_nilCheck (hf.eval rfl)) ?_; clear hf a; intro a hf
      refine s_v hf (x_fieldAddr fo97_5 (hf.eval rfl)) ?_; clear hf a; intro a hf
      refine s_do0 hf rfl (y_store hs sc3 (hf.eval rfl) (hf.eval rfl) rfl (by first | exact .k0 | exact .k1 | exact .k2 | exact .k3 | exact .k4 | exact .k5) (by simp) ?_); clear hf hs a; intro w hs a hf
      refine s_nil ?_
      refine then_n ?_
      refine wp_seq ?_
      refine wp_region_lit ?_
      refine s_a hf rfl ?_; clear hf a; intro a hf
      refine s_nil ?_
      refine then_n ?_
      refine wp_ret ?_
      refine r_1 hf Tryd.results88 rfl ?_
      refine ⟨by simp; omega, ?_⟩
      first | rw [spent_pos (show 0 < s.fuse by omega)] | rw [spent_neg (show s.fuse < 0 by omega)]
      exact refA_close (x := ⟨.slice a1 s.now.length c1, .slice a2 s.dur.length c2, .slice a3 ps.length c3, .slice a4 s.sizes.length c4, ps⟩) hps hs
theorem rFuse_spec (σ : Sig) (w : World) (R : List Asrt) (p : Nat) (s : DS) (hs : St σ w (refA 97 139 5 3 p s :: R)) (n : Int) : Calls Tryd.prog 28 #[.pointer (some ⟨p, 0, none⟩), .int .i64 n] w fun e w' => e = .returned (.tuple #[]) ∧ St σ w' (refA 97 139 5 3 p (fuS s n) :: R) := by
  obtain ⟨⟨v1, v2, v3, v4, ps⟩, hps, hs⟩ := refA_open hs
  dsimp only at hps hs
  obtain ⟨a1, c1, rfl, hc1⟩ := slB_shape (hs.take .k1)
  obtain ⟨a2, c2, rfl, hc2⟩ := slB_shape (hs.take .k2)
  obtain ⟨a3, c3, rfl⟩ := sl_shape (hs.take .k3)
  obtain ⟨a4, c4, rfl⟩ := sl_shape (hs.take .k5)
  refine c_enter (N := 22) Tryd.func28 rfl Tryd.ntmps28 (by simp) ?_
  intro a hf
  refine wp_seq ?_
  refine wp_seq ?_
  refine wp_region_lit ?_
  refine s_m hf rfl ?_; clear hf a; intro a hf
  refine s_v hf (x_eqNil Tryd.underlying52 (hf.eval rfl) (hf.eval rfl)) ?_; clear hf a; intro a hf
  replace hf := hf.now (k := 5) (v' := .bool false) rfl rfl
  refine s_m hf rfl ?_; clear hf a; intro a hf
  refine s_do hf (wanted_of hf rfl rfl rfl) (.value (x_move (hf.eval rfl) _) ?_); clear hf a; intro a hf
  refine s_do hf (wanted_of hf rfl rfl rfl) (.value (x_nilCheck (hf.eval rfl) _) ?_); clear hf a; intro a hf
  refine s_do hf (wanted_of hf rfl rfl rfl) (.value (x_fieldAddr fo97_7 (hf.eval rfl) _) ?_); clear hf a; intro a hf
  refine s_do hf (wanted_of hf rfl rfl rfl) (.value (x_load sc4 (hf.eval rfl) (by first | exact hs.cell .k0 rfl | exact hs.cell .k1 rfl | exact hs.cell .k2 rfl | exact hs.cell .k3 rfl | exact hs.cell .k4 rfl | exact hs.cell .k5 rfl)) ?_); clear hf a; intro a hf
  refine s_do hf (wanted_of hf rfl rfl rfl) (.value (x_not (hf.eval rfl) _) ?_); clear hf a; intro a hf
  refine s_v hf (x_pick_f (hf.eval rfl) (hf.eval rfl)) ?_; clear hf a; intro a hf
  refine s_nil ?_
  refine then_n ?_
  refine c_cond hf rfl (fun hi0 => ?_) (fun hi0 => ?_)
  · simp only [Bool.not_eq_true', Bool.not_eq_false', Bool.not_not] at hi0
    refine wp_ret ?_
    refine then_r ?_
    refine r_0 hf Tryd.results28 ?_
    have e : fuS s n = s := by unfold fuS; rw [if_pos hi0]
    rw [e]
    exact ⟨rfl, refA_close (x := ⟨_, _, _, _, ps⟩) hps hs⟩
  · simp only [Bool.not_eq_true', Bool.not_eq_false', Bool.not_not] at hi0
    refine wp_skip ?_
    refine then_n ?_
    refine wp_seq ?_
    refine wp_region_lit ?_
    refine s_m hf rfl ?_; clear hf a; intro a hf
    refine s_m hf rfl ?_; clear hf a; intro a hf
    refine s_v hf (x_nilCheck (hf.eval rfl)) ?_; clear hf a; intro a hf
    refine s_v hf (x_fieldAddr fo97_6 (hf.eval rfl)) ?_; clear hf a; intro a hf
    refine s_do0 hf rfl (y_store hs sc3 (hf.eval rfl) (hf.eval rfl) rfl (by first | exact .k0 | exact .k1 | exact .k2 | exact .k3 | exact .k4 | exact .k5) (by simp) ?_); clear hf hs a; intro w hs a hf
    refine s_nil ?_
    refine then_n ?_
    refine wp_seq ?_
    refine wp_region_lit ?_
    refine s_m hf rfl ?_; clear hf a; intro a hf
    refine s_v hf (x_bin (hf.eval rfl) (hf.eval rfl) (r_lt _ _ _ _)) ?_; clear hf a; intro a hf
    refine s_nil ?_
    refine then_n ?_
    refine c_cond hf rfl (fun hi1 => ?_) (fun hi1 => ?_)
    · simp only [decide_eq_true_eq, decide_eq_false_iff_not, Bool.not_eq_true', Bool.not_eq_false', Bool.not_eq_true, Int.not_lt, Int.not_le] at hi1
      refine wp_region_lit ?_
      refine s_m hf rfl ?_; clear hf a; intro a hf
      refine s_v hf (x_nilCheck (hf.eval rfl)) ?_; clear hf a; intro a hf
      refine s_v hf (x_fieldAddr fo97_6 (hf.eval rfl)) ?_; clear hf a; intro a hf
      refine s_do0 hf rfl (y_store hs sc3 (hf.eval rfl) (hf.eval rfl) rfl (by first | exact .k0 | exact .k1 | exact .k2 | exact .k3 | exact .k4 | exact .k5) (by simp) ?_); clear hf hs a; intro w hs a hf
      refine s_nil ?_
      refine r_0n hf Tryd.results28 ?_
      have e : fuS s n = { s with fuse := max n (-1) } := by unfold fuS; rw [if_neg (by simp [hi0])]
      rw [e]
      first | rw [show max n (-1) = -1 by omega] | rw [show max n (-1) = n by omega]
      exact ⟨rfl, refA_close (x := ⟨.slice a1 s.now.length c1, .slice a2 s.dur.length c2, .slice a3 ps.length c3, .slice a4 s.sizes.length c4, ps⟩) hps hs⟩
    · simp only [decide_eq_true_eq, decide_eq_false_iff_not, Bool.not_eq_true', Bool.not_eq_false', Bool.not_eq_true, Int.not_lt, Int.not_le] at hi1
      refine wp_skip ?_
      refine r_0n hf Tryd.results28 ?_
      have e : fuS s n = { s with fuse := max n (-1) } := by unfold fuS; rw [if_neg (by simp [hi0])]
      rw [e]
      first | rw [show max n (-1) = -1 by omega] | rw [show max n (-1) = n by omega]
      exact ⟨rfl, refA_close (x := ⟨.slice a1 s.now.length c1, .slice a2 s.dur.length c2, .slice a3 ps.length c3, .slice a4 s.sizes.length c4, ps⟩) hps hs⟩
theorem rCalls_spec (σ : Sig) (w : World) (R : List Asrt) (p : Nat) (s : DS) (hs : St σ w (refA 97 139 5 3 p s :: R)) : Calls Tryd.prog 71 #[.pointer (some ⟨p, 0, none⟩)] w fun e w' => e = .returned (.int .i64 (s.calls : Int)) ∧ w' = w := by
  obtain ⟨⟨v1, v2, v3, v4, ps⟩, hps, hs⟩ := refA_open hs
  dsimp only at hps hs
  obtain ⟨a1, c1, rfl, hc1⟩ := slB_shape (hs.take .k1)
  obtain ⟨a2, c2, rfl, hc2⟩ := slB_shape (hs.take .k2)
  obtain ⟨a3, c3, rfl⟩ := sl_shape (hs.take .k3)
  obtain ⟨a4, c4, rfl⟩ := sl_shape (hs.take .k5)
  refine c_enter (N := 9) Tryd.func71 rfl Tryd.ntmps71 (by simp) ?_
  intro a hf
  refine wp_seq ?_
  refine wp_region_lit ?_
  refine s_a hf rfl ?_; clear hf a; intro a hf
  refine s_nil ?_
  refine then_n ?_
  refine wp_seq ?_
  refine wp_seq ?_
  refine wp_region_lit ?_
  refine s_m hf rfl ?_; clear hf a; intro a hf
  refine s_v hf (x_eqNil Tryd.underlying52 (hf.eval rfl) (hf.eval rfl)) ?_; clear hf a; intro a hf
  replace hf := hf.now (k := 4) (v' := .bool false) rfl rfl
  refine s_nil ?_
  refine then_n ?_
  refine c_cond_f hf rfl rfl ?_
  refine wp_skip ?_
  refine then_n ?_
  refine wp_seq ?_
  refine wp_region_lit ?_
  refine s_m hf rfl ?_; clear hf a; intro a hf
  refine s_v hf (x_nilCheck (hf.eval rfl)) ?_; clear hf a; intro a hf
  refine s_v hf (x_fieldAddr fo97_5 (hf.eval rfl)) ?_; clear hf a; intro a hf
  refine s_r hf (x_load sc3 (hf.eval rfl) (by first | exact hs.cell .k0 rfl | exact hs.cell .k1 rfl | exact hs.cell .k2 rfl | exact hs.cell .k3 rfl | exact hs.cell .k4 rfl | exact hs.cell .k5 rfl)) ?_; clear hf a; intro a hf
  refine s_a hf rfl ?_; clear hf a; intro a hf
  refine s_nil ?_
  refine then_n ?_
  refine wp_ret ?_
  refine r_1 hf Tryd.results71 rfl ?_
  exact ⟨rfl, rfl⟩
theorem rAlive_spec (σ : Sig) (w : World) (R : List Asrt) (p : Nat) (s : DS) (hs : St σ w (refA 97 139 5 3 p s :: R)) : Calls Tryd.prog 66 #[.pointer (some ⟨p, 0, none⟩)] w fun e w' => e = .returned (.bool (!s.dead)) ∧ w' = w := by
  obtain ⟨⟨v1, v2, v3, v4, ps⟩, hps, hs⟩ := refA_open hs
  dsimp only at hps hs
  obtain ⟨a1, c1, rfl, hc1⟩ := slB_shape (hs.take .k1)
  obtain ⟨a2, c2, rfl, hc2⟩ := slB_shape (hs.take .k2)
  obtain ⟨a3, c3, rfl⟩ := sl_shape (hs.take .k3)
  obtain ⟨a4, c4, rfl⟩ := sl_shape (hs.take .k5)
  refine c_enter (N := 11) Tryd.func66 rfl Tryd.ntmps66 (by simp) ?_
  intro a hf
  refine wp_seq ?_
  refine wp_region_lit ?_
  refine s_a hf rfl ?_; clear hf a; intro a hf
  refine s_nil ?_
  refine then_n ?_
  refine wp_seq ?_
  refine wp_region_lit ?_
  refine s_m hf rfl ?_; clear hf a; intro a hf
  refine s_v hf (x_neNil Tryd.underlying52 (hf.eval rfl) (hf.eval rfl)) ?_; clear hf a; intro a hf
  replace hf := hf.now (k := 4) (v' := .bool true) rfl rfl
  refine s_m hf rfl ?_; clear hf a; intro a hf
  refine s_do hf (wanted_of hf rfl rfl rfl) (.value (x_move (hf.eval rfl) _) ?_); clear hf a; intro a hf
  refine s_do hf (wanted_of hf rfl rfl rfl) (.value (x_nilCheck (hf.eval rfl) _) ?_); clear hf a; intro a hf
  refine s_do hf (wanted_of hf rfl rfl rfl) (.value (x_fieldAddr fo97_7 (hf.eval rfl) _) ?_); clear hf a; intro a hf
  refine s_do hf (wanted_of hf rfl rfl rfl) (.value (x_load sc4 (hf.eval rfl) (by first | exact hs.cell .k0 rfl | exact hs.cell .k1 rfl | exact hs.cell .k2 rfl | exact hs.cell .k3 rfl | exact hs.cell .k4 rfl | exact hs.cell .k5 rfl)) ?_); clear hf a; intro a hf
  refine s_v hf (x_pick_t (hf.eval rfl) (hf.eval rfl)) ?_; clear hf a; intro a hf
  refine s_a hf rfl ?_; clear hf a; intro a hf
  refine s_nil ?_
  refine then_n ?_
  refine wp_ret ?_
  refine r_1 hf Tryd.results66 rfl ?_
  exact ⟨rfl, rfl⟩
theorem rImage_spec (σ : Sig) (w : World) (R : List Asrt) (p : Nat) (s : DS) (hs : St σ w (refA 97 139 5 3 p s :: R)) (hn : s.now.length ≤ 140737488351232) : Calls Tryd.prog 67 #[.pointer (some ⟨p, 0, none⟩)] w fun e w' => ∃ a c, e = .returned (.slice a s.now.length c) ∧ St σ w' (slB 5 (.slice a s.now.length c) s.now :: refA 97 139 5 3 p s :: R) := by
  obtain ⟨⟨v1, v2, v3, v4, ps⟩, hps, hs⟩ := refA_open hs
  dsimp only at hps hs
  obtain ⟨a1, c1, rfl, hc1⟩ := slB_shape (hs.take .k1)
  obtain ⟨a2, c2, rfl, hc2⟩ := slB_shape (hs.take .k2)
  obtain ⟨a3, c3, rfl⟩ := sl_shape (hs.take .k3)
  obtain ⟨a4, c4, rfl⟩ := sl_shape (hs.take .k5)
  refine c_enter (N := 10) Tryd.func67 rfl Tryd.ntmps67 (by simp) ?_
  intro a hf
  refine wp_seq ?_
  refine wp_region_lit ?_
  refine s_a hf rfl ?_; clear hf a; intro a hf
  refine s_nil ?_
  refine then_n ?_
  refine wp_seq ?_
  refine wp_seq ?_
  refine wp_region_lit ?_
  refine s_m hf rfl ?_; clear hf a; intro a hf
  refine s_v hf (x_eqNil Tryd.underlying52 (hf.eval rfl) (hf.eval rfl)) ?_; clear hf a; intro a hf
  replace hf := hf.now (k := 4) (v' := .bool false) rfl rfl
  refine s_nil ?_
  refine then_n ?_
  refine c_cond_f hf rfl rfl ?_
  refine wp_skip ?_
  refine then_n ?_
  refine wp_seq ?_
  refine wp_region_lit ?_
  refine s_m hf rfl ?_; clear hf a; intro a hf
  refine s_v hf (x_nilCheck (hf.eval rfl)) ?_; clear hf a; intro a hf
  refine s_v hf (x_fieldAddr fo97_1 (hf.eval rfl)) ?_; clear hf a; intro a hf
  refine s_r hf (x_load sc25 (hf.eval rfl) (by first | exact hs.cell .k0 rfl | exact hs.cell .k1 rfl | exact hs.cell .k2 rfl | exact hs.cell .k3 rfl | exact hs.cell .k4 rfl | exact hs.cell .k5 rfl)) ?_; clear hf a; intro a hf
  refine s_do hf rfl (y_call (hf.eval rfl) (hf.evals rfl) Tryd.call61 ((rclone_spec _ _ _ s.now (hs.rdB .k1 fun h => slB_rd) (by omega)).mono ?_))
  rintro e w1 ⟨e1, fe1, rfl, hj⟩
  replace hs := hs.join hj
  simp only [List.cons_append, List.nil_append] at hs
  refine ⟨_, rfl, ?_⟩; clear hf a; intro a hf
  refine s_a hf rfl ?_; clear hf a; intro a hf
  refine s_nil ?_
  refine then_n ?_
  refine wp_ret ?_
  refine r_1 hf Tryd.results67 rfl ?_
  refine ⟨_, _, rfl, ?_⟩
  exact (refA_close (s := s) (x := ⟨_, _, _, _, ps⟩) (R := slB 5 _ s.now :: R) hps (St.give (L := _) hs .k6)).take .k1
theorem rNew_in (w0 : World) (a1 : Option Addr) (c1 : Nat) (image : List UInt8) (hr1 : RdB (hp w0) (.slice a1 image.length c1) image) (hl1 : image.length ≤ 140737488351232) (cap : Int) (hc1 : 0 ≤ cap) (hc2 : cap ≤ 16777216) (hc3 : image.length ≤ cap) : Calls Tryd.prog 26 #[.slice a1 image.length c1, .int .i64 cap] w0 fun e w' => ∃ p, e = .returned (.tuple #[.pointer (some ⟨p, 0, none⟩), .int .i64 0]) ∧ St ⟨w0, None_⟩ w' [refA 97 139 5 3 p (newS image cap)] := by
  refine (rNew_ok w0 a1 c1 image hr1 hl1 cap hc1 hc2 hc3).mono fun e w' h => ?_
  obtain ⟨q, u1, u2, rfl, hs⟩ := h
  refine ⟨q, rfl, ?_⟩
  replace hs := St.give (L := _) (hs.emp (A := sl 139 3 (.slice none 0 0) 0 []) (fun _ => ⟨rfl, .inl ⟨rfl, rfl⟩⟩)) .k3
  replace hs := St.give (L := _) (hs.emp (A := datA 5 []) (fun _ => trivial)) .k4
  replace hs := St.give (L := _) (hs.emp (A := sl 3 1 (.slice none 0 0) 0 []) (fun _ => ⟨rfl, .inl ⟨rfl, rfl⟩⟩)) .k5
  exact refA_close (s := newS image cap) (x := ⟨u1, u2, .slice none 0 0, .slice none 0 0, []⟩) rfl hs
theorem rlay_spec (σ : Sig) (w : World) (R : List Asrt) (p : Nat) (s : DS) (hs : St σ w (refA 97 139 5 3 p s :: R)) (at_ : Nat) (ad : Option Addr) (cd : Nat) (data : List UInt8) (hr : Rdy σ R (.slice ad data.length cd) data) (hd : data ≠ []) (hat : at_ ≤ s.now.length) (hsz : at_ + data.length ≤ 16777216) (hnow : s.now.length ≤ 16777216) (hpc : s.pcs.length ≤ 1099511627776) : Calls Tryd.prog 89 #[.pointer (some ⟨p, 0, none⟩), .int .i64 (at_ : Int), .slice ad data.length cd] w fun e w' => e = .returned (.tuple #[]) ∧ St σ w' (refA 97 139 5 3 p (layS s at_ data) :: R) := by
  have hdl : 0 < data.length := List.length_pos_iff.2 hd
  have hcd : data.length ≤ cd := (hr _ [_] hs).cap
  refine c_enter (N := 85) Tryd.func89 rfl Tryd.ntmps89 (by simp) ?_
  intro a hf
  refine wp_seq ?_
  refine wp_seq ?_
  refine wp_region_lit ?_
  refine s_a hf rfl ?_; clear hf a; intro a hf
  refine s_nil ?_
  refine then_n ?_
  refine wp_block ?_
  refine c_loop (L0 := [(0, _), (1, _), (2, _)]) (fun M w m => ∃ (k : Nat) (P : List Pc), M = [(6, .int .i64 (k : Int))] ∧ data.length - k = m ∧ k ≤ data.length ∧ P ++ cut (at_ + k) (data.drop k) = s.pcs ++ cut at_ data ∧ St σ w (refA 97 139 5 3 p { s with pcs := P } :: R)) (M0 := [(6, .int .i64 0)]) (⟨0, s.pcs, rfl, rfl, Nat.zero_le _, rfl, hs⟩) (hf.sub ⟨rfl, rfl, rfl, rfl, trivial⟩) ?_
  clear hf hs a
  rintro M m a w ⟨k, P, rfl, rfl, hk, hP, hs⟩ hf
  refine wp_seq ?_
  refine wp_seq ?_
  refine wp_region_lit ?_
  refine s_m hf rfl ?_; clear hf a; intro a hf
  refine s_m hf rfl ?_; clear hf a; intro a hf
  refine s_v hf (x_len Tryd.underlying25 (hf.eval rfl)) ?_; clear hf a; intro a hf
  refine s_v hf (x_bin (hf.eval rfl) (hf.eval rfl) (r_lt _ _ _ _)) ?_; clear hf a; intro a hf
  refine s_nil ?_
  refine then_n ?_
  refine c_cond hf rfl (fun hi0 => ?_) (fun hi0 => ?_)
  · simp only [decide_eq_true_eq, decide_eq_false_iff_not, Bool.not_eq_true', Bool.not_eq_false', Bool.not_eq_true, Int.not_lt, Int.not_le] at hi0
    have hlt : k < data.length := by omega
    obtain ⟨q, hq⟩ : ∃ q, q = secN (at_ + k) (data.length - k) := ⟨_, rfl⟩
    have hq0 : 0 < q := by rw [hq]; exact secN_pos (by omega)
    have hq1 : q ≤ data.length - k := by rw [hq]; exact secN_le _ _
    have hdk : (data.drop k).length = data.length - k := List.length_drop ..
    have hcq : ((data.drop k).take q).length = q := by rw [List.length_take]; omega
    have hP9 : P.length ≤ 1099511700000 := by have h9 := congrArg List.length hP; simp only [List.length_append] at h9; have := cut_len data.length at_ data (Nat.le_refl _); omega
    have hP2 : P ++ [(at_ + k, (data.drop k).take q)] ++ cut (at_ + (k + q)) (data.drop (k + q)) = s.pcs ++ cut at_ data := by rw [← hP, cut_cons (l := data.drop k) (by intro h9; rw [h9] at hdk; simp at hdk; omega), hdk, ← hq, List.drop_drop, Nat.add_assoc, List.append_assoc]; rfl
    obtain ⟨⟨v1, v2, v3, v4, ps⟩, hps, hs⟩ := refA_open hs
    dsimp only at hps hs
    obtain ⟨a1, c1, rfl, hc1⟩ := slB_shape (hs.take .k1)
    obtain ⟨a2, c2, rfl, hc2⟩ := slB_shape (hs.take .k2)
    obtain ⟨a3, c3, rfl⟩ := sl_shape (hs.take .k3)
    obtain ⟨a4, c4, rfl⟩ := sl_shape (hs.take .k5)
    have hpl : ps.length = P.length := by have h9 := congrArg List.length hps; rw [List.length_map] at h9; exact h9
    refine wp_skip ?_
    refine then_n ?_
    refine wp_block ?_
    refine wp_seq ?_
    refine wp_region_lit ?_
    refine s_m hf rfl ?_; clear hf a; intro a hf
    refine s_m hf rfl ?_; clear hf a; intro a hf
    refine s_v hf (x_bin (hf.eval rfl) (hf.eval rfl) (r_addi _ (by omega) (by omega))) ?_; clear hf a; intro a hf
    refine s_v hf (x_bin (hf.eval rfl) (hf.eval rfl) (r_quon _ (by omega) (by omega) (by omega))) ?_; clear hf a; intro a hf
    replace hf := hf.now (k := 16) (v' := .int .i64 (((at_ + k) / 512 : Nat) : Int)) rfl (rfl)
    refine s_a hf rfl ?_; clear hf a; intro a hf
    refine s_nil ?_
    refine then_n ?_
    refine wp_seq ?_
    refine wp_region_lit ?_
    refine s_m hf rfl ?_; clear hf a; intro a hf
    refine s_v hf (x_bin (hf.eval rfl) (hf.eval rfl) (r_addi _ (by omega) (by omega))) ?_; clear hf a; intro a hf
    refine s_v hf (x_bin (hf.eval rfl) (hf.eval rfl) (r_muli _ (by omega) (by omega))) ?_; clear hf a; intro a hf
    refine s_m hf rfl ?_; clear hf a; intro a hf
    refine s_m hf rfl ?_; clear hf a; intro a hf
    refine s_v hf (x_bin (hf.eval rfl) (hf.eval rfl) (r_addi _ (by omega) (by omega))) ?_; clear hf a; intro a hf
    refine s_v hf (x_bin (hf.eval rfl) (hf.eval rfl) (r_subi _ (by omega) (by omega))) ?_; clear hf a; intro a hf
    refine s_a hf rfl ?_; clear hf a; intro a hf
    refine s_nil ?_
    refine then_n ?_
    refine wp_seq ?_
    refine wp_seq ?_
    refine wp_region_lit ?_
    refine s_m hf rfl ?_; clear hf a; intro a hf
    refine s_m hf rfl ?_; clear hf a; intro a hf
    refine s_v hf (x_len Tryd.underlying25 (hf.eval rfl)) ?_; clear hf a; intro a hf
    refine s_m hf rfl ?_; clear hf a; intro a hf
    refine s_v hf (x_bin (hf.eval rfl) (hf.eval rfl) (r_subi _ (by omega) (by omega))) ?_; clear hf a; intro a hf
    refine s_v hf (x_bin (hf.eval rfl) (hf.eval rfl) (r_gt _ _ _ _)) ?_; clear hf a; intro a hf
    refine s_nil ?_
    refine then_n ?_
    refine c_cond hf rfl (fun hi1 => ?_) (fun hi1 => ?_)
    · simp only [decide_eq_true_eq, decide_eq_false_iff_not, Bool.not_eq_true', Bool.not_eq_false', Bool.not_eq_true, Int.not_lt, Int.not_le] at hi1
      refine wp_region_lit ?_
      refine s_m hf rfl ?_; clear hf a; intro a hf
      refine s_v hf (x_len Tryd.underlying25 (hf.eval rfl)) ?_; clear hf a; intro a hf
      refine s_m hf rfl ?_; clear hf a; intro a hf
      refine s_v hf (x_bin (hf.eval rfl) (hf.eval rfl) (r_subi _ (by omega) (by omega))) ?_; clear hf a; intro a hf
      refine s_a hf rfl ?_; clear hf a; intro a hf
      replace hf := hf.now (k := 8) (v' := .int .i64 (q : Int)) rfl (by rw [hq]; unfold secN; congr 1; omega)
      refine s_nil ?_
      refine then_n ?_
      refine wp_seq ?_
      refine c_draw hs (fun w' => w'.cell? ⟨p, 3, none⟩ = some (.slice a3 ps.length c3) ∧ RdB (hp w') (.slice ad data.length cd) data) [.held, .held, .held, .held, .held, .held, .held, .held, .held, .held, .held, .held, .held, .held, .held, .eff, .held, .eff, .eff, .held, .held, .fin] (by kernel_rfl) (by kernel_rfl) (fun w' _ hs => ⟨hs.cell (k := 3) .k0 rfl, hr _ [_, _, _, _, _, _] hs⟩) ?_
      clear hs; intro w hs hC hw
      refine m_held hf rfl (fun w' _ => x_move (hf.eval rfl) w') ?_; clear hf a; intro a hf
      refine m_held hf rfl (fun w' _ => x_move (hf.eval rfl) w') ?_; clear hf a; intro a hf
      refine m_held hf rfl (fun w' _ => x_nilCheck (hf.eval rfl) w') ?_; clear hf a; intro a hf
      refine m_held hf rfl (fun w' _ => x_fieldAddr fo97_3 (hf.eval rfl) w') ?_; clear hf a; intro a hf
      refine m_held hf rfl (fun w' hc => x_load sc95 (hf.eval rfl) hc.1) ?_; clear hf a; intro a hf
      refine m_held hf rfl (fun w' _ => x_move (hf.eval rfl) w') ?_; clear hf a; intro a hf
      refine m_held hf rfl (fun w' _ => x_move (hf.eval rfl) w') ?_; clear hf a; intro a hf
      refine m_held hf rfl (fun w' _ => x_move (hf.eval rfl) w') ?_; clear hf a; intro a hf
      refine m_held hf rfl (fun w' _ => x_bin (hf.eval rfl) (hf.eval rfl) (r_addi _ (by omega) (by omega)) w') ?_; clear hf a; intro a hf
      replace hf := hf.now (k := 42) (v' := .int .i64 ((at_ + k : Nat) : Int)) rfl (by congr 1)
      refine m_held hf rfl (fun w' _ => x_move (hf.eval rfl) w') ?_; clear hf a; intro a hf
      refine m_held hf rfl (fun w' _ => x_move (hf.eval rfl) w') ?_; clear hf a; intro a hf
      refine m_held hf rfl (fun w' _ => x_move (hf.eval rfl) w') ?_; clear hf a; intro a hf
      refine m_held hf rfl (fun w' _ => x_move (hf.eval rfl) w') ?_; clear hf a; intro a hf
      refine m_held hf rfl (fun w' _ => x_bin (hf.eval rfl) (hf.eval rfl) (r_addi _ (by omega) (by omega)) w') ?_; clear hf a; intro a hf
      refine m_held hf rfl (fun w' _ => x_slice sl25 (hf.eval rfl) (hf.eval rfl) (hf.eval rfl)  (by omega) (by omega) (by omega)  w') ?_; clear hf a; intro a hf
      replace hf := hf.now (k := 48) (v' := .slice (subA ad cd k 1) ((data.drop k).take q).length (cd - k)) rfl (by rw [hcq]; congr 1; omega)
      refine m_eff hf rfl (y_call (hf.eval rfl) (hf.evals rfl) Tryd.call61 ((rclone_spec _ _ _ ((data.drop k).take q) (by have := RdB.sub (i := k) (j := k + q) hC.2 rfl (by omega) (by omega); rw [show k + q - k = q by omega] at this; rw [hcq]; exact this) (by omega)).mono ?_))
      rintro e w1 ⟨e1, fe1, rfl, hj⟩
      replace hs := hs.join hj
      simp only [List.cons_append, List.nil_append] at hs
      refine ⟨_, rfl, ⟨⟨hs.cell (k := 3) .k1 rfl, hr _ [_, _, _, _, _, _, _] hs⟩, ?_⟩⟩; clear hf a; intro a hf
      refine m_held hf rfl (fun w' hc => x_build (v := .agg #[.int .i64 (((at_ + k) / 512 : Nat) : Int), .int .i64 ((at_ + k : Nat) : Int), .slice e1 ((data.drop k).take q).length fe1]) (hf.parts rfl) (fun w => by kernel_rfl) _) ?_; clear hf a; intro a hf
      refine m_eff hf rfl (y_lit (xs := [.tmp 50]) hs sl95 (hf.evals rfl) rfl (by simp [Value.cells]) (by decide) ?_); clear hf hs a; intro b2 w hs; refine ⟨⟨hs.cell (k := 3) .k2 rfl, hr _ [_, _, _, _, _, _, _, _] hs⟩, ?_⟩; intro a hf
      refine m_eff hf rfl (y_append (n := ps.length) (m := 1) (ys := [.int .i64 (((at_ + k) / 512 : Nat) : Int), .int .i64 ((at_ + k : Nat) : Int), .slice e1 ((data.drop k).take q).length fe1]) hs sl95 (hf.eval rfl) (hf.eval rfl) .k5 (hs.rd .k0 fun h hb => rd_rows hb rfl) (by simp [Value.oneCell']) (by omega) (by rw [maxLen_eq]; omega) ?_); clear hf hs a; intro v2 w hs hv; refine ⟨⟨hs.cell (k := 3) .k3 rfl, hr _ [_, _, _, _, _, _, _, _] hs⟩, ?_⟩; intro a hf
      obtain ⟨a8, c8, rfl⟩ := sl_shape hs
      obtain ⟨ps2, hps2⟩ : ∃ ps2, ps2 = ps ++ [((at_ + k, .slice e1 ((data.drop k).take q).length fe1, (data.drop k).take q) : Pt)] := ⟨_, rfl⟩
      have hl2 : ps.length + 1 = ps2.length := by rw [hps2]; simp
      have hx2 : ps.flatMap rpF ++ [.int .i64 (((at_ + k) / 512 : Nat) : Int), .int .i64 ((at_ + k : Nat) : Int), .slice e1 ((data.drop k).take q).length fe1] = ps2.flatMap rpF := by rw [hps2]; simp [rpF]
      rw [hl2, hx2] at hs
      replace hf := hf.now (k := 52) (v' := .slice a8 ps2.length c8) rfl (by rw [← hl2])
      refine m_held hf rfl (fun w' _ => x_nilCheck (hf.eval rfl) w') ?_; clear hf a; intro a hf
      refine m_held hf rfl (fun w' _ => x_fieldAddr fo97_3 (hf.eval rfl) w') ?_; clear hf a; intro a hf
      refine m_fin0 hf rfl (y_store hs sc95 (hf.eval rfl) (hf.eval rfl) rfl (by first | exact .k0 | exact .k1 | exact .k2 | exact .k3 | exact .k4 | exact .k5) (by simp) ?_); clear hf hs a; intro w hs; intro a hf
      replace hs := (((hs.lose .k1).take .k1).take .k5)
      replace hs := datA_push (p := ((at_ + k, .slice e1 ((data.drop k).take q).length fe1, (data.drop k).take q) : Pt)) hs
      rw [← hps2] at hs
      replace hs := St.give (L := _) (St.give (L := _) hs .k4) .k3
      replace hs := refA_close (s := { s with pcs := P ++ [(at_ + k, (data.drop k).take q)] }) (x := ⟨.slice a1 s.now.length c1, .slice a2 s.dur.length c2, .slice a8 ps2.length c8, .slice a4 s.sizes.length c4, ps2⟩) (by rw [hps2, List.map_append, hps]; rfl) hs
      refine then_n ?_
      refine wp_region_lit ?_
      refine s_m hf rfl ?_; clear hf a; intro a hf
      refine s_m hf rfl ?_; clear hf a; intro a hf
      refine s_v hf (x_bin (hf.eval rfl) (hf.eval rfl) (r_addi _ (by omega) (by omega))) ?_; clear hf a; intro a hf
      replace hf := hf.now (k := 57) (v' := .int .i64 ((k + q : Nat) : Int)) rfl (by push_cast; rfl)
      refine s_a hf rfl ?_; clear hf a; intro a hf
      refine s_nil ?_
      refine blk_n ?_
      exact ⟨_, _, ⟨k + q, P ++ [(at_ + k, (data.drop k).take q)], rfl, rfl, by omega, hP2, hs⟩, by omega, hf.sub ⟨rfl, rfl, rfl, rfl, trivial⟩⟩
    · simp only [decide_eq_true_eq, decide_eq_false_iff_not, Bool.not_eq_true', Bool.not_eq_false', Bool.not_eq_true, Int.not_lt, Int.not_le] at hi1
      replace hf := hf.now (k := 8) (v' := .int .i64 (q : Int)) rfl (by rw [hq]; unfold secN; congr 1; omega)
      refine wp_skip ?_
      refine then_n ?_
      refine wp_seq ?_
      refine c_draw hs (fun w' => w'.cell? ⟨p, 3, none⟩ = some (.slice a3 ps.length c3) ∧ RdB (hp w') (.slice ad data.length cd) data) [.held, .held, .held, .held, .held, .held, .held, .held, .held, .held, .held, .held, .held, .held, .held, .eff, .held, .eff, .eff, .held, .held, .fin] (by kernel_rfl) (by kernel_rfl) (fun w' _ hs => ⟨hs.cell (k := 3) .k0 rfl, hr _ [_, _, _, _, _, _] hs⟩) ?_
      clear hs; intro w hs hC hw
      refine m_held hf rfl (fun w' _ => x_move (hf.eval rfl) w') ?_; clear hf a; intro a hf
      refine m_held hf rfl (fun w' _ => x_move (hf.eval rfl) w') ?_; clear hf a; intro a hf
      refine m_held hf rfl (fun w' _ => x_nilCheck (hf.eval rfl) w') ?_; clear hf a; intro a hf
      refine m_held hf rfl (fun w' _ => x_fieldAddr fo97_3 (hf.eval rfl) w') ?_; clear hf a; intro a hf
      refine m_held hf rfl (fun w' hc => x_load sc95 (hf.eval rfl) hc.1) ?_; clear hf a; intro a hf
      refine m_held hf rfl (fun w' _ => x_move (hf.eval rfl) w') ?_; clear hf a; intro a hf
      refine m_held hf rfl (fun w' _ => x_move (hf.eval rfl) w') ?_; clear hf a; intro a hf
      refine m_held hf rfl (fun w' _ => x_move (hf.eval rfl) w') ?_; clear hf a; intro a hf
      refine m_held hf rfl (fun w' _ => x_bin (hf.eval rfl) (hf.eval rfl) (r_addi _ (by omega) (by omega)) w') ?_; clear hf a; intro a hf
      replace hf := hf.now (k := 42) (v' := .int .i64 ((at_ + k : Nat) : Int)) rfl (by congr 1)
      refine m_held hf rfl (fun w' _ => x_move (hf.eval rfl) w') ?_; clear hf a; intro a hf
      refine m_held hf rfl (fun w' _ => x_move (hf.eval rfl) w') ?_; clear hf a; intro a hf
      refine m_held hf rfl (fun w' _ => x_move (hf.eval rfl) w') ?_; clear hf a; intro a hf
      refine m_held hf rfl (fun w' _ => x_move (hf.eval rfl) w') ?_; clear hf a; intro a hf
      refine m_held hf rfl (fun w' _ => x_bin (hf.eval rfl) (hf.eval rfl) (r_addi _ (by omega) (by omega)) w') ?_; clear hf a; intro a hf
      refine m_held hf rfl (fun w' _ => x_slice sl25 (hf.eval rfl) (hf.eval rfl) (hf.eval rfl)  (by omega) (by omega) (by omega)  w') ?_; clear hf a; intro a hf
      replace hf := hf.now (k := 48) (v' := .slice (subA ad cd k 1) ((data.drop k).take q).length (cd - k)) rfl (by rw [hcq]; congr 1; omega)
      refine m_eff hf rfl (y_call (hf.eval rfl) (hf.evals rfl) Tryd.call61 ((rclone_spec _ _ _ ((data.drop k).take q) (by have := RdB.sub (i := k) (j := k + q) hC.2 rfl (by omega) (by omega); rw [show k + q - k = q by omega] at this; rw [hcq]; exact this) (by omega)).mono ?_))
      rintro e w1 ⟨e1, fe1, rfl, hj⟩
      replace hs := hs.join hj
      simp only [List.cons_append, List.nil_append] at hs
      refine ⟨_, rfl, ⟨⟨hs.cell (k := 3) .k1 rfl, hr _ [_, _, _, _, _, _, _] hs⟩, ?_⟩⟩; clear hf a; intro a hf
      refine m_held hf rfl (fun w' hc => x_build (v := .agg #[.int .i64 (((at_ + k) / 512 : Nat) : Int), .int .i64 ((at_ + k : Nat) : Int), .slice e1 ((data.drop k).take q).length fe1]) (hf.parts rfl) (fun w => by kernel_rfl) _) ?_; clear hf a; intro a hf
      refine m_eff hf rfl (y_lit (xs := [.tmp 50]) hs sl95 (hf.evals rfl) rfl (by simp [Value.cells]) (by decide) ?_); clear hf hs a; intro b2 w hs; refine ⟨⟨hs.cell (k := 3) .k2 rfl, hr _ [_, _, _, _, _, _, _, _] hs⟩, ?_⟩; intro a hf
      refine m_eff hf rfl (y_append (n := ps.length) (m := 1) (ys := [.int .i64 (((at_ + k) / 512 : Nat) : Int), .int .i64 ((at_ + k : Nat) : Int), .slice e1 ((data.drop k).take q).length fe1]) hs sl95 (hf.eval rfl) (hf.eval rfl) .k5 (hs.rd .k0 fun h hb => rd_rows hb rfl) (by simp [Value.oneCell']) (by omega) (by rw [maxLen_eq]; omega) ?_); clear hf hs a; intro v2 w hs hv; refine ⟨⟨hs.cell (k := 3) .k3 rfl, hr _ [_, _, _, _, _, _, _, _] hs⟩, ?_⟩; intro a hf
      obtain ⟨a8, c8, rfl⟩ := sl_shape hs
      obtain ⟨ps2, hps2⟩ : ∃ ps2, ps2 = ps ++ [((at_ + k, .slice e1 ((data.drop k).take q).length fe1, (data.drop k).take q) : Pt)] := ⟨_, rfl⟩
      have hl2 : ps.length + 1 = ps2.length := by rw [hps2]; simp
      have hx2 : ps.flatMap rpF ++ [.int .i64 (((at_ + k) / 512 : Nat) : Int), .int .i64 ((at_ + k : Nat) : Int), .slice e1 ((data.drop k).take q).length fe1] = ps2.flatMap rpF := by rw [hps2]; simp [rpF]
      rw [hl2, hx2] at hs
      replace hf := hf.now (k := 52) (v' := .slice a8 ps2.length c8) rfl (by rw [← hl2])
      refine m_held hf rfl (fun w' _ => x_nilCheck (hf.eval rfl) w') ?_; clear hf a; intro a hf
      refine m_held hf rfl (fun w' _ => x_fieldAddr fo97_3 (hf.eval rfl) w') ?_; clear hf a; intro a hf
      refine m_fin0 hf rfl (y_store hs sc95 (hf.eval rfl) (hf.eval rfl) rfl (by first | exact .k0 | exact .k1 | exact .k2 | exact .k3 | exact .k4 | exact .k5) (by simp) ?_); clear hf hs a; intro w hs; intro a hf
      replace hs := (((hs.lose .k1).take .k1).take .k5)
      replace hs := datA_push (p := ((at_ + k, .slice e1 ((data.drop k).take q).length fe1, (data.drop k).take q) : Pt)) hs
      rw [← hps2] at hs
      replace hs := St.give (L := _) (St.give (L := _) hs .k4) .k3
      replace hs := refA_close (s := { s with pcs := P ++ [(at_ + k, (data.drop k).take q)] }) (x := ⟨.slice a1 s.now.length c1, .slice a2 s.dur.length c2, .slice a8 ps2.length c8, .slice a4 s.sizes.length c4, ps2⟩) (by rw [hps2, List.map_append, hps]; rfl) hs
      refine then_n ?_
      refine wp_region_lit ?_
      refine s_m hf rfl ?_; clear hf a; intro a hf
      refine s_m hf rfl ?_; clear hf a; intro a hf
      refine s_v hf (x_bin (hf.eval rfl) (hf.eval rfl) (r_addi _ (by omega) (by omega))) ?_; clear hf a; intro a hf
      replace hf := hf.now (k := 57) (v' := .int .i64 ((k + q : Nat) : Int)) rfl (by push_cast; rfl)
      refine s_a hf rfl ?_; clear hf a; intro a hf
      refine s_nil ?_
      refine blk_n ?_
      exact ⟨_, _, ⟨k + q, P ++ [(at_ + k, (data.drop k).take q)], rfl, rfl, by omega, hP2, hs⟩, by omega, hf.sub ⟨rfl, rfl, rfl, rfl, trivial⟩⟩
  · simp only [decide_eq_true_eq, decide_eq_false_iff_not, Bool.not_eq_true', Bool.not_eq_false', Bool.not_eq_true, Int.not_lt, Int.not_le] at hi0
    have hk9 : k = data.length := by omega
    subst hk9
    rw [List.drop_length, cut_nil, List.append_nil] at hP
    subst hP
    refine wp_exit ?_
    refine then_x ?_
    refine then_x ?_
    refine blk_x ?_
    refine then_n ?_
    refine wp_seq ?_
    refine wp_block ?_
    refine c_loop (L0 := [(0, _), (1, _), (2, _), (6, _), (9, _), (10, _), (11, _), (12, _)]) (fun M w m => ∃ (j : Nat), M = [] ∧ (at_ + data.length - (s.now.length + j)) = m ∧ s.now.length + j ≤ max s.now.length (at_ + data.length) ∧ St σ w (refA 97 139 5 3 p { s with now := s.now ++ List.replicate j 0, pcs := s.pcs ++ cut at_ data } :: R)) (M0 := _) (⟨0, rfl, rfl, by omega, by rw [List.replicate_zero, List.append_nil]; exact hs⟩) (hf.sub ⟨rfl, rfl, rfl, rfl, rfl, rfl, rfl, rfl, trivial⟩) ?_
    clear hf hs a
    rintro M m a w ⟨j, rfl, rfl, hj, hs⟩ hf
    obtain ⟨⟨v1, v2, v3, v4, ps⟩, hps, hs⟩ := refA_open hs
    dsimp only at hps hs
    obtain ⟨a1, c1, rfl, hc1⟩ := slB_shape (hs.take .k1)
    obtain ⟨a2, c2, rfl, hc2⟩ := slB_shape (hs.take .k2)
    obtain ⟨a3, c3, rfl⟩ := sl_shape (hs.take .k3)
    obtain ⟨a4, c4, rfl⟩ := sl_shape (hs.take .k5)
    have hNl : (s.now ++ List.replicate j (0 : UInt8)).length = s.now.length + j := by simp
    refine wp_seq ?_
    refine wp_seq ?_
    refine wp_region_lit ?_
    refine s_m hf rfl ?_; clear hf a; intro a hf
    refine s_v hf (x_nilCheck (hf.eval rfl)) ?_; clear hf a; intro a hf
    refine s_v hf (x_fieldAddr fo97_1 (hf.eval rfl)) ?_; clear hf a; intro a hf
    refine s_r hf (x_load sc25 (hf.eval rfl) (by first | exact hs.cell .k0 rfl | exact hs.cell .k1 rfl | exact hs.cell .k2 rfl | exact hs.cell .k3 rfl | exact hs.cell .k4 rfl | exact hs.cell .k5 rfl)) ?_; clear hf a; intro a hf
    refine s_v hf (x_len Tryd.underlying25 (hf.eval rfl)) ?_; clear hf a; intro a hf
    refine s_m hf rfl ?_; clear hf a; intro a hf
    refine s_m hf rfl ?_; clear hf a; intro a hf
    refine s_v hf (x_len Tryd.underlying25 (hf.eval rfl)) ?_; clear hf a; intro a hf
    refine s_v hf (x_bin (hf.eval rfl) (hf.eval rfl) (r_addi _ (by omega) (by omega))) ?_; clear hf a; intro a hf
    refine s_v hf (x_bin (hf.eval rfl) (hf.eval rfl) (r_lt _ _ _ _)) ?_; clear hf a; intro a hf
    refine s_nil ?_
    refine then_n ?_
    refine c_cond hf rfl (fun hi2 => ?_) (fun hi2 => ?_)
    · simp only [decide_eq_true_eq, decide_eq_false_iff_not, Bool.not_eq_true', Bool.not_eq_false', Bool.not_eq_true, Int.not_lt, Int.not_le] at hi2
      refine wp_skip ?_
      refine then_n ?_
      refine wp_block ?_
      refine wp_region_lit ?_
      refine s_m hf rfl ?_; clear hf a; intro a hf
      refine s_m hf rfl ?_; clear hf a; intro a hf
      refine s_v hf (x_nilCheck (hf.eval rfl)) ?_; clear hf a; intro a hf
      refine s_v hf (x_fieldAddr fo97_1 (hf.eval rfl)) ?_; clear hf a; intro a hf
      refine s_r hf (x_load sc25 (hf.eval rfl) (by first | exact hs.cell .k0 rfl | exact hs.cell .k1 rfl | exact hs.cell .k2 rfl | exact hs.cell .k3 rfl | exact hs.cell .k4 rfl | exact hs.cell .k5 rfl)) ?_; clear hf a; intro a hf
      refine s_do hf rfl (y_lit (xs := [.const (.int .u8 0)]) hs sl25 (hf.evals rfl) rfl (by simp [Value.cells]) (by decide) ?_); clear hf hs a; intro b2 w hs a hf
      refine s_do hf rfl (y_appendB (s := [0]) hs sl25 rfl (hf.eval rfl) (hf.eval rfl) .k2 (hs.rdB .k0 fun h hb => rdB_of_bb (T := 5) (l := [0]) hb (by simp) (by simp)) (by simp; omega) ?_); clear hf hs a; intro v2 w hs hv a hf
      rw [List.append_assoc, ← List.replicate_succ'] at hs
      obtain ⟨a9, c9, rfl, hc9⟩ := slB_shape hs
      refine s_v hf (x_nilCheck (hf.eval rfl)) ?_; clear hf a; intro a hf
      refine s_v hf (x_fieldAddr fo97_1 (hf.eval rfl)) ?_; clear hf a; intro a hf
      refine s_do0 hf rfl (y_store hs sc25 (hf.eval rfl) (hf.eval rfl) rfl (by first | exact .k0 | exact .k1 | exact .k2 | exact .k3 | exact .k4 | exact .k5) (by simp) ?_); clear hf hs a; intro w hs a hf
      replace hs := (hs.lose .k1).take .k1
      replace hs := refA_close (s := { s with now := s.now ++ List.replicate (j + 1) 0, pcs := s.pcs ++ cut at_ data }) (x := ⟨.slice a9 (s.now ++ List.replicate (j + 1) 0).length c9, .slice a2 s.dur.length c2, .slice a3 ps.length c3, .slice a4 s.sizes.length c4, ps⟩) hps hs
      refine s_nil ?_
      refine blk_n ?_
      exact ⟨_, _, ⟨j + 1, rfl, rfl, by omega, hs⟩, by omega, hf.sub ⟨rfl, rfl, rfl, rfl, rfl, rfl, rfl, rfl, trivial⟩⟩
    · simp only [decide_eq_true_eq, decide_eq_false_iff_not, Bool.not_eq_true', Bool.not_eq_false', Bool.not_eq_true, Int.not_lt, Int.not_le] at hi2
      obtain ⟨E, hE⟩ : ∃ E, E = ext s.now (at_ + data.length) := ⟨_, rfl⟩
      have hEl : E.length = max s.now.length (at_ + data.length) := by rw [hE, ext_length]
      have hE2 : s.now ++ List.replicate j (0 : UInt8) = E := by rw [hE, show j = at_ + data.length - s.now.length by omega]; rfl
      rw [hE2] at hs hc1
      obtain ⟨b1, cc, hb1, _⟩ := slB_block (hs.take .k1) (by omega)
      injection hb1 with hb1 _ hb1c
      subst hb1
      subst hb1c
      refine wp_exit ?_
      refine then_x ?_
      refine then_x ?_
      refine blk_x ?_
      refine then_n ?_
      refine wp_region_lit ?_
      refine s_m hf rfl ?_; clear hf a; intro a hf
      refine s_v hf (x_nilCheck (hf.eval rfl)) ?_; clear hf a; intro a hf
      refine s_v hf (x_fieldAddr fo97_1 (hf.eval rfl)) ?_; clear hf a; intro a hf
      refine s_r hf (x_load sc25 (hf.eval rfl) (by first | exact hs.cell .k0 rfl | exact hs.cell .k1 rfl | exact hs.cell .k2 rfl | exact hs.cell .k3 rfl | exact hs.cell .k4 rfl | exact hs.cell .k5 rfl)) ?_; clear hf a; intro a hf
      refine s_m hf rfl ?_; clear hf a; intro a hf
      refine s_v hf (x_slice_lo sl25 (hf.eval rfl) (hf.eval rfl)  (by omega) (by omega) ) ?_; clear hf a; intro a hf
      replace hf := hf.now (k := 82) (v' := .slice (subA (some ⟨b1, 0, none⟩) c1 at_ 1) (E.length - at_) (c1 - at_)) rfl (by first | rfl | (rw [← hE2]; rfl))
      refine s_m hf rfl ?_; clear hf a; intro a hf
      refine s_do hf rfl (y_copyAt (T := 5) (n := E.length) (o := at_) (s := data) hs sl25 (hf.eval rfl) rfl (hf.eval rfl) .k1 (hr _ [_, _, _, _, _, _] hs) (by omega) rfl ?_); clear hf hs a; intro w hs a hf
      rw [show min data.length (E.length - at_) = data.length by omega, List.take_length] at hs
      have hXl : (spl E at_ data).length = E.length := spl_length _ _ _ (by omega)
      rw [← hXl] at hs
      replace hs := refA_close (s := { s with now := spl E at_ data, pcs := s.pcs ++ cut at_ data }) (x := ⟨.slice (some ⟨b1, 0, none⟩) (spl E at_ data).length c1, .slice a2 s.dur.length c2, .slice a3 ps.length c3, .slice a4 s.sizes.length c4, ps⟩) hps (hs.take .k1)
      rw [hE] at hs
      refine s_nil ?_
      refine r_0n hf Tryd.results89 ?_
      exact ⟨rfl, hs⟩
end Go.Proofs.YtehakfbfjpolfaaDoor
