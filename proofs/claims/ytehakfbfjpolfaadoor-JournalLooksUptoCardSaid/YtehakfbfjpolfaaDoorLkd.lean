/- Where the parts of a journal are. -/
import Derived.Test.YtehakfbfjpolfaaDoorVY
import Derived.Test.YtehakfbfjpolfaaDoorLkc
import Derived.Test.YtehakfbfjpolfaaDoorProg
import Derived.Test.YtehakfbfjpolfaaDoorFacts
set_option maxRecDepth 100000
set_option linter.all false
namespace Go.Proofs.YtehakfbfjpolfaaDoor
open Go Vw
theorem up_spec (w : World) (n : Int) (h0 : 0 ≤ n) (h1 : n ≤ 1125899906842624) : Calls Tryd.prog 114 #[.int .i64 n] w fun e w' => e = .returned (.int .i64 (upZ n)) ∧ w' = w := by
  refine c_enter (N := 8) Tryd.func114 rfl Tryd.ntmps114 (by simp) ?_
  intro a hf
  refine wp_seq ?_
  refine wp_region_lit ?_
  refine s_a hf rfl ?_; clear hf a; intro a hf
  refine s_nil ?_
  refine then_n ?_
  refine wp_seq ?_
  refine wp_region_lit ?_
  refine s_m hf rfl ?_; clear hf a; intro a hf
  refine s_v hf (x_bin (hf.eval rfl) (hf.eval rfl) (r_addi _ (by omega) (by omega))) ?_; clear hf a; intro a hf
  refine s_v hf (x_bin (hf.eval rfl) (hf.eval rfl) (r_subi _ (by omega) (by omega))) ?_; clear hf a; intro a hf
  refine s_v hf (x_bin (hf.eval rfl) (hf.eval rfl) (r_quon _ (by omega) (by omega) (by omega))) ?_; clear hf a; intro a hf
  refine s_v hf (x_bin (hf.eval rfl) (hf.eval rfl) (r_muli _ (by omega) (by omega))) ?_; clear hf a; intro a hf
  refine s_a hf rfl ?_; clear hf a; intro a hf
  refine s_nil ?_
  refine then_n ?_
  refine wp_ret ?_
  refine r_1 hf Tryd.results114 rfl ?_
  exact ⟨rfl, rfl⟩

theorem sized_spec (w : World) (n : Int) : Calls Tryd.prog 99 #[.int .i64 n] w fun e w' => e = .returned (.bool (decide (0 ≤ n ∧ n ≤ 16777216))) ∧ w' = w := by
  refine c_enter (N := 9) Tryd.func99 rfl Tryd.ntmps99 (by simp) ?_
  intro a hf
  refine wp_seq ?_
  refine wp_region_lit ?_
  refine s_a hf rfl ?_; clear hf a; intro a hf
  refine s_nil ?_
  refine then_n ?_
  refine wp_seq ?_
  refine wp_region_lit ?_
  refine s_m hf rfl ?_; clear hf a; intro a hf
  refine s_v hf (x_bin (hf.eval rfl) (hf.eval rfl) (r_ge _ _ _ _)) ?_; clear hf a; intro a hf
  refine s_m hf rfl ?_; clear hf a; intro a hf
  refine s_bool hf (k := 5) rfl (fun hg1_2 hf' => ?_) (fun hg1_2 hf' => ?_)
  · clear hf
    have hf := hf'
    clear hf'
    simp only [decide_eq_true_eq, decide_eq_false_iff_not, Bool.not_eq_true', Bool.not_eq_false', Bool.not_eq_true, Int.not_lt, Int.not_le] at hg1_2
    refine s_do hf (wanted_of hf rfl rfl rfl) (.value (x_move (hf.eval rfl) _) ?_); clear hf a; intro a hf
    refine s_do hf (wanted_of hf rfl rfl rfl) (.value (x_bin (hf.eval rfl) (hf.eval rfl) (r_le _ _ _ _) _) ?_); clear hf a; intro a hf
    refine s_v hf (x_pick_t (hf.eval rfl) (hf.eval rfl)) ?_; clear hf a; intro a hf
    refine s_a hf rfl ?_; clear hf a; intro a hf
    refine s_nil ?_
    refine then_n ?_
    refine wp_ret ?_
    refine r_1 hf Tryd.results99 rfl ?_
    exact ⟨by congr 2; simp; omega, rfl⟩
  · clear hf
    have hf := hf'
    clear hf'
    simp only [decide_eq_true_eq, decide_eq_false_iff_not, Bool.not_eq_true', Bool.not_eq_false', Bool.not_eq_true, Int.not_lt, Int.not_le] at hg1_2
    refine s_pass hf rfl rfl ?_; clear hf a; intro a hf
    refine s_pass hf rfl rfl ?_; clear hf a; intro a hf
    refine s_v hf (x_pick_f (hf.eval rfl) (hf.eval rfl)) ?_; clear hf a; intro a hf
    refine s_a hf rfl ?_; clear hf a; intro a hf
    refine s_nil ?_
    refine then_n ?_
    refine wp_ret ?_
    refine r_1 hf Tryd.results99 rfl ?_
    exact ⟨by congr 2; simp; omega, rfl⟩

theorem placedF_spec (w0 : World) (old size length : Int) (ho : 0 ≤ old) (ho2 : old ≤ 16777216) (hz : 0 ≤ size) (hz2 : size ≤ 16777216) (hl : 0 ≤ length) (hl2 : length ≤ 1125899906842624) : Calls Tryd.prog 100 #[.int .i64 old, .int .i64 size, .int .i64 length] w0 fun e w' => e = .returned (.agg #[.int .i64 (upZ (max old size)), .int .i64 (filZ old size length / 512 * 512 - 512), .int .i64 (filZ old size length)]) ∧ Kept w0 w' None_ := by
  have hs := St.start w0 None_
  refine c_enter (N := 40) Tryd.func100 rfl Tryd.ntmps100 (by simp) ?_
  intro a hf
  refine wp_seq ?_
  refine wp_region_lit ?_
  refine s_do hf rfl (y_alloc hs Tryd.zeroValue100 ?_); clear hf hs a; intro b6 w hs a hf
  change St _ _ (cb b6 100 [.int .i64 (0), .int .i64 (0), .int .i64 (0)] :: _) at hs
  refine s_nil ?_
  refine then_n ?_
  refine wp_seq ?_
  refine wp_region_lit ?_
  refine s_m hf rfl ?_; clear hf a; intro a hf
  refine s_m hf rfl ?_; clear hf a; intro a hf
  refine s_v hf (x_maxI (hf.eval rfl) (hf.eval rfl)) ?_; clear hf a; intro a hf
  refine s_do hf rfl (y_call (hf.eval rfl) (hf.evals rfl) Tryd.call114 ((up_spec _ _ (by omega) (by omega)).mono ?_))
  rintro e w1 ⟨rfl, rfl⟩
  refine ⟨_, rfl, ?_⟩; clear hf a; intro a hf
  have hu1 : old ≤ upZ (max old size) ∧ upZ (max old size) ≤ 16777727 := by unfold upZ; omega
  have hu2 : 0 ≤ upZ length ∧ upZ length ≤ 1125899906843136 := by unfold upZ; omega
  refine s_r hf (x_build (v := .agg #[.int .i64 (upZ (max old size)), .int .i64 0, .int .i64 0]) (hf.parts rfl) (fun w => by kernel_rfl) _) ?_; clear hf a; intro a hf
  refine s_do hf rfl (y_alloc hs Tryd.zeroValue100 ?_); clear hf hs a; intro b7 w hs a hf
  change St _ _ (cb b7 100 [.int .i64 (0), .int .i64 (0), .int .i64 (0)] :: _) at hs
  refine s_do0 hf rfl (y_storeAgg (cs := [.int .i64 (upZ (max old size)), .int .i64 0, .int .i64 0]) hs (n := 3) (by kernel_rfl) (hf.eval rfl) (hf.eval rfl) (by simp [Value.oneCell']) rfl rfl (.here _) ?_); clear hf hs a; intro w hs a hf
  refine s_nil ?_
  refine then_n ?_
  refine wp_seq ?_
  refine c_draw hs (fun w' => w'.cell? ⟨b7, 0, none⟩ = some (.int .i64 (upZ (max old size)))) [.held, .held, .held, .eff, .held, .held, .held] (by kernel_rfl) (by kernel_rfl) (fun w' _ hs => hs.cell (.here _) rfl) ?_
  clear hs; intro w hs hC hw
  refine m_held hf rfl (fun w' _ => x_fieldAddr fo100_0 (hf.eval rfl) w') ?_; clear hf a; intro a hf
  refine m_held hf rfl (fun w' hc => x_load sc3 (hf.eval rfl) hc) ?_; clear hf a; intro a hf
  refine m_held hf rfl (fun w' _ => x_move (hf.eval rfl) w') ?_; clear hf a; intro a hf
  refine m_eff hf rfl (y_call (hf.eval rfl) (hf.evals rfl) Tryd.call114 ((up_spec _ _ hl hl2).mono ?_))
  rintro e w1 ⟨rfl, rfl⟩
  refine ⟨_, rfl, ⟨hs.cell (.here _) rfl, ?_⟩⟩; clear hf a; intro a hf
  refine m_held hf rfl (fun w' _ => x_bin (hf.eval rfl) (hf.eval rfl) (r_addi _ (by omega) (by omega)) w') ?_; clear hf a; intro a hf
  refine m_held hf rfl (fun w' _ => x_bin (hf.eval rfl) (hf.eval rfl) (r_addi _ (by omega) (by omega)) w') ?_; clear hf a; intro a hf
  refine m_held hf rfl (fun w' _ => x_assign (hf.eval rfl) w') ?_; clear hf a; intro a hf
  refine m_nil ?_
  refine then_n ?_
  refine wp_seq ?_
  refine wp_region_lit ?_
  refine s_m hf rfl ?_; clear hf a; intro a hf
  refine s_m hf rfl ?_; clear hf a; intro a hf
  refine s_v hf (x_bin (hf.eval rfl) (hf.eval rfl) (r_subi _ (by omega) (by omega))) ?_; clear hf a; intro a hf
  refine s_v hf (x_bin (hf.eval rfl) (hf.eval rfl) (r_addi _ (by omega) (by omega))) ?_; clear hf a; intro a hf
  refine s_v hf (x_bin (hf.eval rfl) (hf.eval rfl) (r_subi _ (by omega) (by omega))) ?_; clear hf a; intro a hf
  refine s_v hf (x_bin (hf.eval rfl) (hf.eval rfl) (r_quon _ (by omega) (by omega) (by omega))) ?_; clear hf a; intro a hf
  refine s_v hf (x_maxI (hf.eval rfl) (hf.eval rfl)) ?_; clear hf a; intro a hf
  refine s_a hf rfl ?_; clear hf a; intro a hf
  refine s_nil ?_
  refine then_n ?_
  refine wp_seq ?_
  refine wp_region_lit ?_
  refine s_m hf rfl ?_; clear hf a; intro a hf
  refine s_m hf rfl ?_; clear hf a; intro a hf
  refine s_v hf (x_bin (hf.eval rfl) (hf.eval rfl) (r_muli _ (by omega) (by omega))) ?_; clear hf a; intro a hf
  refine s_v hf (x_bin (hf.eval rfl) (hf.eval rfl) (r_addi _ (by omega) (by omega))) ?_; clear hf a; intro a hf
  refine s_v hf (x_fieldAddr fo100_2 (hf.eval rfl)) ?_; clear hf a; intro a hf
  refine s_do0 hf rfl (y_store hs sc3 (hf.eval rfl) (hf.eval rfl) rfl (by first | exact .here _ | exact .there _ (.here _) | exact .there _ (.there _ (.here _)) | exact .there _ (.there _ (.there _ (.here _))) | exact .there _ (.there _ (.there _ (.there _ (.here _)))) | exact .there _ (.there _ (.there _ (.there _ (.there _ (.here _)))))) (by simp) ?_); clear hf hs a; intro w hs a hf
  refine s_nil ?_
  refine then_n ?_
  refine wp_seq ?_
  refine wp_region_lit ?_
  refine s_v hf (x_fieldAddr fo100_2 (hf.eval rfl)) ?_; clear hf a; intro a hf
  refine s_r hf (x_load sc3 (hf.eval rfl) (by first | exact hs.cell (.here _) rfl | exact hs.cell (.there _ (.here _)) rfl | exact hs.cell (.there _ (.there _ (.here _))) rfl | exact hs.cell (.there _ (.there _ (.there _ (.here _)))) rfl | exact hs.cell (.there _ (.there _ (.there _ (.there _ (.here _))))) rfl | exact hs.cell (.there _ (.there _ (.there _ (.there _ (.there _ (.here _)))))) rfl)) ?_; clear hf a; intro a hf
  refine s_v hf (x_bin (hf.eval rfl) (hf.eval rfl) (r_quon _ (by omega) (by omega) (by omega))) ?_; clear hf a; intro a hf
  refine s_v hf (x_bin (hf.eval rfl) (hf.eval rfl) (r_muli _ (by omega) (by omega))) ?_; clear hf a; intro a hf
  refine s_v hf (x_bin (hf.eval rfl) (hf.eval rfl) (r_subi _ (by omega) (by omega))) ?_; clear hf a; intro a hf
  refine s_v hf (x_fieldAddr fo100_1 (hf.eval rfl)) ?_; clear hf a; intro a hf
  refine s_do0 hf rfl (y_store hs sc3 (hf.eval rfl) (hf.eval rfl) rfl (by first | exact .here _ | exact .there _ (.here _) | exact .there _ (.there _ (.here _)) | exact .there _ (.there _ (.there _ (.here _))) | exact .there _ (.there _ (.there _ (.there _ (.here _)))) | exact .there _ (.there _ (.there _ (.there _ (.there _ (.here _)))))) (by simp) ?_); clear hf hs a; intro w hs a hf
  refine s_nil ?_
  refine then_n ?_
  refine wp_seq ?_
  refine wp_region_lit ?_
  refine s_r hf (x_loadBlk hs ag100 (hf.eval rfl) rfl (.here _)) ?_; clear hf a; intro a hf
  refine s_do0 hf rfl (y_storeAgg hs (n := 3) (by kernel_rfl) (hf.eval rfl) (hf.eval rfl) (by simp [Value.oneCell']) rfl rfl (.there _ (.here _)) ?_); clear hf hs a; intro w hs a hf
  refine s_nil ?_
  refine then_n ?_
  refine wp_ret ?_
  refine r_1c hf Tryd.results100 rfl hs ag100 rfl (.there _ (.here _)) ?_
  exact ⟨rfl, hs.kept⟩

theorem rup_spec (w0 : World) (n : Int) (h0 : 0 ≤ n) (h1 : n ≤ 1125899906842624) : Calls Tryd.prog 84 #[.int .i64 n] w0 fun e w' => e = .returned (.int .i64 (upZ n)) ∧ Kept w0 w' None_ := by
  have hs := St.start w0 None_
  have hu : upZ n = (n + 512 - 1) / 512 * 512 := rfl
  refine c_enter (N := 9) Tryd.func84 rfl Tryd.ntmps84 (by simp) ?_
  intro a hf
  refine wp_seq ?_
  refine wp_region_lit ?_
  refine s_a hf rfl ?_; clear hf a; intro a hf
  refine s_nil ?_
  refine then_n ?_
  refine wp_seq ?_
  refine wp_block ?_
  refine c_loop (L0 := [(2, _)]) (fun M w m => ∃ x : Int, M = [(0, .int .i64 x)] ∧ (upZ n - x).toNat = m ∧ n ≤ x ∧ x ≤ upZ n ∧ St ⟨w0, None_⟩ w []) (M0 := [(0, .int .i64 n)]) (⟨n, rfl, rfl, by omega, by omega, hs⟩) (hf.sub ⟨rfl, rfl, trivial⟩) ?_
  clear hf hs a
  rintro M m a w ⟨x, rfl, rfl, hx0, hx1, hs⟩ hf
  refine wp_seq ?_
  refine wp_seq ?_
  refine wp_region_lit ?_
  refine s_m hf rfl ?_; clear hf a; intro a hf
  refine s_v hf (x_bin (hf.eval rfl) (hf.eval rfl) (r_remn _ _ (by omega) (by omega))) ?_; clear hf a; intro a hf
  refine s_v hf (x_bin (hf.eval rfl) (hf.eval rfl) (r_ne _ _ _ _)) ?_; clear hf a; intro a hf
  refine s_nil ?_
  refine then_n ?_
  refine c_cond hf rfl (fun hi0 => ?_) (fun hi0 => ?_)
  · simp at hi0
    refine wp_skip ?_
    refine then_n ?_
    refine wp_block ?_
    refine wp_region_lit ?_
    refine s_m hf rfl ?_; clear hf a; intro a hf
    refine s_v hf (x_bin (hf.eval rfl) (hf.eval rfl) (r_addi _ (by omega) (by omega))) ?_; clear hf a; intro a hf
    refine s_a hf rfl ?_; clear hf a; intro a hf
    refine s_nil ?_
    refine blk_n ?_
    exact ⟨_, _, ⟨x + 1, rfl, rfl, by omega, by omega, hs⟩, by omega, hf.sub ⟨rfl, rfl, trivial⟩⟩
  · simp at hi0
    refine wp_exit ?_
    refine then_x ?_
    refine then_x ?_
    refine blk_x ?_
    refine then_n ?_
    refine wp_seq ?_
    refine wp_region_lit ?_
    refine s_m hf rfl ?_; clear hf a; intro a hf
    refine s_a hf rfl ?_; clear hf a; intro a hf
    refine s_nil ?_
    refine then_n ?_
    refine wp_ret ?_
    refine r_1 hf Tryd.results84 rfl ?_
    exact ⟨by rw [show x = upZ n by omega], hs.kept⟩

theorem seal_spec (w : World) (n : Int) (h0 : 0 ≤ n) (h1 : n ≤ 2251799813685248) : Calls Tryd.prog 82 #[.int .i64 n] w fun e w' => e = .returned (.int .i64 (n / 512 * 512 - 512)) ∧ w' = w := by
  refine c_enter (N := 7) Tryd.func82 rfl Tryd.ntmps82 (by simp) ?_
  intro a hf
  refine wp_seq ?_
  refine wp_region_lit ?_
  refine s_a hf rfl ?_; clear hf a; intro a hf
  refine s_nil ?_
  refine then_n ?_
  refine wp_seq ?_
  refine wp_region_lit ?_
  refine s_m hf rfl ?_; clear hf a; intro a hf
  refine s_v hf (x_bin (hf.eval rfl) (hf.eval rfl) (r_quon _ (by omega) (by omega) (by omega))) ?_; clear hf a; intro a hf
  refine s_v hf (x_bin (hf.eval rfl) (hf.eval rfl) (r_muli _ (by omega) (by omega))) ?_; clear hf a; intro a hf
  refine s_v hf (x_bin (hf.eval rfl) (hf.eval rfl) (r_subi _ (by omega) (by omega))) ?_; clear hf a; intro a hf
  refine s_a hf rfl ?_; clear hf a; intro a hf
  refine s_nil ?_
  refine then_n ?_
  refine wp_ret ?_
  refine r_1 hf Tryd.results82 rfl ?_
  exact ⟨rfl, rfl⟩

theorem body_spec (w0 : World) (old size : Int) (ho : 0 ≤ old) (ho2 : old ≤ 16777216) (hz : 0 ≤ size) (hz2 : size ≤ 16777216) : Calls Tryd.prog 58 #[.int .i64 old, .int .i64 size] w0 fun e w' => e = .returned (.int .i64 (upZ (max old size))) ∧ Kept w0 w' None_ := by
  have hs := St.start w0 None_
  refine c_enter (N := 9) Tryd.func58 rfl Tryd.ntmps58 (by simp) ?_
  intro a hf
  refine wp_seq ?_
  refine wp_region_lit ?_
  refine s_a hf rfl ?_; clear hf a; intro a hf
  refine s_nil ?_
  refine then_n ?_
  refine wp_seq ?_
  refine wp_region_lit ?_
  refine s_m hf rfl ?_; clear hf a; intro a hf
  refine s_m hf rfl ?_; clear hf a; intro a hf
  refine s_v hf (x_maxI (hf.eval rfl) (hf.eval rfl)) ?_; clear hf a; intro a hf
  refine s_do hf rfl (y_call (hf.eval rfl) (hf.evals rfl) Tryd.call84 ((rup_spec _ _ (by omega) (by omega)).mono ?_))
  rintro e w1 ⟨rfl, hk⟩
  replace hs := hs.ext hk
  refine ⟨_, rfl, ?_⟩; clear hf a; intro a hf
  refine s_a hf rfl ?_; clear hf a; intro a hf
  refine s_nil ?_
  refine then_n ?_
  refine wp_ret ?_
  refine r_1 hf Tryd.results58 rfl ?_
  exact ⟨rfl, hs.kept⟩

theorem file_spec (w0 : World) (old size length : Int) (ho : 0 ≤ old) (ho2 : old ≤ 16777216) (hz : 0 ≤ size) (hz2 : size ≤ 16777216) (hl : 0 ≤ length) (hl2 : length ≤ 1125899906842624) : Calls Tryd.prog 83 #[.int .i64 old, .int .i64 size, .int .i64 length] w0 fun e w' => e = .returned (.int .i64 (filZ old size length)) ∧ Kept w0 w' None_ := by
  have hs := St.start w0 None_
  obtain ⟨u1, hu1⟩ : ∃ u1, upZ (max old size) = u1 * 512 := ⟨_, rfl⟩
  obtain ⟨u2, hu2⟩ : ∃ u2, upZ length = u2 * 512 := ⟨_, rfl⟩
  have hb1 : old ≤ upZ (max old size) ∧ upZ (max old size) ≤ 16777727 := by unfold upZ; omega
  have hb2 : 0 ≤ upZ length ∧ upZ length ≤ 1125899906843136 := by unfold upZ; omega
  have hF : filZ old size length = old + max 1 ((upZ (max old size) + upZ length + 512 - old + 1024 - 1) / 1024) * 1024 := rfl
  generalize filZ old size length = F at hF ⊢
  generalize hA : upZ (max old size) = A at hu1 hb1 hF
  generalize hB : upZ length = B at hu2 hb2 hF
  refine c_enter (N := 24) Tryd.func83 rfl Tryd.ntmps83 (by simp) ?_
  intro a hf
  refine wp_seq ?_
  refine wp_region_lit ?_
  refine s_a hf rfl ?_; clear hf a; intro a hf
  refine s_nil ?_
  refine then_n ?_
  refine wp_seq ?_
  refine wp_region_lit ?_
  refine s_m hf rfl ?_; clear hf a; intro a hf
  refine s_m hf rfl ?_; clear hf a; intro a hf
  refine s_do hf rfl (y_call (hf.eval rfl) (hf.evals rfl) Tryd.call58 ((body_spec _ old size ho ho2 hz hz2).mono ?_))
  rintro e w1 ⟨rfl, hk⟩
  replace hs := hs.ext hk
  rw [hA]
  refine ⟨_, rfl, ?_⟩; clear hf a; intro a hf
  refine s_m hf rfl ?_; clear hf a; intro a hf
  refine s_do hf rfl (y_call (hf.eval rfl) (hf.evals rfl) Tryd.call84 ((rup_spec _ length hl hl2).mono ?_))
  rintro e w1 ⟨rfl, hk⟩
  replace hs := hs.ext hk
  rw [hB]
  refine ⟨_, rfl, ?_⟩; clear hf a; intro a hf
  refine s_v hf (x_bin (hf.eval rfl) (hf.eval rfl) (r_addi _ (by omega) (by omega))) ?_; clear hf a; intro a hf
  refine s_a hf rfl ?_; clear hf a; intro a hf
  refine s_nil ?_
  refine then_n ?_
  refine wp_seq ?_
  refine wp_region_lit ?_
  refine s_m hf rfl ?_; clear hf a; intro a hf
  refine s_v hf (x_bin (hf.eval rfl) (hf.eval rfl) (r_addi _ (by omega) (by omega))) ?_; clear hf a; intro a hf
  refine s_a hf rfl ?_; clear hf a; intro a hf
  refine s_nil ?_
  refine then_n ?_
  refine wp_seq ?_
  refine wp_block ?_
  refine c_loop (L0 := [(6, _), (7, _)]) (fun M w m => ∃ f : Int, M = [(8, .int .i64 f)] ∧ (F - f).toNat = m ∧ old + 1024 ≤ f ∧ f ≤ F ∧ (F - f) % 1024 = 0 ∧ St ⟨w0, None_⟩ w []) (M0 := [(8, .int .i64 (old + 1024))]) (⟨old + 1024, rfl, rfl, by omega, by omega, by omega, hs⟩) (hf.sub ⟨rfl, rfl, rfl, trivial⟩) ?_
  clear hf hs a
  rintro M m a w ⟨f, rfl, rfl, hf0, hf1, hf2, hs⟩ hf
  refine wp_seq ?_
  refine wp_seq ?_
  refine wp_region_lit ?_
  refine s_m hf rfl ?_; clear hf a; intro a hf
  refine s_do hf rfl (y_call (hf.eval rfl) (hf.evals rfl) Tryd.call82 ((seal_spec _ f (by omega) (by omega)).mono ?_))
  rintro e w1 ⟨rfl, rfl⟩
  refine ⟨_, rfl, ?_⟩; clear hf a; intro a hf
  refine s_m hf rfl ?_; clear hf a; intro a hf
  refine s_v hf (x_bin (hf.eval rfl) (hf.eval rfl) (r_lt _ _ _ _)) ?_; clear hf a; intro a hf
  refine s_nil ?_
  refine then_n ?_
  refine c_cond hf rfl (fun hi0 => ?_) (fun hi0 => ?_)
  · simp only [decide_eq_true_eq, decide_eq_false_iff_not, Bool.not_eq_true', Bool.not_eq_false', Bool.not_eq_true, Int.not_lt, Int.not_le] at hi0
    refine wp_skip ?_
    refine then_n ?_
    refine wp_block ?_
    refine wp_region_lit ?_
    refine s_m hf rfl ?_; clear hf a; intro a hf
    refine s_v hf (x_bin (hf.eval rfl) (hf.eval rfl) (r_addi _ (by omega) (by omega))) ?_; clear hf a; intro a hf
    refine s_a hf rfl ?_; clear hf a; intro a hf
    refine s_nil ?_
    refine blk_n ?_
    exact ⟨_, _, ⟨f + 1024, rfl, rfl, by omega, by omega, by omega, hs⟩, by omega, hf.sub ⟨rfl, rfl, rfl, trivial⟩⟩
  · simp only [decide_eq_true_eq, decide_eq_false_iff_not, Bool.not_eq_true', Bool.not_eq_false', Bool.not_eq_true, Int.not_lt, Int.not_le] at hi0
    refine wp_exit ?_
    refine then_x ?_
    refine then_x ?_
    refine blk_x ?_
    refine then_n ?_
    refine wp_seq ?_
    refine wp_region_lit ?_
    refine s_m hf rfl ?_; clear hf a; intro a hf
    refine s_a hf rfl ?_; clear hf a; intro a hf
    refine s_nil ?_
    refine then_n ?_
    refine wp_ret ?_
    refine r_1 hf Tryd.results83 rfl ?_
    exact ⟨by rw [show f = F by omega], hs.kept⟩

theorem fil_ge {old size length : Int} (h0 : 0 ≤ old) (h1 : 0 ≤ size) (h2 : 0 ≤ length) : upZ (max old size) + upZ length + 512 ≤ filZ old size length ∧ old + 1024 ≤ filZ old size length ∧ max old size ≤ upZ (max old size) ∧ length ≤ upZ length := by
  unfold filZ upZ
  omega

end Go.Proofs.YtehakfbfjpolfaaDoor
