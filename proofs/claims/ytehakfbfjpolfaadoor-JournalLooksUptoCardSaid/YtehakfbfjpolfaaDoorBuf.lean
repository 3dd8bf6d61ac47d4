/- The buffers: what each call puts. -/
import Derived.Test.YtehakfbfjpolfaaDoorVG
import Derived.Test.YtehakfbfjpolfaaDoorProg
import Derived.Test.YtehakfbfjpolfaaDoorFacts
set_option maxRecDepth 100000
set_option linter.all false
namespace Go.Proofs.YtehakfbfjpolfaaDoor
open Go Vw
theorem newBuf_spec (w0 : World) (lim : Int) : Calls Tryd.prog 38 #[.int .i64 lim] w0 fun e w' => ∃ p, e = .returned (.pointer (some ⟨p, 0, none⟩)) ∧ St ⟨w0, None_⟩ w' [bufA 115 5 p [] lim (if lim < 0 then 1 else 0)] := by
  have hs := (St.start w0 None_).emp (slB_nil 5)
  refine c_enter (N := 13) Tryd.func38 rfl Tryd.ntmps38 (by simp) ?_
  intro a hf
  refine wp_seq ?_
  refine wp_region_lit ?_
  refine s_a hf rfl ?_; clear hf a; intro a hf
  refine s_nil ?_
  refine then_n ?_
  refine wp_seq ?_
  refine wp_region_lit ?_
  refine s_m hf rfl ?_; clear hf a; intro a hf
  refine s_r hf (x_build (v := .agg #[.slice none 0 0, .int .i64 lim, .int .i64 0]) (hf.parts rfl) (fun w => by kernel_rfl) _) ?_; clear hf a; intro a hf
  refine s_do hf rfl (y_box hs (hf.eval rfl) ?_); clear hf hs a; intro p w hs a hf
  change St _ _ (cb p 115 [.slice none 0 0, .int .i64 lim, .int .i64 0] :: _) at hs
  refine s_a hf rfl ?_; clear hf a; intro a hf
  refine s_nil ?_
  refine then_n ?_
  refine wp_seq ?_
  refine wp_seq ?_
  refine wp_region_lit ?_
  refine s_m hf rfl ?_; clear hf a; intro a hf
  refine s_v hf (x_bin (hf.eval rfl) (hf.eval rfl) (r_lt _ _ _ _)) ?_; clear hf a; intro a hf
  refine s_nil ?_
  refine then_n ?_
  refine c_cond hf rfl (fun hi0 => ?_) (fun hi0 => ?_)
  · simp only [decide_eq_true_eq, decide_eq_false_iff_not, Bool.not_eq_true', Bool.not_eq_false', Bool.not_eq_true, Int.not_lt, Int.not_le] at hi0
    refine wp_region_lit ?_
    refine s_m hf rfl ?_; clear hf a; intro a hf
    refine s_v hf (x_nilCheck (hf.eval rfl)) ?_; clear hf a; intro a hf
    refine s_v hf (x_fieldAddr fo115_2 (hf.eval rfl)) ?_; clear hf a; intro a hf
    refine s_do0 hf rfl (y_store hs sc26 (hf.eval rfl) (hf.eval rfl) rfl (by first | exact .here _ | exact .there _ (.here _) | exact .there _ (.there _ (.here _)) | exact .there _ (.there _ (.there _ (.here _))) | exact .there _ (.there _ (.there _ (.there _ (.here _)))) | exact .there _ (.there _ (.there _ (.there _ (.there _ (.here _)))))) (by simp) ?_); clear hf hs a; intro w hs a hf
    refine s_nil ?_
    refine then_n ?_
    refine wp_seq ?_
    refine wp_region_lit ?_
    refine s_m hf rfl ?_; clear hf a; intro a hf
    refine s_a hf rfl ?_; clear hf a; intro a hf
    refine s_nil ?_
    refine then_n ?_
    refine wp_ret ?_
    refine r_1 hf Tryd.results38 rfl ?_
    first | (rw [if_pos hi0]; exact ⟨p, rfl, bufA_close hs⟩) | (rw [if_neg (by omega)]; exact ⟨p, rfl, bufA_close hs⟩)
  · simp only [decide_eq_true_eq, decide_eq_false_iff_not, Bool.not_eq_true', Bool.not_eq_false', Bool.not_eq_true, Int.not_lt, Int.not_le] at hi0
    refine wp_skip ?_
    refine then_n ?_
    refine wp_seq ?_
    refine wp_region_lit ?_
    refine s_m hf rfl ?_; clear hf a; intro a hf
    refine s_a hf rfl ?_; clear hf a; intro a hf
    refine s_nil ?_
    refine then_n ?_
    refine wp_ret ?_
    refine r_1 hf Tryd.results38 rfl ?_
    first | (rw [if_pos hi0]; exact ⟨p, rfl, bufA_close hs⟩) | (rw [if_neg (by omega)]; exact ⟨p, rfl, bufA_close hs⟩)

theorem bErr_spec (σ : Sig) (w : World) (R : List Asrt) (p : Nat) (data : List UInt8) (lim bad : Int) (hs : St σ w (bufA 115 5 p data lim bad :: R)) (hlim : bad = 0 → 0 ≤ lim) (hlim2 : lim ≤ 9223372036854775807) (hd : data.length ≤ 70368744177664) : Calls Tryd.prog 41 #[.pointer (some ⟨p, 0, none⟩)] w fun e w' => e = .returned (.int .i64 bad) ∧ St σ w' (bufA 115 5 p data lim bad :: R) := by
  obtain ⟨v0, hs⟩ := bufA_open hs
  obtain ⟨a0, c0, rfl, hc0⟩ := slB_shape (hs.take (.there _ (.here _)))
  refine c_enter (N := 9) Tryd.func41 rfl Tryd.ntmps41 (by simp) ?_
  intro a hf
  refine wp_seq ?_
  refine wp_region_lit ?_
  refine s_a hf rfl ?_; clear hf a; intro a hf
  refine s_nil ?_
  refine then_n ?_
  refine wp_seq ?_
  refine wp_seq ?_
  refine wp_region_lit ?_
  refine s_m hf rfl ?_; clear hf a; intro a hf
  refine s_v hf (x_eqNil Tryd.underlying70 (hf.eval rfl) (hf.eval rfl)) ?_; clear hf a; intro a hf
  replace hf := hf.now (k := 4) (v' := .bool false) rfl rfl
  refine s_nil ?_
  refine then_n ?_
  refine c_cond_f hf rfl rfl ?_
  refine wp_skip ?_
  refine then_n ?_
  refine wp_seq ?_
  refine wp_region_lit ?_
  refine s_m hf rfl ?_; clear hf a; intro a hf
  refine s_v hf (x_nilCheck (hf.eval rfl)) ?_; clear hf a; intro a hf
  refine s_v hf (x_fieldAddr fo115_2 (hf.eval rfl)) ?_; clear hf a; intro a hf
  refine s_r hf (x_load sc26 (hf.eval rfl) (by first | exact hs.cell (.here _) rfl | exact hs.cell (.there _ (.here _)) rfl | exact hs.cell (.there _ (.there _ (.here _))) rfl | exact hs.cell (.there _ (.there _ (.there _ (.here _)))) rfl | exact hs.cell (.there _ (.there _ (.there _ (.there _ (.here _))))) rfl | exact hs.cell (.there _ (.there _ (.there _ (.there _ (.there _ (.here _)))))) rfl)) ?_; clear hf a; intro a hf
  refine s_a hf rfl ?_; clear hf a; intro a hf
  refine s_nil ?_
  refine then_n ?_
  refine wp_ret ?_
  refine r_1 hf Tryd.results41 rfl ?_
  exact ⟨rfl, bufA_close hs⟩

theorem bTake_spec (σ : Sig) (w : World) (R : List Asrt) (p : Nat) (data : List UInt8) (lim bad : Int) (hs : St σ w (bufA 115 5 p data lim bad :: R)) (hlim : bad = 0 → 0 ≤ lim) (hlim2 : lim ≤ 9223372036854775807) (hd : data.length ≤ 70368744177664) : Calls Tryd.prog 43 #[.pointer (some ⟨p, 0, none⟩)] w fun e w' => ∃ aa c, e = .returned (.slice aa (takeB data bad).length c) ∧ St σ w' (slB 5 (.slice aa (takeB data bad).length c) (takeB data bad) :: bufA 115 5 p data lim bad :: R) := by
  obtain ⟨v0, hs⟩ := bufA_open hs
  obtain ⟨a0, c0, rfl, hc0⟩ := slB_shape (hs.take (.there _ (.here _)))
  refine c_enter (N := 17) Tryd.func43 rfl Tryd.ntmps43 (by simp) ?_
  intro a hf
  refine wp_seq ?_
  refine wp_region_lit ?_
  refine s_a hf rfl ?_; clear hf a; intro a hf
  refine s_nil ?_
  refine then_n ?_
  refine wp_seq ?_
  refine wp_seq ?_
  refine wp_region_lit ?_
  refine s_m hf rfl ?_; clear hf a; intro a hf
  refine s_v hf (x_eqNil Tryd.underlying70 (hf.eval rfl) (hf.eval rfl)) ?_; clear hf a; intro a hf
  replace hf := hf.now (k := 4) (v' := .bool false) rfl rfl
  refine s_m hf rfl ?_; clear hf a; intro a hf
  refine s_do hf (wanted_of hf rfl rfl rfl) (.value (x_move (hf.eval rfl) _) ?_); clear hf a; intro a hf
  refine s_do hf (wanted_of hf rfl rfl rfl) (.value (x_nilCheck (hf.eval rfl) _) ?_); clear hf a; intro a hf
  refine s_do hf (wanted_of hf rfl rfl rfl) (.value (x_fieldAddr fo115_2 (hf.eval rfl) _) ?_); clear hf a; intro a hf
  refine s_do hf (wanted_of hf rfl rfl rfl) (.value (x_load sc26 (hf.eval rfl) (by first | exact hs.cell (.here _) rfl | exact hs.cell (.there _ (.here _)) rfl | exact hs.cell (.there _ (.there _ (.here _))) rfl | exact hs.cell (.there _ (.there _ (.there _ (.here _)))) rfl | exact hs.cell (.there _ (.there _ (.there _ (.there _ (.here _))))) rfl | exact hs.cell (.there _ (.there _ (.there _ (.there _ (.there _ (.here _)))))) rfl)) ?_); clear hf a; intro a hf
  refine s_do hf (wanted_of hf rfl rfl rfl) (.value (x_bin (hf.eval rfl) (hf.eval rfl) (r_ne _ _ _ _) _) ?_); clear hf a; intro a hf
  refine s_v hf (x_pick_f (hf.eval rfl) (hf.eval rfl)) ?_; clear hf a; intro a hf
  refine s_nil ?_
  refine then_n ?_
  refine c_cond hf rfl (fun hi0 => ?_) (fun hi0 => ?_)
  · simp only [decide_eq_true_eq, decide_eq_false_iff_not, Bool.not_eq_true', Bool.not_eq_false', Bool.not_eq_true, Int.not_lt, Int.not_le] at hi0
    refine wp_seq ?_
    refine wp_region_lit ?_
    refine s_a hf rfl ?_; clear hf a; intro a hf
    refine s_nil ?_
    refine then_n ?_
    refine wp_ret ?_
    refine then_r ?_
    refine r_1 hf Tryd.results43 rfl ?_
    have hN : takeB data bad = [] := by unfold takeB; rw [if_pos (by simpa using hi0)]
    rw [hN]
    exact ⟨none, 0, rfl, (bufA_close hs).emp (slB_nil _)⟩
  · simp only [decide_eq_true_eq, decide_eq_false_iff_not, Bool.not_eq_true', Bool.not_eq_false', Bool.not_eq_true, Int.not_lt, Int.not_le] at hi0
    have hb : bad = 0 := by simpa using hi0
    subst hb
    have hl0 := hlim rfl
    refine wp_skip ?_
    refine then_n ?_
    refine wp_seq ?_
    refine wp_region_lit ?_
    refine s_m hf rfl ?_; clear hf a; intro a hf
    refine s_v hf (x_nilCheck (hf.eval rfl)) ?_; clear hf a; intro a hf
    refine s_v hf (x_fieldAddr fo115_0 (hf.eval rfl)) ?_; clear hf a; intro a hf
    refine s_r hf (x_load sc25 (hf.eval rfl) (by first | exact hs.cell (.here _) rfl | exact hs.cell (.there _ (.here _)) rfl | exact hs.cell (.there _ (.there _ (.here _))) rfl | exact hs.cell (.there _ (.there _ (.there _ (.here _)))) rfl | exact hs.cell (.there _ (.there _ (.there _ (.there _ (.here _))))) rfl | exact hs.cell (.there _ (.there _ (.there _ (.there _ (.there _ (.here _)))))) rfl)) ?_; clear hf a; intro a hf
    refine s_do hf rfl (y_appendB (s := data) (hs.emp (slB_nil 5)) sl25 rfl (hf.eval rfl) (hf.eval rfl) (.here _) (hs.rdB (.there _ (.here _)) fun h => slB_rd) (by simp; omega) ?_); clear hf hs a; intro v2 w hs hv a hf
    simp only [List.nil_append] at hs
    obtain ⟨a2, c2, rfl, hc2⟩ := slB_shape hs
    refine s_a hf rfl ?_; clear hf a; intro a hf
    refine s_nil ?_
    refine then_n ?_
    refine wp_ret ?_
    refine r_1 hf Tryd.results43 rfl ?_
    have hN : takeB data 0 = data := by unfold takeB; rw [if_neg (by simp)]
    rw [hN]
    refine ⟨_, _, rfl, ?_⟩
    exact (bufA_close (hs.take (.there _ (.here _)) |>.take (.there _ (.there _ (.here _))) |>.take (.there _ (.here _)))).take (.there _ (.here _))

theorem bnumber_spec (σ : Sig) (w : World) (R : List Asrt) (p : Nat) (data : List UInt8) (lim bad : Int) (hs : St σ w (bufA 115 5 p data lim bad :: R)) (hlim : bad = 0 → 0 ≤ lim) (hlim2 : lim ≤ 9223372036854775807) (hd : data.length ≤ 70368744177664) (v : Int) (n : Nat) (hn : n ≤ 4) : Calls Tryd.prog 75 #[.pointer (some ⟨p, 0, none⟩), .int .i64 v, .int .i64 (n : Int)] w fun e w' => e = .returned (.tuple #[]) ∧ St σ w' (bufA 115 5 p (numB data lim bad v n).1 lim (numB data lim bad v n).2 :: R) := by
  obtain ⟨v0, hs⟩ := bufA_open hs
  obtain ⟨a0, c0, rfl, hc0⟩ := slB_shape (hs.take (.there _ (.here _)))
  refine c_enter (N := 59) Tryd.func75 rfl Tryd.ntmps75 (by simp) ?_
  intro a hf
  refine wp_seq ?_
  refine wp_seq ?_
  refine wp_region_lit ?_
  refine s_m hf rfl ?_; clear hf a; intro a hf
  refine s_v hf (x_eqNil Tryd.underlying70 (hf.eval rfl) (hf.eval rfl)) ?_; clear hf a; intro a hf
  replace hf := hf.now (k := 7) (v' := .bool false) rfl rfl
  refine s_m hf rfl ?_; clear hf a; intro a hf
  refine s_do hf (wanted_of hf rfl rfl rfl) (.value (x_move (hf.eval rfl) _) ?_); clear hf a; intro a hf
  refine s_do hf (wanted_of hf rfl rfl rfl) (.value (x_nilCheck (hf.eval rfl) _) ?_); clear hf a; intro a hf
  refine s_do hf (wanted_of hf rfl rfl rfl) (.value (x_fieldAddr fo115_2 (hf.eval rfl) _) ?_); clear hf a; intro a hf
  refine s_do hf (wanted_of hf rfl rfl rfl) (.value (x_load sc26 (hf.eval rfl) (by first | exact hs.cell (.here _) rfl | exact hs.cell (.there _ (.here _)) rfl | exact hs.cell (.there _ (.there _ (.here _))) rfl | exact hs.cell (.there _ (.there _ (.there _ (.here _)))) rfl | exact hs.cell (.there _ (.there _ (.there _ (.there _ (.here _))))) rfl | exact hs.cell (.there _ (.there _ (.there _ (.there _ (.there _ (.here _)))))) rfl)) ?_); clear hf a; intro a hf
  refine s_do hf (wanted_of hf rfl rfl rfl) (.value (x_bin (hf.eval rfl) (hf.eval rfl) (r_ne _ _ _ _) _) ?_); clear hf a; intro a hf
  refine s_v hf (x_pick_f (hf.eval rfl) (hf.eval rfl)) ?_; clear hf a; intro a hf
  refine s_nil ?_
  refine then_n ?_
  refine c_cond hf rfl (fun hi0 => ?_) (fun hi0 => ?_)
  · simp only [decide_eq_true_eq, decide_eq_false_iff_not, Bool.not_eq_true', Bool.not_eq_false', Bool.not_eq_true, Int.not_lt, Int.not_le] at hi0
    refine wp_ret ?_
    refine then_r ?_
    refine r_0 hf Tryd.results75 ?_
    have hN : numB data lim bad v n = (data, bad) := by unfold numB; rw [if_pos (by simpa using hi0)]
    rw [hN]
    exact ⟨rfl, bufA_close hs⟩
  · simp only [decide_eq_true_eq, decide_eq_false_iff_not, Bool.not_eq_true', Bool.not_eq_false', Bool.not_eq_true, Int.not_lt, Int.not_le] at hi0
    have hb : bad = 0 := by simpa using hi0
    subst hb
    have hl0 := hlim rfl
    refine wp_skip ?_
    refine then_n ?_
    refine wp_seq ?_
    refine wp_seq ?_
    refine wp_region_lit ?_
    refine s_m hf rfl ?_; clear hf a; intro a hf
    refine s_v hf (x_bin (hf.eval rfl) (hf.eval rfl) (r_lt _ _ _ _)) ?_; clear hf a; intro a hf
    refine s_m hf rfl ?_; clear hf a; intro a hf
    refine s_bool hf (k := 17) rfl (fun hg1_2 hf' => ?_) (fun hg1_2 hf' => ?_)
    · clear hf
      have hf := hf'
      clear hf'
      simp only [decide_eq_true_eq, decide_eq_false_iff_not, Bool.not_eq_true', Bool.not_eq_false', Bool.not_eq_true, Int.not_lt, Int.not_le] at hg1_2
      refine s_pass hf rfl rfl ?_; clear hf a; intro a hf
      refine s_pass hf rfl rfl ?_; clear hf a; intro a hf
      refine s_pass hf rfl rfl ?_; clear hf a; intro a hf
      refine s_pass hf rfl rfl ?_; clear hf a; intro a hf
      refine s_pass hf rfl rfl ?_; clear hf a; intro a hf
      refine s_v hf (x_pick_t (hf.eval rfl) (hf.eval rfl)) ?_; clear hf a; intro a hf
      refine s_nil ?_
      refine then_n ?_
      refine c_cond_t hf rfl rfl ?_
      refine wp_seq ?_
      refine wp_region_lit ?_
      refine s_m hf rfl ?_; clear hf a; intro a hf
      refine s_v hf (x_nilCheck (hf.eval rfl)) ?_; clear hf a; intro a hf
      refine s_v hf (x_fieldAddr fo115_2 (hf.eval rfl)) ?_; clear hf a; intro a hf
      refine s_do0 hf rfl (y_store hs sc26 (hf.eval rfl) (hf.eval rfl) rfl (by first | exact .here _ | exact .there _ (.here _) | exact .there _ (.there _ (.here _)) | exact .there _ (.there _ (.there _ (.here _))) | exact .there _ (.there _ (.there _ (.there _ (.here _)))) | exact .there _ (.there _ (.there _ (.there _ (.there _ (.here _)))))) (by simp) ?_); clear hf hs a; intro w hs a hf
      refine s_nil ?_
      refine then_n ?_
      refine wp_ret ?_
      refine then_r ?_
      refine r_0 hf Tryd.results75 ?_
      have hN : numB data lim 0 v n = (data, 21) := by unfold numB; rw [if_neg (by simp), if_pos (by omega)]
      rw [hN]
      exact ⟨rfl, bufA_close hs⟩
    · clear hf
      have hf := hf'
      clear hf'
      simp only [decide_eq_true_eq, decide_eq_false_iff_not, Bool.not_eq_true', Bool.not_eq_false', Bool.not_eq_true, Int.not_lt, Int.not_le] at hg1_2
      refine s_do hf (wanted_of hf rfl rfl rfl) (.value (x_move (hf.eval rfl) _) ?_); clear hf a; intro a hf
      refine s_do hf (wanted_of hf rfl rfl rfl) (.value (x_move (hf.eval rfl) _) ?_); clear hf a; intro a hf
      refine s_do hf (wanted_of hf rfl rfl rfl) (.value (x_bin (hf.eval rfl) (hf.eval rfl) (r_muli _ (by omega) (by omega)) _) ?_); clear hf a; intro a hf
      refine s_do hf (wanted_of hf rfl rfl rfl) (.value (x_bin (hf.eval rfl) (hf.eval rfl) (r_shl256 _ hn) _) ?_); clear hf a; intro a hf
      refine s_do hf (wanted_of hf rfl rfl rfl) (.value (x_bin (hf.eval rfl) (hf.eval rfl) (r_ge _ _ _ _) _) ?_); clear hf a; intro a hf
      refine s_v hf (x_pick_f (hf.eval rfl) (hf.eval rfl)) ?_; clear hf a; intro a hf
      refine s_nil ?_
      refine then_n ?_
      refine c_cond hf rfl (fun hi1 => ?_) (fun hi1 => ?_)
      · simp only [decide_eq_true_eq, decide_eq_false_iff_not, Bool.not_eq_true', Bool.not_eq_false', Bool.not_eq_true, Int.not_lt, Int.not_le] at hi1
        refine wp_seq ?_
        refine wp_region_lit ?_
        refine s_m hf rfl ?_; clear hf a; intro a hf
        refine s_v hf (x_nilCheck (hf.eval rfl)) ?_; clear hf a; intro a hf
        refine s_v hf (x_fieldAddr fo115_2 (hf.eval rfl)) ?_; clear hf a; intro a hf
        refine s_do0 hf rfl (y_store hs sc26 (hf.eval rfl) (hf.eval rfl) rfl (by first | exact .here _ | exact .there _ (.here _) | exact .there _ (.there _ (.here _)) | exact .there _ (.there _ (.there _ (.here _))) | exact .there _ (.there _ (.there _ (.there _ (.here _)))) | exact .there _ (.there _ (.there _ (.there _ (.there _ (.here _)))))) (by simp) ?_); clear hf hs a; intro w hs a hf
        refine s_nil ?_
        refine then_n ?_
        refine wp_ret ?_
        refine then_r ?_
        refine r_0 hf Tryd.results75 ?_
        have hN : numB data lim 0 v n = (data, 21) := by unfold numB; rw [if_neg (by simp), if_pos (by omega)]
        rw [hN]
        exact ⟨rfl, bufA_close hs⟩
      · simp only [decide_eq_true_eq, decide_eq_false_iff_not, Bool.not_eq_true', Bool.not_eq_false', Bool.not_eq_true, Int.not_lt, Int.not_le] at hi1
        refine wp_skip ?_
        refine then_n ?_
        refine wp_seq ?_
        refine wp_seq ?_
        refine c_draw hs (fun _ => True) [.held, .held, .held, .held, .read, .held, .held, .held, .read, .held, .held, .held] (by kernel_rfl) (by kernel_rfl) (fun _ _ _ => trivial) ?_
        clear hs; intro w hs hC hw
        refine m_held hf rfl (fun w' _ => x_move (hf.eval rfl) w') ?_; clear hf a; intro a hf
        refine m_held hf rfl (fun w' _ => x_move (hf.eval rfl) w') ?_; clear hf a; intro a hf
        refine m_held hf rfl (fun w' _ => x_nilCheck (hf.eval rfl) w') ?_; clear hf a; intro a hf
        refine m_held hf rfl (fun w' _ => x_fieldAddr fo115_1 (hf.eval rfl) w') ?_; clear hf a; intro a hf
        refine m_read hf rfl (x_load sc3 (hf.eval rfl) (by first | exact hs.cell (.here _) rfl | exact hs.cell (.there _ (.here _)) rfl | exact hs.cell (.there _ (.there _ (.here _))) rfl | exact hs.cell (.there _ (.there _ (.there _ (.here _)))) rfl | exact hs.cell (.there _ (.there _ (.there _ (.there _ (.here _))))) rfl | exact hs.cell (.there _ (.there _ (.there _ (.there _ (.there _ (.here _)))))) rfl)) ?_; clear hf a; intro a hf
        refine m_held hf rfl (fun w' _ => x_move (hf.eval rfl) w') ?_; clear hf a; intro a hf
        refine m_held hf rfl (fun w' _ => x_nilCheck (hf.eval rfl) w') ?_; clear hf a; intro a hf
        refine m_held hf rfl (fun w' _ => x_fieldAddr fo115_0 (hf.eval rfl) w') ?_; clear hf a; intro a hf
        refine m_read hf rfl (x_load sc25 (hf.eval rfl) (by first | exact hs.cell (.here _) rfl | exact hs.cell (.there _ (.here _)) rfl | exact hs.cell (.there _ (.there _ (.here _))) rfl | exact hs.cell (.there _ (.there _ (.there _ (.here _)))) rfl | exact hs.cell (.there _ (.there _ (.there _ (.there _ (.here _))))) rfl | exact hs.cell (.there _ (.there _ (.there _ (.there _ (.there _ (.here _)))))) rfl)) ?_; clear hf a; intro a hf
        refine m_held hf rfl (fun w' _ => x_len Tryd.underlying25 (hf.eval rfl) w') ?_; clear hf a; intro a hf
        refine m_held hf rfl (fun w' _ => x_bin (hf.eval rfl) (hf.eval rfl) (r_subi _ (by omega) (by omega)) w') ?_; clear hf a; intro a hf
        refine m_held hf rfl (fun w' _ => x_bin (hf.eval rfl) (hf.eval rfl) (r_gt _ _ _ _) w') ?_; clear hf a; intro a hf
        refine m_nil ?_
        refine then_n ?_
        refine c_cond hf rfl (fun hi2 => ?_) (fun hi2 => ?_)
        · simp only [decide_eq_true_eq, decide_eq_false_iff_not, Bool.not_eq_true', Bool.not_eq_false', Bool.not_eq_true, Int.not_lt, Int.not_le] at hi2
          refine wp_seq ?_
          refine wp_region_lit ?_
          refine s_m hf rfl ?_; clear hf a; intro a hf
          refine s_v hf (x_nilCheck (hf.eval rfl)) ?_; clear hf a; intro a hf
          refine s_v hf (x_fieldAddr fo115_2 (hf.eval rfl)) ?_; clear hf a; intro a hf
          refine s_do0 hf rfl (y_store hs sc26 (hf.eval rfl) (hf.eval rfl) rfl (by first | exact .here _ | exact .there _ (.here _) | exact .there _ (.there _ (.here _)) | exact .there _ (.there _ (.there _ (.here _))) | exact .there _ (.there _ (.there _ (.there _ (.here _)))) | exact .there _ (.there _ (.there _ (.there _ (.there _ (.here _)))))) (by simp) ?_); clear hf hs a; intro w hs a hf
          refine s_nil ?_
          refine then_n ?_
          refine wp_ret ?_
          refine then_r ?_
          refine r_0 hf Tryd.results75 ?_
          have hN : numB data lim 0 v n = (data, 22) := by unfold numB; rw [if_neg (by simp), if_neg (by omega), if_pos (by omega)]
          rw [hN]
          exact ⟨rfl, bufA_close hs⟩
        · simp only [decide_eq_true_eq, decide_eq_false_iff_not, Bool.not_eq_true', Bool.not_eq_false', Bool.not_eq_true, Int.not_lt, Int.not_le] at hi2
          obtain ⟨V, rfl⟩ := Int.eq_ofNat_of_zero_le (show 0 ≤ v by omega)
          refine wp_skip ?_
          refine then_n ?_
          refine wp_seq ?_
          refine wp_region_lit ?_
          refine s_m hf rfl ?_; clear hf a; intro a hf
          refine s_m hf rfl ?_; clear hf a; intro a hf
          refine s_nil ?_
          refine then_n ?_
          refine wp_block ?_
          refine c_loop (L0 := [(0, _), (42, _)]) (fun M w m => ∃ (j : Nat) (a1 : Option Addr) (c1 : Nat), M = [(1, .int .i64 ((V / 256 ^ j : Nat) : Int)), (43, .int .i64 (j : Int))] ∧ n - j = m ∧ j ≤ n ∧ St σ w (cb p 115 [.slice a1 (data.length + j) c1, .int .i64 lim, .int .i64 0] :: slB 5 (.slice a1 (data.length + j) c1) (data ++ leB j V) :: R)) (M0 := [(1, .int .i64 (V : Int)), (43, .int .i64 0)]) (⟨0, a0, c0, by rw [Nat.pow_zero, Nat.div_one]; rfl, rfl, Nat.zero_le _, by simpa [leB] using hs⟩) (hf.sub ⟨rfl, rfl, rfl, rfl, trivial⟩) ?_
          clear hf hs a
          rintro M m a w ⟨j, a1, c1, rfl, rfl, hj, hs⟩ hf
          refine wp_seq ?_
          refine wp_region_lit ?_
          refine s_v hf (x_bin (hf.eval rfl) (hf.eval rfl) (r_lt _ _ _ _)) ?_; clear hf a; intro a hf
          refine s_nil ?_
          refine then_n ?_
          refine wp_seq ?_
          refine c_cond hf rfl (fun hi3 => ?_) (fun hi3 => ?_)
          · simp only [decide_eq_true_eq, decide_eq_false_iff_not, Bool.not_eq_true', Bool.not_eq_false', Bool.not_eq_true, Int.not_lt, Int.not_le] at hi3
            refine wp_skip ?_
            refine then_n ?_
            refine wp_seq ?_
            refine wp_block ?_
            refine wp_seq ?_
            refine wp_region_lit ?_
            refine s_m hf rfl ?_; clear hf a; intro a hf
            refine s_m hf rfl ?_; clear hf a; intro a hf
            refine s_v hf (x_nilCheck (hf.eval rfl)) ?_; clear hf a; intro a hf
            refine s_v hf (x_fieldAddr fo115_0 (hf.eval rfl)) ?_; clear hf a; intro a hf
            refine s_r hf (x_load sc25 (hf.eval rfl) (by first | exact hs.cell (.here _) rfl | exact hs.cell (.there _ (.here _)) rfl | exact hs.cell (.there _ (.there _ (.here _))) rfl | exact hs.cell (.there _ (.there _ (.there _ (.here _)))) rfl | exact hs.cell (.there _ (.there _ (.there _ (.there _ (.here _))))) rfl | exact hs.cell (.there _ (.there _ (.there _ (.there _ (.there _ (.here _)))))) rfl)) ?_; clear hf a; intro a hf
            refine s_m hf rfl ?_; clear hf a; intro a hf
            refine s_v hf (x_convr Tryd.underlying3 Tryd.underlying5 (hf.eval rfl) (u8_of .i64 rfl _)) ?_; clear hf a; intro a hf
            replace hf := hf.now (k := 51) (v' := u8v (UInt8.ofNat (V / 256 ^ j % 256))) rfl (rfl)
            refine s_do hf rfl (y_lit (xs := [.tmp 51]) hs sl25 (hf.evals rfl) rfl (by simp [Value.cells, u8v]) (by decide) ?_); clear hf hs a; intro b2 w hs a hf
            refine s_do hf rfl (y_appendB (s := [UInt8.ofNat (V / 256 ^ j % 256)]) hs sl25 rfl (hf.eval rfl) (hf.eval rfl) (.there _ (.there _ (.here _))) (hs.rdB (.here _) fun h hb => rdB_of_bb (T := 5) (l := [UInt8.ofNat (V / 256 ^ j % 256)]) hb (by simp) (by simp)) (by simp [leB_len]; omega) ?_); clear hf hs a; intro v2 w hs hv a hf
            replace hs := (hs.lose (.there _ (.here _))).take (.there _ (.here _))
            have he : data ++ leB j V ++ [UInt8.ofNat (V / 256 ^ j % 256)] = data ++ leB (j + 1) V := by rw [List.append_assoc, ← leB_succ]
            rw [he] at hs
            obtain ⟨a2, c2, rfl, hc2⟩ := slB_shape (hs.take (.there _ (.here _)))
            have hle : (data ++ leB (j + 1) V).length = data.length + (j + 1) := by simp [leB_len]
            rw [hle] at hs hf
            refine s_v hf (x_nilCheck (hf.eval rfl)) ?_; clear hf a; intro a hf
            refine s_v hf (x_fieldAddr fo115_0 (hf.eval rfl)) ?_; clear hf a; intro a hf
            refine s_do0 hf rfl (y_store hs sc25 (hf.eval rfl) (hf.eval rfl) rfl (by first | exact .here _ | exact .there _ (.here _) | exact .there _ (.there _ (.here _)) | exact .there _ (.there _ (.there _ (.here _))) | exact .there _ (.there _ (.there _ (.there _ (.here _)))) | exact .there _ (.there _ (.there _ (.there _ (.there _ (.here _)))))) (by simp) ?_); clear hf hs a; intro w hs a hf
            refine s_nil ?_
            refine then_n ?_
            refine wp_region_lit ?_
            refine s_m hf rfl ?_; clear hf a; intro a hf
            refine s_v hf (x_bin (hf.eval rfl) (hf.eval rfl) (r_shr_i64 _ (j := 8) (by omega))) ?_; clear hf a; intro a hf
            replace hf := hf.now (k := 57) (v' := .int .i64 ((V / 256 ^ (j + 1) : Nat) : Int)) rfl (by rw [Nat.div_div_eq_div_mul, show (2 : Nat) ^ 8 = 256 by decide, show 256 ^ (j + 1) = 256 ^ j * 256 from Nat.pow_succ _ _])
            refine s_a hf rfl ?_; clear hf a; intro a hf
            refine s_nil ?_
            refine blk_n ?_
            refine then_n ?_
            refine wp_region_lit ?_
            refine s_v hf (x_bin (hf.eval rfl) (hf.eval rfl) (r_addi _ (by omega) (by omega))) ?_; clear hf a; intro a hf
            refine s_m hf rfl ?_; clear hf a; intro a hf
            refine s_nil ?_
            exact ⟨_, _, ⟨j + 1, a2, c2, rfl, rfl, by omega, hs⟩, by omega, hf.sub ⟨rfl, rfl, rfl, rfl, trivial⟩⟩
          · simp only [decide_eq_true_eq, decide_eq_false_iff_not, Bool.not_eq_true', Bool.not_eq_false', Bool.not_eq_true, Int.not_lt, Int.not_le] at hi3
            refine wp_exit ?_
            refine then_x ?_
            refine then_x ?_
            refine blk_x ?_
            refine r_0n hf Tryd.results75 ?_
            obtain rfl : n = j := by omega
            have hN : numB data lim 0 (V : Int) n = (data ++ leB n V, 0) := by unfold numB; rw [if_neg (by simp), if_neg (by omega), if_neg (by omega), Int.toNat_natCast]
            rw [hN]
            exact ⟨rfl, bufA_close hs⟩

theorem bU32_spec (σ : Sig) (w : World) (R : List Asrt) (p : Nat) (data : List UInt8) (lim bad : Int) (hs : St σ w (bufA 115 5 p data lim bad :: R)) (hlim : bad = 0 → 0 ≤ lim) (hlim2 : lim ≤ 9223372036854775807) (hd : data.length ≤ 70368744177664) (v : Int) : Calls Tryd.prog 40 #[.pointer (some ⟨p, 0, none⟩), .int .i64 v] w fun e w' => e = .returned (.tuple #[]) ∧ St σ w' (bufA 115 5 p (numB data lim bad v 4).1 lim (numB data lim bad v 4).2 :: R) := by
  refine c_enter (N := 7) Tryd.func40 rfl Tryd.ntmps40 (by simp) ?_
  intro a hf
  refine wp_region_lit ?_
  refine s_m hf rfl ?_; clear hf a; intro a hf
  refine s_m hf rfl ?_; clear hf a; intro a hf
  refine s_do hf rfl (y_call (hf.eval rfl) (hf.evals rfl) Tryd.call75 ((bnumber_spec σ w R p data lim bad hs hlim hlim2 hd v 4 (by omega)).mono ?_))
  rintro e w1 ⟨rfl, hs⟩
  refine ⟨_, rfl, ?_⟩; clear hf a; intro a hf
  refine s_nil ?_
  refine r_0n hf Tryd.results40 ?_
  exact ⟨rfl, hs⟩

theorem bText_spec (σ : Sig) (w : World) (R : List Asrt) (p : Nat) (data : List UInt8) (lim bad : Int) (hs : St σ w (bufA 115 5 p data lim bad :: R)) (hlim : bad = 0 → 0 ≤ lim) (hlim2 : lim ≤ 9223372036854775807) (hd : data.length ≤ 70368744177664) (s : List UInt8) (hsl : s.length ≤ 1048576) : Calls Tryd.prog 39 #[.pointer (some ⟨p, 0, none⟩), .string ⟨s.toArray⟩] w fun e w' => e = .returned (.tuple #[]) ∧ St σ w' (bufA 115 5 p (txtB data lim bad s).1 lim (txtB data lim bad s).2 :: R) := by
  obtain ⟨v0, hs⟩ := bufA_open hs
  obtain ⟨a0, c0, rfl, hc0⟩ := slB_shape (hs.take (.there _ (.here _)))
  refine c_enter (N := 38) Tryd.func39 rfl Tryd.ntmps39 (by simp) ?_
  intro a hf
  refine wp_seq ?_
  refine wp_seq ?_
  refine wp_region_lit ?_
  refine s_m hf rfl ?_; clear hf a; intro a hf
  refine s_v hf (x_eqNil Tryd.underlying70 (hf.eval rfl) (hf.eval rfl)) ?_; clear hf a; intro a hf
  replace hf := hf.now (k := 5) (v' := .bool false) rfl rfl
  refine s_m hf rfl ?_; clear hf a; intro a hf
  refine s_do hf (wanted_of hf rfl rfl rfl) (.value (x_move (hf.eval rfl) _) ?_); clear hf a; intro a hf
  refine s_do hf (wanted_of hf rfl rfl rfl) (.value (x_nilCheck (hf.eval rfl) _) ?_); clear hf a; intro a hf
  refine s_do hf (wanted_of hf rfl rfl rfl) (.value (x_fieldAddr fo115_2 (hf.eval rfl) _) ?_); clear hf a; intro a hf
  refine s_do hf (wanted_of hf rfl rfl rfl) (.value (x_load sc26 (hf.eval rfl) (by first | exact hs.cell (.here _) rfl | exact hs.cell (.there _ (.here _)) rfl | exact hs.cell (.there _ (.there _ (.here _))) rfl | exact hs.cell (.there _ (.there _ (.there _ (.here _)))) rfl | exact hs.cell (.there _ (.there _ (.there _ (.there _ (.here _))))) rfl | exact hs.cell (.there _ (.there _ (.there _ (.there _ (.there _ (.here _)))))) rfl)) ?_); clear hf a; intro a hf
  refine s_do hf (wanted_of hf rfl rfl rfl) (.value (x_bin (hf.eval rfl) (hf.eval rfl) (r_ne _ _ _ _) _) ?_); clear hf a; intro a hf
  refine s_v hf (x_pick_f (hf.eval rfl) (hf.eval rfl)) ?_; clear hf a; intro a hf
  refine s_nil ?_
  refine then_n ?_
  refine c_cond hf rfl (fun hi0 => ?_) (fun hi0 => ?_)
  · simp only [decide_eq_true_eq, decide_eq_false_iff_not, Bool.not_eq_true', Bool.not_eq_false', Bool.not_eq_true, Int.not_lt, Int.not_le] at hi0
    refine wp_ret ?_
    refine then_r ?_
    refine r_0 hf Tryd.results39 ?_
    have hN : txtB data lim bad s = (data, bad) := by unfold txtB; rw [if_pos (by simpa using hi0)]
    rw [hN]
    exact ⟨rfl, bufA_close hs⟩
  · simp only [decide_eq_true_eq, decide_eq_false_iff_not, Bool.not_eq_true', Bool.not_eq_false', Bool.not_eq_true, Int.not_lt, Int.not_le] at hi0
    have hb : bad = 0 := by simpa using hi0
    subst hb
    have hl0 := hlim rfl
    refine wp_skip ?_
    refine then_n ?_
    refine wp_seq ?_
    refine wp_seq ?_
    refine c_draw hs (fun _ => True) [.held, .held, .held, .held, .held, .read, .held, .held, .held, .read, .held, .held, .held] (by kernel_rfl) (by kernel_rfl) (fun _ _ _ => trivial) ?_
    clear hs; intro w hs hC hw
    refine m_held hf rfl (fun w' _ => x_move (hf.eval rfl) w') ?_; clear hf a; intro a hf
    refine m_held hf rfl (fun w' _ => x_lenS Tryd.underlying9 (hf.eval rfl) w') ?_; clear hf a; intro a hf
    replace hf := hf.now (k := 14) (v' := .int .i64 (s.length : Int)) rfl (by simp [ByteArray.size])
    refine m_held hf rfl (fun w' _ => x_move (hf.eval rfl) w') ?_; clear hf a; intro a hf
    refine m_held hf rfl (fun w' _ => x_nilCheck (hf.eval rfl) w') ?_; clear hf a; intro a hf
    refine m_held hf rfl (fun w' _ => x_fieldAddr fo115_1 (hf.eval rfl) w') ?_; clear hf a; intro a hf
    refine m_read hf rfl (x_load sc3 (hf.eval rfl) (by first | exact hs.cell (.here _) rfl | exact hs.cell (.there _ (.here _)) rfl | exact hs.cell (.there _ (.there _ (.here _))) rfl | exact hs.cell (.there _ (.there _ (.there _ (.here _)))) rfl | exact hs.cell (.there _ (.there _ (.there _ (.there _ (.here _))))) rfl | exact hs.cell (.there _ (.there _ (.there _ (.there _ (.there _ (.here _)))))) rfl)) ?_; clear hf a; intro a hf
    refine m_held hf rfl (fun w' _ => x_move (hf.eval rfl) w') ?_; clear hf a; intro a hf
    refine m_held hf rfl (fun w' _ => x_nilCheck (hf.eval rfl) w') ?_; clear hf a; intro a hf
    refine m_held hf rfl (fun w' _ => x_fieldAddr fo115_0 (hf.eval rfl) w') ?_; clear hf a; intro a hf
    refine m_read hf rfl (x_load sc25 (hf.eval rfl) (by first | exact hs.cell (.here _) rfl | exact hs.cell (.there _ (.here _)) rfl | exact hs.cell (.there _ (.there _ (.here _))) rfl | exact hs.cell (.there _ (.there _ (.there _ (.here _)))) rfl | exact hs.cell (.there _ (.there _ (.there _ (.there _ (.here _))))) rfl | exact hs.cell (.there _ (.there _ (.there _ (.there _ (.there _ (.here _)))))) rfl)) ?_; clear hf a; intro a hf
    refine m_held hf rfl (fun w' _ => x_len Tryd.underlying25 (hf.eval rfl) w') ?_; clear hf a; intro a hf
    refine m_held hf rfl (fun w' _ => x_bin (hf.eval rfl) (hf.eval rfl) (r_subi _ (by omega) (by omega)) w') ?_; clear hf a; intro a hf
    refine m_held hf rfl (fun w' _ => x_bin (hf.eval rfl) (hf.eval rfl) (r_gt _ _ _ _) w') ?_; clear hf a; intro a hf
    refine m_nil ?_
    refine then_n ?_
    refine c_cond hf rfl (fun hi1 => ?_) (fun hi1 => ?_)
    · simp only [decide_eq_true_eq, decide_eq_false_iff_not, Bool.not_eq_true', Bool.not_eq_false', Bool.not_eq_true, Int.not_lt, Int.not_le] at hi1
      refine wp_seq ?_
      refine wp_region_lit ?_
      refine s_m hf rfl ?_; clear hf a; intro a hf
      refine s_v hf (x_nilCheck (hf.eval rfl)) ?_; clear hf a; intro a hf
      refine s_v hf (x_fieldAddr fo115_2 (hf.eval rfl)) ?_; clear hf a; intro a hf
      refine s_do0 hf rfl (y_store hs sc26 (hf.eval rfl) (hf.eval rfl) rfl (by first | exact .here _ | exact .there _ (.here _) | exact .there _ (.there _ (.here _)) | exact .there _ (.there _ (.there _ (.here _))) | exact .there _ (.there _ (.there _ (.there _ (.here _)))) | exact .there _ (.there _ (.there _ (.there _ (.there _ (.here _)))))) (by simp) ?_); clear hf hs a; intro w hs a hf
      refine s_nil ?_
      refine then_n ?_
      refine wp_ret ?_
      refine then_r ?_
      refine r_0 hf Tryd.results39 ?_
      have hN : txtB data lim 0 s = (data, 22) := by unfold txtB; rw [if_neg (by simp), if_pos (by omega)]
      rw [hN]
      exact ⟨rfl, bufA_close hs⟩
    · simp only [decide_eq_true_eq, decide_eq_false_iff_not, Bool.not_eq_true', Bool.not_eq_false', Bool.not_eq_true, Int.not_lt, Int.not_le] at hi1
      refine wp_skip ?_
      refine then_n ?_
      refine wp_region_lit ?_
      refine s_m hf rfl ?_; clear hf a; intro a hf
      refine s_m hf rfl ?_; clear hf a; intro a hf
      refine s_v hf (x_nilCheck (hf.eval rfl)) ?_; clear hf a; intro a hf
      refine s_v hf (x_fieldAddr fo115_0 (hf.eval rfl)) ?_; clear hf a; intro a hf
      refine s_r hf (x_load sc25 (hf.eval rfl) (by first | exact hs.cell (.here _) rfl | exact hs.cell (.there _ (.here _)) rfl | exact hs.cell (.there _ (.there _ (.here _))) rfl | exact hs.cell (.there _ (.there _ (.there _ (.here _)))) rfl | exact hs.cell (.there _ (.there _ (.there _ (.there _ (.here _))))) rfl | exact hs.cell (.there _ (.there _ (.there _ (.there _ (.there _ (.here _)))))) rfl)) ?_; clear hf a; intro a hf
      refine s_m hf rfl ?_; clear hf a; intro a hf
      refine s_do hf rfl (y_appendStr (s := s) hs sl25 rfl Tryd.underlying9 (hf.eval rfl) (hf.eval rfl) (.there _ (.here _)) (by omega) ?_); clear hf hs a; intro v2 w hs a hf
      replace hs := hs.take (.there _ (.here _))
      obtain ⟨a2, c2, rfl, hc2⟩ := slB_shape (hs.take (.there _ (.here _)))
      refine s_v hf (x_nilCheck (hf.eval rfl)) ?_; clear hf a; intro a hf
      refine s_v hf (x_fieldAddr fo115_0 (hf.eval rfl)) ?_; clear hf a; intro a hf
      refine s_do0 hf rfl (y_store hs sc25 (hf.eval rfl) (hf.eval rfl) rfl (by first | exact .here _ | exact .there _ (.here _) | exact .there _ (.there _ (.here _)) | exact .there _ (.there _ (.there _ (.here _))) | exact .there _ (.there _ (.there _ (.there _ (.here _)))) | exact .there _ (.there _ (.there _ (.there _ (.there _ (.here _)))))) (by simp) ?_); clear hf hs a; intro w hs a hf
      refine s_nil ?_
      refine r_0n hf Tryd.results39 ?_
      have hN : txtB data lim 0 s = (data ++ s, 0) := by unfold txtB; rw [if_neg (by simp), if_neg (by omega)]
      rw [hN]
      exact ⟨rfl, bufA_close hs⟩

end Go.Proofs.YtehakfbfjpolfaaDoor
