/- The buffers: what each call puts. -/
import Derived.Test.YtfcmklmeinchhaaVG
import Derived.Test.YtfcmklmeinchhaaProg
import Derived.Test.YtfcmklmeinchhaaFacts
set_option maxRecDepth 100000
set_option linter.all false
namespace Go.Proofs.Ytfcmklmeinchhaa
open Go Vw
theorem newBuf_spec (w0 : World) (lim : Int) : Calls Try.prog 29 #[.int .i64 lim] w0 fun e w' => ∃ p, e = .returned (.pointer (some ⟨p, 0, none⟩)) ∧ St ⟨w0, None_⟩ w' [bufA 83 5 p [] lim (if lim < 0 then 1 else 0)] := by
  have hs := (St.start w0 None_).emp (slB_nil 5)
  refine c_enter (N := 13) Try.func29 rfl Try.ntmps29 (by simp) ?_
  intro a hf
  refine wp_seq ?_
  refine wp_region_lit ?_
  refine s_a hf rfl ?_; clear hf a; intro a hf
  refine s_nil ?_
  refine then_n ?_
  refine wp_seq ?_
  refine wp_region_lit ?_
  refine s_m hf rfl ?_; clear hf a; intro a hf
  refine s_r hf (x_build (v := .agg #[.slice none 0 0, .int .i64 lim, .int .i64 0]) (hf.parts rfl) (fun w => by kernel_rfl) _) ?_; clear hf a; intro a hf
  refine s_do hf rfl (y_box hs (hf.eval rfl) ?_); clear hf hs a; intro p w hs a hf
  change St _ _ (cb p 83 [.slice none 0 0, .int .i64 lim, .int .i64 0] :: _) at hs
  refine s_a hf rfl ?_; clear hf a; intro a hf
  refine s_nil ?_
  refine then_n ?_
  refine wp_seq ?_
  refine wp_seq ?_
  refine wp_region_lit ?_
  refine s_m hf rfl ?_; clear hf a; intro a hf
  refine s_v hf (x_bin (hf.eval rfl) (hf.eval rfl) (r_lt _ _ _ _)) ?_; clear hf a; intro a hf
  refine s_nil ?_
  refine then_n ?_
  refine c_cond hf rfl (fun hi0 => ?_) (fun hi0 => ?_)
  · simp only [decide_eq_true_eq, decide_eq_false_iff_not, Bool.not_eq_true', Bool.not_eq_false', Bool.not_eq_true, Int.not_lt, Int.not_le] at hi0
    refine wp_region_lit ?_
    refine s_m hf rfl ?_; clear hf a; intro a hf
    refine s_v hf (x_nilCheck (hf.eval rfl)) ?_; clear hf a; intro a hf
    refine s_v hf (x_fieldAddr fo83_2 (hf.eval rfl)) ?_; clear hf a; intro a hf
    refine s_do0 hf rfl (y_store hs sc23 (hf.eval rfl) (hf.eval rfl) rfl (by first | exact .here _ | exact .there _ (.here _) | exact .there _ (.there _ (.here _)) | exact .there _ (.there _ (.there _ (.here _))) | exact .there _ (.there _ (.there _ (.there _ (.here _)))) | exact .there _ (.there _ (.there _ (.there _ (.there _ (.here _)))))) (by simp) ?_); clear hf hs a; intro w hs a hf
    refine s_nil ?_
    refine then_n ?_
    refine wp_seq ?_
    refine wp_region_lit ?_
    refine s_m hf rfl ?_; clear hf a; intro a hf
    refine s_a hf rfl ?_; clear hf a; intro a hf
    refine s_nil ?_
    refine then_n ?_
    refine wp_ret ?_
    refine r_1 hf Try.results29 rfl ?_
    first | (rw [if_pos hi0]; exact ⟨p, rfl, bufA_close hs⟩) | (rw [if_neg (by omega)]; exact ⟨p, rfl, bufA_close hs⟩)
  · simp only [decide_eq_true_eq, decide_eq_false_iff_not, Bool.not_eq_true', Bool.not_eq_false', Bool.not_eq_true, Int.not_lt, Int.not_le] at hi0
    refine wp_skip ?_
    refine then_n ?_
    refine wp_seq ?_
    refine wp_region_lit ?_
    refine s_m hf rfl ?_; clear hf a; intro a hf
    refine s_a hf rfl ?_; clear hf a; intro a hf
    refine s_nil ?_
    refine then_n ?_
    refine wp_ret ?_
    refine r_1 hf Try.results29 rfl ?_
    first | (rw [if_pos hi0]; exact ⟨p, rfl, bufA_close hs⟩) | (rw [if_neg (by omega)]; exact ⟨p, rfl, bufA_close hs⟩)

theorem refNewBuf_spec (w0 : World) (lim : Int) : Calls Try.prog 30 #[.int .i64 lim] w0 fun e w' => ∃ p, e = .returned (.pointer (some ⟨p, 0, none⟩)) ∧ St ⟨w0, None_⟩ w' [rbufA 85 5 p [] lim (if lim < 0 then 1 else 0)] := by
  have hs := (St.start w0 None_).emp (slB_nil 5)
  refine c_enter (N := 13) Try.func30 rfl Try.ntmps30 (by simp) ?_
  intro a hf
  refine wp_seq ?_
  refine wp_region_lit ?_
  refine s_a hf rfl ?_; clear hf a; intro a hf
  refine s_nil ?_
  refine then_n ?_
  refine wp_seq ?_
  refine wp_region_lit ?_
  refine s_m hf rfl ?_; clear hf a; intro a hf
  refine s_r hf (x_build (v := .agg #[.int .i64 lim, .slice none 0 0, .int .i64 0]) (hf.parts rfl) (fun w => by kernel_rfl) _) ?_; clear hf a; intro a hf
  refine s_do hf rfl (y_box hs (hf.eval rfl) ?_); clear hf hs a; intro p w hs a hf
  change St _ _ (cb p 85 [.int .i64 lim, .slice none 0 0, .int .i64 0] :: _) at hs
  refine s_a hf rfl ?_; clear hf a; intro a hf
  refine s_nil ?_
  refine then_n ?_
  refine wp_seq ?_
  refine wp_seq ?_
  refine wp_region_lit ?_
  refine s_m hf rfl ?_; clear hf a; intro a hf
  refine s_v hf (x_bin (hf.eval rfl) (hf.eval rfl) (r_lt _ _ _ _)) ?_; clear hf a; intro a hf
  refine s_nil ?_
  refine then_n ?_
  refine c_cond hf rfl (fun hi0 => ?_) (fun hi0 => ?_)
  · simp only [decide_eq_true_eq, decide_eq_false_iff_not, Bool.not_eq_true', Bool.not_eq_false', Bool.not_eq_true, Int.not_lt, Int.not_le] at hi0
    refine wp_region_lit ?_
    refine s_m hf rfl ?_; clear hf a; intro a hf
    refine s_v hf (x_nilCheck (hf.eval rfl)) ?_; clear hf a; intro a hf
    refine s_v hf (x_fieldAddr fo85_2 (hf.eval rfl)) ?_; clear hf a; intro a hf
    refine s_do0 hf rfl (y_store hs sc3 (hf.eval rfl) (hf.eval rfl) rfl (by first | exact .here _ | exact .there _ (.here _) | exact .there _ (.there _ (.here _)) | exact .there _ (.there _ (.there _ (.here _))) | exact .there _ (.there _ (.there _ (.there _ (.here _)))) | exact .there _ (.there _ (.there _ (.there _ (.there _ (.here _)))))) (by simp) ?_); clear hf hs a; intro w hs a hf
    refine s_nil ?_
    refine then_n ?_
    refine wp_seq ?_
    refine wp_region_lit ?_
    refine s_m hf rfl ?_; clear hf a; intro a hf
    refine s_a hf rfl ?_; clear hf a; intro a hf
    refine s_nil ?_
    refine then_n ?_
    refine wp_ret ?_
    refine r_1 hf Try.results30 rfl ?_
    first | (rw [if_pos hi0]; exact ⟨p, rfl, rbufA_close hs⟩) | (rw [if_neg (by omega)]; exact ⟨p, rfl, rbufA_close hs⟩)
  · simp only [decide_eq_true_eq, decide_eq_false_iff_not, Bool.not_eq_true', Bool.not_eq_false', Bool.not_eq_true, Int.not_lt, Int.not_le] at hi0
    refine wp_skip ?_
    refine then_n ?_
    refine wp_seq ?_
    refine wp_region_lit ?_
    refine s_m hf rfl ?_; clear hf a; intro a hf
    refine s_a hf rfl ?_; clear hf a; intro a hf
    refine s_nil ?_
    refine then_n ?_
    refine wp_ret ?_
    refine r_1 hf Try.results30 rfl ?_
    first | (rw [if_pos hi0]; exact ⟨p, rfl, rbufA_close hs⟩) | (rw [if_neg (by omega)]; exact ⟨p, rfl, rbufA_close hs⟩)

theorem bLen_spec (σ : Sig) (w : World) (R : List Asrt) (p : Nat) (data : List UInt8) (lim bad : Int) (hs : St σ w (bufA 83 5 p data lim bad :: R)) (hlim : bad = 0 → 0 ≤ lim) (hlim2 : lim ≤ 9223372036854775807) (hd : data.length ≤ 70368744177664) : Calls Try.prog 36 #[.pointer (some ⟨p, 0, none⟩)] w fun e w' => e = .returned (.int .i64 (data.length : Int)) ∧ St σ w' (bufA 83 5 p data lim bad :: R) := by
  obtain ⟨v0, hs⟩ := bufA_open hs
  obtain ⟨a0, c0, rfl, hc0⟩ := slB_shape (hs.take (.there _ (.here _)))
  refine c_enter (N := 10) Try.func36 rfl Try.ntmps36 (by simp) ?_
  intro a hf
  refine wp_seq ?_
  refine wp_region_lit ?_
  refine s_a hf rfl ?_; clear hf a; intro a hf
  refine s_nil ?_
  refine then_n ?_
  refine wp_seq ?_
  refine wp_seq ?_
  refine wp_region_lit ?_
  refine s_m hf rfl ?_; clear hf a; intro a hf
  refine s_v hf (x_eqNil Try.underlying49 (hf.eval rfl) (hf.eval rfl)) ?_; clear hf a; intro a hf
  replace hf := hf.now (k := 4) (v' := .bool false) rfl rfl
  refine s_nil ?_
  refine then_n ?_
  refine c_cond_f hf rfl rfl ?_
  refine wp_skip ?_
  refine then_n ?_
  refine wp_seq ?_
  refine wp_region_lit ?_
  refine s_m hf rfl ?_; clear hf a; intro a hf
  refine s_v hf (x_nilCheck (hf.eval rfl)) ?_; clear hf a; intro a hf
  refine s_v hf (x_fieldAddr fo83_0 (hf.eval rfl)) ?_; clear hf a; intro a hf
  refine s_r hf (x_load sc31 (hf.eval rfl) (by first | exact hs.cell (.here _) rfl | exact hs.cell (.there _ (.here _)) rfl | exact hs.cell (.there _ (.there _ (.here _))) rfl | exact hs.cell (.there _ (.there _ (.there _ (.here _)))) rfl | exact hs.cell (.there _ (.there _ (.there _ (.there _ (.here _))))) rfl | exact hs.cell (.there _ (.there _ (.there _ (.there _ (.there _ (.here _)))))) rfl)) ?_; clear hf a; intro a hf
  refine s_v hf (x_len Try.underlying31 (hf.eval rfl)) ?_; clear hf a; intro a hf
  refine s_a hf rfl ?_; clear hf a; intro a hf
  refine s_nil ?_
  refine then_n ?_
  refine wp_ret ?_
  refine r_1 hf Try.results36 rfl ?_
  exact ⟨rfl, bufA_close hs⟩

theorem bErr_spec (σ : Sig) (w : World) (R : List Asrt) (p : Nat) (data : List UInt8) (lim bad : Int) (hs : St σ w (bufA 83 5 p data lim bad :: R)) (hlim : bad = 0 → 0 ≤ lim) (hlim2 : lim ≤ 9223372036854775807) (hd : data.length ≤ 70368744177664) : Calls Try.prog 38 #[.pointer (some ⟨p, 0, none⟩)] w fun e w' => e = .returned (.int .i64 bad) ∧ St σ w' (bufA 83 5 p data lim bad :: R) := by
  obtain ⟨v0, hs⟩ := bufA_open hs
  obtain ⟨a0, c0, rfl, hc0⟩ := slB_shape (hs.take (.there _ (.here _)))
  refine c_enter (N := 9) Try.func38 rfl Try.ntmps38 (by simp) ?_
  intro a hf
  refine wp_seq ?_
  refine wp_region_lit ?_
  refine s_a hf rfl ?_; clear hf a; intro a hf
  refine s_nil ?_
  refine then_n ?_
  refine wp_seq ?_
  refine wp_seq ?_
  refine wp_region_lit ?_
  refine s_m hf rfl ?_; clear hf a; intro a hf
  refine s_v hf (x_eqNil Try.underlying49 (hf.eval rfl) (hf.eval rfl)) ?_; clear hf a; intro a hf
  replace hf := hf.now (k := 4) (v' := .bool false) rfl rfl
  refine s_nil ?_
  refine then_n ?_
  refine c_cond_f hf rfl rfl ?_
  refine wp_skip ?_
  refine then_n ?_
  refine wp_seq ?_
  refine wp_region_lit ?_
  refine s_m hf rfl ?_; clear hf a; intro a hf
  refine s_v hf (x_nilCheck (hf.eval rfl)) ?_; clear hf a; intro a hf
  refine s_v hf (x_fieldAddr fo83_2 (hf.eval rfl)) ?_; clear hf a; intro a hf
  refine s_r hf (x_load sc23 (hf.eval rfl) (by first | exact hs.cell (.here _) rfl | exact hs.cell (.there _ (.here _)) rfl | exact hs.cell (.there _ (.there _ (.here _))) rfl | exact hs.cell (.there _ (.there _ (.there _ (.here _)))) rfl | exact hs.cell (.there _ (.there _ (.there _ (.there _ (.here _))))) rfl | exact hs.cell (.there _ (.there _ (.there _ (.there _ (.there _ (.here _)))))) rfl)) ?_; clear hf a; intro a hf
  refine s_a hf rfl ?_; clear hf a; intro a hf
  refine s_nil ?_
  refine then_n ?_
  refine wp_ret ?_
  refine r_1 hf Try.results38 rfl ?_
  exact ⟨rfl, bufA_close hs⟩

theorem bTake_spec (σ : Sig) (w : World) (R : List Asrt) (p : Nat) (data : List UInt8) (lim bad : Int) (hs : St σ w (bufA 83 5 p data lim bad :: R)) (hlim : bad = 0 → 0 ≤ lim) (hlim2 : lim ≤ 9223372036854775807) (hd : data.length ≤ 70368744177664) : Calls Try.prog 31 #[.pointer (some ⟨p, 0, none⟩)] w fun e w' => ∃ aa c, e = .returned (.slice aa (takeB data bad).length c) ∧ St σ w' (slB 5 (.slice aa (takeB data bad).length c) (takeB data bad) :: bufA 83 5 p data lim bad :: R) := by
  obtain ⟨v0, hs⟩ := bufA_open hs
  obtain ⟨a0, c0, rfl, hc0⟩ := slB_shape (hs.take (.there _ (.here _)))
  refine c_enter (N := 17) Try.func31 rfl Try.ntmps31 (by simp) ?_
  intro a hf
  refine wp_seq ?_
  refine wp_region_lit ?_
  refine s_a hf rfl ?_; clear hf a; intro a hf
  refine s_nil ?_
  refine then_n ?_
  refine wp_seq ?_
  refine wp_seq ?_
  refine wp_region_lit ?_
  refine s_m hf rfl ?_; clear hf a; intro a hf
  refine s_v hf (x_eqNil Try.underlying49 (hf.eval rfl) (hf.eval rfl)) ?_; clear hf a; intro a hf
  replace hf := hf.now (k := 4) (v' := .bool false) rfl rfl
  refine s_m hf rfl ?_; clear hf a; intro a hf
  refine s_do hf (wanted_of hf rfl rfl rfl) (.value (x_move (hf.eval rfl) _) ?_); clear hf a; intro a hf
  refine s_do hf (wanted_of hf rfl rfl rfl) (.value (x_nilCheck (hf.eval rfl) _) ?_); clear hf a; intro a hf
  refine s_do hf (wanted_of hf rfl rfl rfl) (.value (x_fieldAddr fo83_2 (hf.eval rfl) _) ?_); clear hf a; intro a hf
  refine s_do hf (wanted_of hf rfl rfl rfl) (.value (x_load sc23 (hf.eval rfl) (by first | exact hs.cell (.here _) rfl | exact hs.cell (.there _ (.here _)) rfl | exact hs.cell (.there _ (.there _ (.here _))) rfl | exact hs.cell (.there _ (.there _ (.there _ (.here _)))) rfl | exact hs.cell (.there _ (.there _ (.there _ (.there _ (.here _))))) rfl | exact hs.cell (.there _ (.there _ (.there _ (.there _ (.there _ (.here _)))))) rfl)) ?_); clear hf a; intro a hf
  refine s_do hf (wanted_of hf rfl rfl rfl) (.value (x_bin (hf.eval rfl) (hf.eval rfl) (r_ne _ _ _ _) _) ?_); clear hf a; intro a hf
  refine s_v hf (x_pick_f (hf.eval rfl) (hf.eval rfl)) ?_; clear hf a; intro a hf
  refine s_nil ?_
  refine then_n ?_
  refine c_cond hf rfl (fun hi0 => ?_) (fun hi0 => ?_)
  · simp only [decide_eq_true_eq, decide_eq_false_iff_not, Bool.not_eq_true', Bool.not_eq_false', Bool.not_eq_true, Int.not_lt, Int.not_le] at hi0
    refine wp_seq ?_
    refine wp_region_lit ?_
    refine s_a hf rfl ?_; clear hf a; intro a hf
    refine s_nil ?_
    refine then_n ?_
    refine wp_ret ?_
    refine then_r ?_
    refine r_1 hf Try.results31 rfl ?_
    have hN : takeB data bad = [] := by unfold takeB; rw [if_pos (by simpa using hi0)]
    rw [hN]
    exact ⟨none, 0, rfl, (bufA_close hs).emp (slB_nil _)⟩
  · simp only [decide_eq_true_eq, decide_eq_false_iff_not, Bool.not_eq_true', Bool.not_eq_false', Bool.not_eq_true, Int.not_lt, Int.not_le] at hi0
    have hb : bad = 0 := by simpa using hi0
    subst hb
    have hl0 := hlim rfl
    refine wp_skip ?_
    refine then_n ?_
    refine wp_seq ?_
    refine wp_region_lit ?_
    refine s_m hf rfl ?_; clear hf a; intro a hf
    refine s_v hf (x_nilCheck (hf.eval rfl)) ?_; clear hf a; intro a hf
    refine s_v hf (x_fieldAddr fo83_0 (hf.eval rfl)) ?_; clear hf a; intro a hf
    refine s_r hf (x_load sc31 (hf.eval rfl) (by first | exact hs.cell (.here _) rfl | exact hs.cell (.there _ (.here _)) rfl | exact hs.cell (.there _ (.there _ (.here _))) rfl | exact hs.cell (.there _ (.there _ (.there _ (.here _)))) rfl | exact hs.cell (.there _ (.there _ (.there _ (.there _ (.here _))))) rfl | exact hs.cell (.there _ (.there _ (.there _ (.there _ (.there _ (.here _)))))) rfl)) ?_; clear hf a; intro a hf
    refine s_do hf rfl (y_appendB (s := data) (hs.emp (slB_nil 5)) sl31 rfl (hf.eval rfl) (hf.eval rfl) (.here _) (hs.rdB (.there _ (.here _)) fun h => slB_rd) (by simp; omega) ?_); clear hf hs a; intro v2 w hs hv a hf
    simp only [List.nil_append] at hs
    obtain ⟨a2, c2, rfl, hc2⟩ := slB_shape hs
    refine s_a hf rfl ?_; clear hf a; intro a hf
    refine s_nil ?_
    refine then_n ?_
    refine wp_ret ?_
    refine r_1 hf Try.results31 rfl ?_
    have hN : takeB data 0 = data := by unfold takeB; rw [if_neg (by simp)]
    rw [hN]
    refine ⟨_, _, rfl, ?_⟩
    exact (bufA_close (hs.take (.there _ (.here _)) |>.take (.there _ (.there _ (.here _))) |>.take (.there _ (.here _)))).take (.there _ (.here _))

theorem refBLen_spec (σ : Sig) (w : World) (R : List Asrt) (p : Nat) (data : List UInt8) (lim bad : Int) (hs : St σ w (rbufA 85 5 p data lim bad :: R)) (hlim : bad = 0 → 0 ≤ lim) (hlim2 : lim ≤ 9223372036854775807) (hd : data.length ≤ 70368744177664) : Calls Try.prog 37 #[.pointer (some ⟨p, 0, none⟩)] w fun e w' => e = .returned (.int .i64 (data.length : Int)) ∧ St σ w' (rbufA 85 5 p data lim bad :: R) := by
  obtain ⟨v0, hs⟩ := rbufA_open hs
  obtain ⟨a0, c0, rfl, hc0⟩ := slB_shape (hs.take (.there _ (.here _)))
  refine c_enter (N := 8) Try.func37 rfl Try.ntmps37 (by simp) ?_
  intro a hf
  refine wp_seq ?_
  refine wp_region_lit ?_
  refine s_a hf rfl ?_; clear hf a; intro a hf
  refine s_nil ?_
  refine then_n ?_
  refine wp_seq ?_
  refine wp_region_lit ?_
  refine s_m hf rfl ?_; clear hf a; intro a hf
  refine s_v hf (x_nilCheck (hf.eval rfl)) ?_; clear hf a; intro a hf
  refine s_v hf (x_fieldAddr fo85_1 (hf.eval rfl)) ?_; clear hf a; intro a hf
  refine s_r hf (x_load sc31 (hf.eval rfl) (by first | exact hs.cell (.here _) rfl | exact hs.cell (.there _ (.here _)) rfl | exact hs.cell (.there _ (.there _ (.here _))) rfl | exact hs.cell (.there _ (.there _ (.there _ (.here _)))) rfl | exact hs.cell (.there _ (.there _ (.there _ (.there _ (.here _))))) rfl | exact hs.cell (.there _ (.there _ (.there _ (.there _ (.there _ (.here _)))))) rfl)) ?_; clear hf a; intro a hf
  refine s_v hf (x_len Try.underlying31 (hf.eval rfl)) ?_; clear hf a; intro a hf
  refine s_a hf rfl ?_; clear hf a; intro a hf
  refine s_nil ?_
  refine then_n ?_
  refine wp_ret ?_
  refine r_1 hf Try.results37 rfl ?_
  exact ⟨rfl, rbufA_close hs⟩

theorem refBErr_spec (σ : Sig) (w : World) (R : List Asrt) (p : Nat) (data : List UInt8) (lim bad : Int) (hs : St σ w (rbufA 85 5 p data lim bad :: R)) (hlim : bad = 0 → 0 ≤ lim) (hlim2 : lim ≤ 9223372036854775807) (hd : data.length ≤ 70368744177664) : Calls Try.prog 39 #[.pointer (some ⟨p, 0, none⟩)] w fun e w' => e = .returned (.int .i64 bad) ∧ St σ w' (rbufA 85 5 p data lim bad :: R) := by
  obtain ⟨v0, hs⟩ := rbufA_open hs
  obtain ⟨a0, c0, rfl, hc0⟩ := slB_shape (hs.take (.there _ (.here _)))
  refine c_enter (N := 7) Try.func39 rfl Try.ntmps39 (by simp) ?_
  intro a hf
  refine wp_seq ?_
  refine wp_region_lit ?_
  refine s_a hf rfl ?_; clear hf a; intro a hf
  refine s_nil ?_
  refine then_n ?_
  refine wp_seq ?_
  refine wp_region_lit ?_
  refine s_m hf rfl ?_; clear hf a; intro a hf
  refine s_v hf (x_nilCheck (hf.eval rfl)) ?_; clear hf a; intro a hf
  refine s_v hf (x_fieldAddr fo85_2 (hf.eval rfl)) ?_; clear hf a; intro a hf
  refine s_r hf (x_load sc3 (hf.eval rfl) (by first | exact hs.cell (.here _) rfl | exact hs.cell (.there _ (.here _)) rfl | exact hs.cell (.there _ (.there _ (.here _))) rfl | exact hs.cell (.there _ (.there _ (.there _ (.here _)))) rfl | exact hs.cell (.there _ (.there _ (.there _ (.there _ (.here _))))) rfl | exact hs.cell (.there _ (.there _ (.there _ (.there _ (.there _ (.here _)))))) rfl)) ?_; clear hf a; intro a hf
  refine s_a hf rfl ?_; clear hf a; intro a hf
  refine s_nil ?_
  refine then_n ?_
  refine wp_ret ?_
  refine r_1 hf Try.results39 rfl ?_
  exact ⟨rfl, rbufA_close hs⟩

theorem refBTake_spec (σ : Sig) (w : World) (R : List Asrt) (p : Nat) (data : List UInt8) (lim bad : Int) (hs : St σ w (rbufA 85 5 p data lim bad :: R)) (hlim : bad = 0 → 0 ≤ lim) (hlim2 : lim ≤ 9223372036854775807) (hd : data.length ≤ 70368744177664) : Calls Try.prog 32 #[.pointer (some ⟨p, 0, none⟩)] w fun e w' => ∃ aa c, e = .returned (.slice aa (takeB data bad).length c) ∧ St σ w' (slB 5 (.slice aa (takeB data bad).length c) (takeB data bad) :: rbufA 85 5 p data lim bad :: R) := by
  obtain ⟨v0, hs⟩ := rbufA_open hs
  obtain ⟨a0, c0, rfl, hc0⟩ := slB_shape (hs.take (.there _ (.here _)))
  refine c_enter (N := 17) Try.func32 rfl Try.ntmps32 (by simp) ?_
  intro a hf
  refine wp_seq ?_
  refine wp_region_lit ?_
  refine s_a hf rfl ?_; clear hf a; intro a hf
  refine s_nil ?_
  refine then_n ?_
  refine wp_seq ?_
  refine wp_region_lit ?_
  refine s_a hf rfl ?_; clear hf a; intro a hf
  refine s_nil ?_
  refine then_n ?_
  refine wp_seq ?_
  refine wp_seq ?_
  refine wp_region_lit ?_
  refine s_m hf rfl ?_; clear hf a; intro a hf
  refine s_v hf (x_nilCheck (hf.eval rfl)) ?_; clear hf a; intro a hf
  refine s_v hf (x_fieldAddr fo85_2 (hf.eval rfl)) ?_; clear hf a; intro a hf
  refine s_r hf (x_load sc3 (hf.eval rfl) (by first | exact hs.cell (.here _) rfl | exact hs.cell (.there _ (.here _)) rfl | exact hs.cell (.there _ (.there _ (.here _))) rfl | exact hs.cell (.there _ (.there _ (.there _ (.here _)))) rfl | exact hs.cell (.there _ (.there _ (.there _ (.there _ (.here _))))) rfl | exact hs.cell (.there _ (.there _ (.there _ (.there _ (.there _ (.here _)))))) rfl)) ?_; clear hf a; intro a hf
  refine s_v hf (x_bin (hf.eval rfl) (hf.eval rfl) (r_ne _ _ _ _)) ?_; clear hf a; intro a hf
  refine s_nil ?_
  refine then_n ?_
  refine c_cond hf rfl (fun hi0 => ?_) (fun hi0 => ?_)
  · simp only [decide_eq_true_eq, decide_eq_false_iff_not, Bool.not_eq_true', Bool.not_eq_false', Bool.not_eq_true, Int.not_lt, Int.not_le] at hi0
    refine wp_seq ?_
    refine wp_region_lit ?_
    refine s_m hf rfl ?_; clear hf a; intro a hf
    refine s_a hf rfl ?_; clear hf a; intro a hf
    refine s_nil ?_
    refine then_n ?_
    refine wp_ret ?_
    refine then_r ?_
    refine r_1 hf Try.results32 rfl ?_
    have hN : takeB data bad = [] := by unfold takeB; rw [if_pos (by simpa using hi0)]
    rw [hN]
    exact ⟨none, 0, rfl, (rbufA_close hs).emp (slB_nil _)⟩
  · simp only [decide_eq_true_eq, decide_eq_false_iff_not, Bool.not_eq_true', Bool.not_eq_false', Bool.not_eq_true, Int.not_lt, Int.not_le] at hi0
    have hb : bad = 0 := by simpa using hi0
    subst hb
    have hl0 := hlim rfl
    refine wp_skip ?_
    refine then_n ?_
    refine wp_seq ?_
    refine wp_region_lit ?_
    refine s_m hf rfl ?_; clear hf a; intro a hf
    refine s_m hf rfl ?_; clear hf a; intro a hf
    refine s_v hf (x_nilCheck (hf.eval rfl)) ?_; clear hf a; intro a hf
    refine s_v hf (x_fieldAddr fo85_1 (hf.eval rfl)) ?_; clear hf a; intro a hf
    refine s_r hf (x_load sc31 (hf.eval rfl) (by first | exact hs.cell (.here _) rfl | exact hs.cell (.there _ (.here _)) rfl | exact hs.cell (.there _ (.there _ (.here _))) rfl | exact hs.cell (.there _ (.there _ (.there _ (.here _)))) rfl | exact hs.cell (.there _ (.there _ (.there _ (.there _ (.here _))))) rfl | exact hs.cell (.there _ (.there _ (.there _ (.there _ (.there _ (.here _)))))) rfl)) ?_; clear hf a; intro a hf
    refine s_do hf rfl (y_appendB (s := data) (hs.emp (slB_nil 5)) sl31 rfl (hf.eval rfl) (hf.eval rfl) (.here _) (hs.rdB (.there _ (.here _)) fun h => slB_rd) (by simp; omega) ?_); clear hf hs a; intro v2 w hs hv a hf
    simp only [List.nil_append] at hs
    obtain ⟨a2, c2, rfl, hc2⟩ := slB_shape hs
    refine s_a hf rfl ?_; clear hf a; intro a hf
    refine s_nil ?_
    refine then_n ?_
    refine wp_seq ?_
    refine wp_region_lit ?_
    refine s_m hf rfl ?_; clear hf a; intro a hf
    refine s_a hf rfl ?_; clear hf a; intro a hf
    refine s_nil ?_
    refine then_n ?_
    refine wp_ret ?_
    refine r_1 hf Try.results32 rfl ?_
    have hN : takeB data 0 = data := by unfold takeB; rw [if_neg (by simp)]
    rw [hN]
    refine ⟨_, _, rfl, ?_⟩
    exact (rbufA_close (hs.take (.there _ (.here _)) |>.take (.there _ (.there _ (.here _))) |>.take (.there _ (.here _)))).take (.there _ (.here _))

theorem bnumber_spec (σ : Sig) (w : World) (R : List Asrt) (p : Nat) (data : List UInt8) (lim bad : Int) (hs : St σ w (bufA 83 5 p data lim bad :: R)) (hlim : bad = 0 → 0 ≤ lim) (hlim2 : lim ≤ 9223372036854775807) (hd : data.length ≤ 70368744177664) (v : Int) (n : Nat) (hn : n ≤ 4) : Calls Try.prog 72 #[.pointer (some ⟨p, 0, none⟩), .int .i64 v, .int .i64 (n : Int)] w fun e w' => e = .returned (.tuple #[]) ∧ St σ w' (bufA 83 5 p (numB data lim bad v n).1 lim (numB data lim bad v n).2 :: R) := by
  obtain ⟨v0, hs⟩ := bufA_open hs
  obtain ⟨a0, c0, rfl, hc0⟩ := slB_shape (hs.take (.there _ (.here _)))
  refine c_enter (N := 59) Try.func72 rfl Try.ntmps72 (by simp) ?_
  intro a hf
  refine wp_seq ?_
  refine wp_seq ?_
  refine wp_region_lit ?_
  refine s_m hf rfl ?_; clear hf a; intro a hf
  refine s_v hf (x_eqNil Try.underlying49 (hf.eval rfl) (hf.eval rfl)) ?_; clear hf a; intro a hf
  replace hf := hf.now (k := 7) (v' := .bool false) rfl rfl
  refine s_m hf rfl ?_; clear hf a; intro a hf
  refine s_do hf (wanted_of hf rfl rfl rfl) (.value (x_move (hf.eval rfl) _) ?_); clear hf a; intro a hf
  refine s_do hf (wanted_of hf rfl rfl rfl) (.value (x_nilCheck (hf.eval rfl) _) ?_); clear hf a; intro a hf
  refine s_do hf (wanted_of hf rfl rfl rfl) (.value (x_fieldAddr fo83_2 (hf.eval rfl) _) ?_); clear hf a; intro a hf
  refine s_do hf (wanted_of hf rfl rfl rfl) (.value (x_load sc23 (hf.eval rfl) (by first | exact hs.cell (.here _) rfl | exact hs.cell (.there _ (.here _)) rfl | exact hs.cell (.there _ (.there _ (.here _))) rfl | exact hs.cell (.there _ (.there _ (.there _ (.here _)))) rfl | exact hs.cell (.there _ (.there _ (.there _ (.there _ (.here _))))) rfl | exact hs.cell (.there _ (.there _ (.there _ (.there _ (.there _ (.here _)))))) rfl)) ?_); clear hf a; intro a hf
  refine s_do hf (wanted_of hf rfl rfl rfl) (.value (x_bin (hf.eval rfl) (hf.eval rfl) (r_ne _ _ _ _) _) ?_); clear hf a; intro a hf
  refine s_v hf (x_pick_f (hf.eval rfl) (hf.eval rfl)) ?_; clear hf a; intro a hf
  refine s_nil ?_
  refine then_n ?_
  refine c_cond hf rfl (fun hi0 => ?_) (fun hi0 => ?_)
  · simp only [decide_eq_true_eq, decide_eq_false_iff_not, Bool.not_eq_true', Bool.not_eq_false', Bool.not_eq_true, Int.not_lt, Int.not_le] at hi0
    refine wp_ret ?_
    refine then_r ?_
    refine r_0 hf Try.results72 ?_
    have hN : numB data lim bad v n = (data, bad) := by unfold numB; rw [if_pos (by simpa using hi0)]
    rw [hN]
    exact ⟨rfl, bufA_close hs⟩
  · simp only [decide_eq_true_eq, decide_eq_false_iff_not, Bool.not_eq_true', Bool.not_eq_false', Bool.not_eq_true, Int.not_lt, Int.not_le] at hi0
    have hb : bad = 0 := by simpa using hi0
    subst hb
    have hl0 := hlim rfl
    refine wp_skip ?_
    refine then_n ?_
    refine wp_seq ?_
    refine wp_seq ?_
    refine wp_region_lit ?_
    refine s_m hf rfl ?_; clear hf a; intro a hf
    refine s_v hf (x_bin (hf.eval rfl) (hf.eval rfl) (r_lt _ _ _ _)) ?_; clear hf a; intro a hf
    refine s_m hf rfl ?_; clear hf a; intro a hf
    refine s_bool hf (k := 17) rfl (fun hg1_2 hf' => ?_) (fun hg1_2 hf' => ?_)
    · clear hf
      have hf := hf'
      clear hf'
      simp only [decide_eq_true_eq, decide_eq_false_iff_not, Bool.not_eq_true', Bool.not_eq_false', Bool.not_eq_true, Int.not_lt, Int.not_le] at hg1_2
      refine s_pass hf rfl rfl ?_; clear hf a; intro a hf
      refine s_pass hf rfl rfl ?_; clear hf a; intro a hf
      refine s_pass hf rfl rfl ?_; clear hf a; intro a hf
      refine s_pass hf rfl rfl ?_; clear hf a; intro a hf
      refine s_pass hf rfl rfl ?_; clear hf a; intro a hf
      refine s_v hf (x_pick_t (hf.eval rfl) (hf.eval rfl)) ?_; clear hf a; intro a hf
      refine s_nil ?_
      refine then_n ?_
      refine c_cond_t hf rfl rfl ?_
      refine wp_seq ?_
      refine wp_region_lit ?_
      refine s_m hf rfl ?_; clear hf a; intro a hf
      refine s_v hf (x_nilCheck (hf.eval rfl)) ?_; clear hf a; intro a hf
      refine s_v hf (x_fieldAddr fo83_2 (hf.eval rfl)) ?_; clear hf a; intro a hf
      refine s_do0 hf rfl (y_store hs sc23 (hf.eval rfl) (hf.eval rfl) rfl (by first | exact .here _ | exact .there _ (.here _) | exact .there _ (.there _ (.here _)) | exact .there _ (.there _ (.there _ (.here _))) | exact .there _ (.there _ (.there _ (.there _ (.here _)))) | exact .there _ (.there _ (.there _ (.there _ (.there _ (.here _)))))) (by simp) ?_); clear hf hs a; intro w hs a hf
      refine s_nil ?_
      refine then_n ?_
      refine wp_ret ?_
      refine then_r ?_
      refine r_0 hf Try.results72 ?_
      have hN : numB data lim 0 v n = (data, 21) := by unfold numB; rw [if_neg (by simp), if_pos (by omega)]
      rw [hN]
      exact ⟨rfl, bufA_close hs⟩
    · clear hf
      have hf := hf'
      clear hf'
      simp only [decide_eq_true_eq, decide_eq_false_iff_not, Bool.not_eq_true', Bool.not_eq_false', Bool.not_eq_true, Int.not_lt, Int.not_le] at hg1_2
      refine s_do hf (wanted_of hf rfl rfl rfl) (.value (x_move (hf.eval rfl) _) ?_); clear hf a; intro a hf
      refine s_do hf (wanted_of hf rfl rfl rfl) (.value (x_move (hf.eval rfl) _) ?_); clear hf a; intro a hf
      refine s_do hf (wanted_of hf rfl rfl rfl) (.value (x_bin (hf.eval rfl) (hf.eval rfl) (r_muli _ (by omega) (by omega)) _) ?_); clear hf a; intro a hf
      refine s_do hf (wanted_of hf rfl rfl rfl) (.value (x_bin (hf.eval rfl) (hf.eval rfl) (r_shl256 _ hn) _) ?_); clear hf a; intro a hf
      refine s_do hf (wanted_of hf rfl rfl rfl) (.value (x_bin (hf.eval rfl) (hf.eval rfl) (r_ge _ _ _ _) _) ?_); clear hf a; intro a hf
      refine s_v hf (x_pick_f (hf.eval rfl) (hf.eval rfl)) ?_; clear hf a; intro a hf
      refine s_nil ?_
      refine then_n ?_
      refine c_cond hf rfl (fun hi1 => ?_) (fun hi1 => ?_)
      · simp only [decide_eq_true_eq, decide_eq_false_iff_not, Bool.not_eq_true', Bool.not_eq_false', Bool.not_eq_true, Int.not_lt, Int.not_le] at hi1
        refine wp_seq ?_
        refine wp_region_lit ?_
        refine s_m hf rfl ?_; clear hf a; intro a hf
        refine s_v hf (x_nilCheck (hf.eval rfl)) ?_; clear hf a; intro a hf
        refine s_v hf (x_fieldAddr fo83_2 (hf.eval rfl)) ?_; clear hf a; intro a hf
        refine s_do0 hf rfl (y_store hs sc23 (hf.eval rfl) (hf.eval rfl) rfl (by first | exact .here _ | exact .there _ (.here _) | exact .there _ (.there _ (.here _)) | exact .there _ (.there _ (.there _ (.here _))) | exact .there _ (.there _ (.there _ (.there _ (.here _)))) | exact .there _ (.there _ (.there _ (.there _ (.there _ (.here _)))))) (by simp) ?_); clear hf hs a; intro w hs a hf
        refine s_nil ?_
        refine then_n ?_
        refine wp_ret ?_
        refine then_r ?_
        refine r_0 hf Try.results72 ?_
        have hN : numB data lim 0 v n = (data, 21) := by unfold numB; rw [if_neg (by simp), if_pos (by omega)]
        rw [hN]
        exact ⟨rfl, bufA_close hs⟩
      · simp only [decide_eq_true_eq, decide_eq_false_iff_not, Bool.not_eq_true', Bool.not_eq_false', Bool.not_eq_true, Int.not_lt, Int.not_le] at hi1
        refine wp_skip ?_
        refine then_n ?_
        refine wp_seq ?_
        refine wp_seq ?_
        refine c_draw hs (fun _ => True) [.held, .held, .held, .held, .read, .held, .held, .held, .read, .held, .held, .held] (by kernel_rfl) (by kernel_rfl) (fun _ _ _ => trivial) ?_
        clear hs; intro w hs hC hw
        refine m_held hf rfl (fun w' _ => x_move (hf.eval rfl) w') ?_; clear hf a; intro a hf
        refine m_held hf rfl (fun w' _ => x_move (hf.eval rfl) w') ?_; clear hf a; intro a hf
        refine m_held hf rfl (fun w' _ => x_nilCheck (hf.eval rfl) w') ?_; clear hf a; intro a hf
        refine m_held hf rfl (fun w' _ => x_fieldAddr fo83_1 (hf.eval rfl) w') ?_; clear hf a; intro a hf
        refine m_read hf rfl (x_load sc3 (hf.eval rfl) (by first | exact hs.cell (.here _) rfl | exact hs.cell (.there _ (.here _)) rfl | exact hs.cell (.there _ (.there _ (.here _))) rfl | exact hs.cell (.there _ (.there _ (.there _ (.here _)))) rfl | exact hs.cell (.there _ (.there _ (.there _ (.there _ (.here _))))) rfl | exact hs.cell (.there _ (.there _ (.there _ (.there _ (.there _ (.here _)))))) rfl)) ?_; clear hf a; intro a hf
        refine m_held hf rfl (fun w' _ => x_move (hf.eval rfl) w') ?_; clear hf a; intro a hf
        refine m_held hf rfl (fun w' _ => x_nilCheck (hf.eval rfl) w') ?_; clear hf a; intro a hf
        refine m_held hf rfl (fun w' _ => x_fieldAddr fo83_0 (hf.eval rfl) w') ?_; clear hf a; intro a hf
        refine m_read hf rfl (x_load sc31 (hf.eval rfl) (by first | exact hs.cell (.here _) rfl | exact hs.cell (.there _ (.here _)) rfl | exact hs.cell (.there _ (.there _ (.here _))) rfl | exact hs.cell (.there _ (.there _ (.there _ (.here _)))) rfl | exact hs.cell (.there _ (.there _ (.there _ (.there _ (.here _))))) rfl | exact hs.cell (.there _ (.there _ (.there _ (.there _ (.there _ (.here _)))))) rfl)) ?_; clear hf a; intro a hf
        refine m_held hf rfl (fun w' _ => x_len Try.underlying31 (hf.eval rfl) w') ?_; clear hf a; intro a hf
        refine m_held hf rfl (fun w' _ => x_bin (hf.eval rfl) (hf.eval rfl) (r_subi _ (by omega) (by omega)) w') ?_; clear hf a; intro a hf
        refine m_held hf rfl (fun w' _ => x_bin (hf.eval rfl) (hf.eval rfl) (r_gt _ _ _ _) w') ?_; clear hf a; intro a hf
        refine m_nil ?_
        refine then_n ?_
        refine c_cond hf rfl (fun hi2 => ?_) (fun hi2 => ?_)
        · simp only [decide_eq_true_eq, decide_eq_false_iff_not, Bool.not_eq_true', Bool.not_eq_false', Bool.not_eq_true, Int.not_lt, Int.not_le] at hi2
          refine wp_seq ?_
          refine wp_region_lit ?_
          refine s_m hf rfl ?_; clear hf a; intro a hf
          refine s_v hf (x_nilCheck (hf.eval rfl)) ?_; clear hf a; intro a hf
          refine s_v hf (x_fieldAddr fo83_2 (hf.eval rfl)) ?_; clear hf a; intro a hf
          refine s_do0 hf rfl (y_store hs sc23 (hf.eval rfl) (hf.eval rfl) rfl (by first | exact .here _ | exact .there _ (.here _) | exact .there _ (.there _ (.here _)) | exact .there _ (.there _ (.there _ (.here _))) | exact .there _ (.there _ (.there _ (.there _ (.here _)))) | exact .there _ (.there _ (.there _ (.there _ (.there _ (.here _)))))) (by simp) ?_); clear hf hs a; intro w hs a hf
          refine s_nil ?_
          refine then_n ?_
          refine wp_ret ?_
          refine then_r ?_
          refine r_0 hf Try.results72 ?_
          have hN : numB data lim 0 v n = (data, 22) := by unfold numB; rw [if_neg (by simp), if_neg (by omega), if_pos (by omega)]
          rw [hN]
          exact ⟨rfl, bufA_close hs⟩
        · simp only [decide_eq_true_eq, decide_eq_false_iff_not, Bool.not_eq_true', Bool.not_eq_false', Bool.not_eq_true, Int.not_lt, Int.not_le] at hi2
          obtain ⟨V, rfl⟩ := Int.eq_ofNat_of_zero_le (show 0 ≤ v by omega)
          refine wp_skip ?_
          refine then_n ?_
          refine wp_seq ?_
          refine wp_region_lit ?_
          refine s_m hf rfl ?_; clear hf a; intro a hf
          refine s_m hf rfl ?_; clear hf a; intro a hf
          refine s_nil ?_
          refine then_n ?_
          refine wp_block ?_
          refine c_loop (L0 := [(0, _), (42, _)]) (fun M w m => ∃ (j : Nat) (a1 : Option Addr) (c1 : Nat), M = [(1, .int .i64 ((V / 256 ^ j : Nat) : Int)), (43, .int .i64 (j : Int))] ∧ n - j = m ∧ j ≤ n ∧ St σ w (cb p 83 [.slice a1 (data.length + j) c1, .int .i64 lim, .int .i64 0] :: slB 5 (.slice a1 (data.length + j) c1) (data ++ leB j V) :: R)) (M0 := [(1, .int .i64 (V : Int)), (43, .int .i64 0)]) (⟨0, a0, c0, by rw [Nat.pow_zero, Nat.div_one]; rfl, rfl, Nat.zero_le _, by simpa [leB] using hs⟩) (hf.sub ⟨rfl, rfl, rfl, rfl, trivial⟩) ?_
          clear hf hs a
          rintro M m a w ⟨j, a1, c1, rfl, rfl, hj, hs⟩ hf
          refine wp_seq ?_
          refine wp_region_lit ?_
          refine s_v hf (x_bin (hf.eval rfl) (hf.eval rfl) (r_lt _ _ _ _)) ?_; clear hf a; intro a hf
          refine s_nil ?_
          refine then_n ?_
          refine wp_seq ?_
          refine c_cond hf rfl (fun hi3 => ?_) (fun hi3 => ?_)
          · simp only [decide_eq_true_eq, decide_eq_false_iff_not, Bool.not_eq_true', Bool.not_eq_false', Bool.not_eq_true, Int.not_lt, Int.not_le] at hi3
            refine wp_skip ?_
            refine then_n ?_
            refine wp_seq ?_
            refine wp_block ?_
            refine wp_seq ?_
            refine wp_region_lit ?_
            refine s_m hf rfl ?_; clear hf a; intro a hf
            refine s_m hf rfl ?_; clear hf a; intro a hf
            refine s_v hf (x_nilCheck (hf.eval rfl)) ?_; clear hf a; intro a hf
            refine s_v hf (x_fieldAddr fo83_0 (hf.eval rfl)) ?_; clear hf a; intro a hf
            refine s_r hf (x_load sc31 (hf.eval rfl) (by first | exact hs.cell (.here _) rfl | exact hs.cell (.there _ (.here _)) rfl | exact hs.cell (.there _ (.there _ (.here _))) rfl | exact hs.cell (.there _ (.there _ (.there _ (.here _)))) rfl | exact hs.cell (.there _ (.there _ (.there _ (.there _ (.here _))))) rfl | exact hs.cell (.there _ (.there _ (.there _ (.there _ (.there _ (.here _)))))) rfl)) ?_; clear hf a; intro a hf
            refine s_m hf rfl ?_; clear hf a; intro a hf
            refine s_v hf (x_convr Try.underlying3 Try.underlying5 (hf.eval rfl) (u8_of .i64 rfl _)) ?_; clear hf a; intro a hf
            replace hf := hf.now (k := 51) (v' := u8v (UInt8.ofNat (V / 256 ^ j % 256))) rfl (rfl)
            refine s_do hf rfl (y_lit (xs := [.tmp 51]) hs sl31 (hf.evals rfl) rfl (by simp [Value.cells, u8v]) (by decide) ?_); clear hf hs a; intro b2 w hs a hf
            refine s_do hf rfl (y_appendB (s := [UInt8.ofNat (V / 256 ^ j % 256)]) hs sl31 rfl (hf.eval rfl) (hf.eval rfl) (.there _ (.there _ (.here _))) (hs.rdB (.here _) fun h hb => rdB_of_bb (T := 5) (l := [UInt8.ofNat (V / 256 ^ j % 256)]) hb (by simp) (by simp)) (by simp [leB_len]; omega) ?_); clear hf hs a; intro v2 w hs hv a hf
            replace hs := (hs.lose (.there _ (.here _))).take (.there _ (.here _))
            have he : data ++ leB j V ++ [UInt8.ofNat (V / 256 ^ j % 256)] = data ++ leB (j + 1) V := by rw [List.append_assoc, ← leB_succ]
            rw [he] at hs
            obtain ⟨a2, c2, rfl, hc2⟩ := slB_shape (hs.take (.there _ (.here _)))
            have hle : (data ++ leB (j + 1) V).length = data.length + (j + 1) := by simp [leB_len]
            rw [hle] at hs hf
            refine s_v hf (x_nilCheck (hf.eval rfl)) ?_; clear hf a; intro a hf
            refine s_v hf (x_fieldAddr fo83_0 (hf.eval rfl)) ?_; clear hf a; intro a hf
            refine s_do0 hf rfl (y_store hs sc31 (hf.eval rfl) (hf.eval rfl) rfl (by first | exact .here _ | exact .there _ (.here _) | exact .there _ (.there _ (.here _)) | exact .there _ (.there _ (.there _ (.here _))) | exact .there _ (.there _ (.there _ (.there _ (.here _)))) | exact .there _ (.there _ (.there _ (.there _ (.there _ (.here _)))))) (by simp) ?_); clear hf hs a; intro w hs a hf
            refine s_nil ?_
            refine then_n ?_
            refine wp_region_lit ?_
            refine s_m hf rfl ?_; clear hf a; intro a hf
            refine s_v hf (x_bin (hf.eval rfl) (hf.eval rfl) (r_shr_i64 _ (j := 8) (by omega))) ?_; clear hf a; intro a hf
            replace hf := hf.now (k := 57) (v' := .int .i64 ((V / 256 ^ (j + 1) : Nat) : Int)) rfl (by rw [Nat.div_div_eq_div_mul, show (2 : Nat) ^ 8 = 256 by decide, show 256 ^ (j + 1) = 256 ^ j * 256 from Nat.pow_succ _ _])
            refine s_a hf rfl ?_; clear hf a; intro a hf
            refine s_nil ?_
            refine blk_n ?_
            refine then_n ?_
            refine wp_region_lit ?_
            refine s_v hf (x_bin (hf.eval rfl) (hf.eval rfl) (r_addi _ (by omega) (by omega))) ?_; clear hf a; intro a hf
            refine s_m hf rfl ?_; clear hf a; intro a hf
            refine s_nil ?_
            exact ⟨_, _, ⟨j + 1, a2, c2, rfl, rfl, by omega, hs⟩, by omega, hf.sub ⟨rfl, rfl, rfl, rfl, trivial⟩⟩
          · simp only [decide_eq_true_eq, decide_eq_false_iff_not, Bool.not_eq_true', Bool.not_eq_false', Bool.not_eq_true, Int.not_lt, Int.not_le] at hi3
            refine wp_exit ?_
            refine then_x ?_
            refine then_x ?_
            refine blk_x ?_
            refine r_0n hf Try.results72 ?_
            obtain rfl : n = j := by omega
            have hN : numB data lim 0 (V : Int) n = (data ++ leB n V, 0) := by unfold numB; rw [if_neg (by simp), if_neg (by omega), if_neg (by omega), Int.toNat_natCast]
            rw [hN]
            exact ⟨rfl, bufA_close hs⟩

theorem greatest_spec (w0 : World) (n : Nat) (hn : n ≤ 4) : Calls Try.prog 77 #[.int .i64 (n : Int)] w0 fun e w' => e = .returned (.int .i64 (((256 ^ n : Nat) : Int) - 1)) ∧ Kept w0 w' None_ := by
  have hs := St.start w0 None_
  refine c_enter (N := 14) Try.func77 rfl Try.ntmps77 (by simp) ?_
  intro a hf
  refine wp_seq ?_
  refine wp_region_lit ?_
  refine s_a hf rfl ?_; clear hf a; intro a hf
  refine s_nil ?_
  refine then_n ?_
  refine wp_seq ?_
  refine wp_region_lit ?_
  refine s_a hf rfl ?_; clear hf a; intro a hf
  refine s_nil ?_
  refine then_n ?_
  refine wp_seq ?_
  refine wp_seq ?_
  refine wp_region_lit ?_
  refine s_a hf rfl ?_; clear hf a; intro a hf
  refine s_nil ?_
  refine then_n ?_
  refine wp_block ?_
  refine c_loop (L0 := [(0, _), (2, _)]) (fun M w m => ∃ i : Nat, M = [(3, .int .i64 ((256 ^ i : Nat) : Int)), (4, .int .i64 (i : Int))] ∧ n - i = m ∧ i ≤ n ∧ St ⟨w0, None_⟩ w []) (M0 := [(3, .int .i64 1), (4, .int .i64 0)]) (⟨0, rfl, rfl, Nat.zero_le _, hs⟩) (hf.sub ⟨rfl, rfl, rfl, rfl, trivial⟩) ?_
  clear hf hs a
  rintro M m a w ⟨i, rfl, rfl, hi, hs⟩ hf
  refine wp_seq ?_
  refine wp_seq ?_
  refine wp_region_lit ?_
  refine s_m hf rfl ?_; clear hf a; intro a hf
  refine s_m hf rfl ?_; clear hf a; intro a hf
  refine s_v hf (x_bin (hf.eval rfl) (hf.eval rfl) (r_lt _ _ _ _)) ?_; clear hf a; intro a hf
  refine s_nil ?_
  refine then_n ?_
  refine c_cond hf rfl (fun hi0 => ?_) (fun hi0 => ?_)
  · simp only [decide_eq_true_eq, decide_eq_false_iff_not, Bool.not_eq_true', Bool.not_eq_false', Bool.not_eq_true, Int.not_lt, Int.not_le] at hi0
    have hw0 : 256 ^ i ≤ 16777216 := Nat.le_trans (Nat.pow_le_pow_right (by omega) (show i ≤ 3 by omega)) (by omega)
    refine wp_skip ?_
    refine then_n ?_
    refine wp_seq ?_
    refine wp_block ?_
    refine wp_region_lit ?_
    refine s_m hf rfl ?_; clear hf a; intro a hf
    have hw1 : (0 : Int) ≤ ((256 ^ i : Nat) : Int) ∧ ((256 ^ i : Nat) : Int) ≤ 16777216 := ⟨Int.natCast_nonneg _, Int.ofNat_le.2 hw0⟩
    refine s_v hf (x_bin (hf.eval rfl) (hf.eval rfl) (r_muli _ (by omega) (by omega))) ?_; clear hf a; intro a hf
    replace hf := hf.now (k := 11) (v' := .int .i64 ((256 ^ (i + 1) : Nat) : Int)) rfl (by rw [Nat.pow_succ]; congr 1)
    refine s_a hf rfl ?_; clear hf a; intro a hf
    refine s_nil ?_
    refine blk_n ?_
    refine then_n ?_
    refine wp_region_lit ?_
    refine s_m hf rfl ?_; clear hf a; intro a hf
    refine s_v hf (x_bin (hf.eval rfl) (hf.eval rfl) (r_addi _ (by omega) (by omega))) ?_; clear hf a; intro a hf
    refine s_a hf rfl ?_; clear hf a; intro a hf
    refine s_nil ?_
    exact ⟨_, _, ⟨i + 1, rfl, rfl, by omega, hs⟩, by omega, hf.sub ⟨rfl, rfl, rfl, rfl, trivial⟩⟩
  · simp only [decide_eq_true_eq, decide_eq_false_iff_not, Bool.not_eq_true', Bool.not_eq_false', Bool.not_eq_true, Int.not_lt, Int.not_le] at hi0
    refine wp_exit ?_
    refine then_x ?_
    refine then_x ?_
    refine blk_x ?_
    refine then_n ?_
    refine wp_seq ?_
    refine wp_region_lit ?_
    refine s_m hf rfl ?_; clear hf a; intro a hf
    obtain rfl : n = i := by omega
    have hw0 : 256 ^ n ≤ 4294967296 := Nat.le_trans (Nat.pow_le_pow_right (by omega) hn) (by omega)
    have hw1 : (0 : Int) ≤ ((256 ^ n : Nat) : Int) ∧ ((256 ^ n : Nat) : Int) ≤ 4294967296 := ⟨Int.natCast_nonneg _, Int.ofNat_le.2 hw0⟩
    refine s_v hf (x_bin (hf.eval rfl) (hf.eval rfl) (r_subi _ (by omega) (by omega))) ?_; clear hf a; intro a hf
    refine s_a hf rfl ?_; clear hf a; intro a hf
    refine s_nil ?_
    refine then_n ?_
    refine wp_ret ?_
    refine r_1 hf Try.results77 rfl ?_
    exact ⟨rfl, hs.kept⟩

theorem bytesOf_spec (w0 : World) (V n : Nat) (hV : V ≤ 9223372036854775807) (hn : n ≤ 4) : Calls Try.prog 78 #[.int .i64 (V : Int), .int .i64 (n : Int)] w0 fun e w' => ∃ aa c, e = .returned (.slice aa n c) ∧ St ⟨w0, None_⟩ w' [slB 5 (.slice aa n c) (leB n V)] := by
  have hs := (St.start w0 None_).emp (slB_nil 5)
  refine c_enter (N := 21) Try.func78 rfl Try.ntmps78 (by simp) ?_
  intro a hf
  refine wp_seq ?_
  refine wp_region_lit ?_
  refine s_a hf rfl ?_; clear hf a; intro a hf
  refine s_nil ?_
  refine then_n ?_
  refine wp_seq ?_
  refine wp_region_lit ?_
  refine s_a hf rfl ?_; clear hf a; intro a hf
  refine s_nil ?_
  refine then_n ?_
  refine wp_seq ?_
  refine wp_seq ?_
  refine wp_region_lit ?_
  refine s_a hf rfl ?_; clear hf a; intro a hf
  refine s_nil ?_
  refine then_n ?_
  refine wp_block ?_
  refine c_loop (L0 := [(1, _), (4, _)]) (fun M w m => ∃ (j : Nat) (v : Value), M = [(0, .int .i64 ((V / 256 ^ j : Nat) : Int)), (5, v), (6, .int .i64 (j : Int))] ∧ n - j = m ∧ j ≤ n ∧ St ⟨w0, None_⟩ w [slB 5 v (leB j V)]) (M0 := [(0, .int .i64 (V : Int)), (5, .slice none 0 0), (6, .int .i64 0)]) (⟨0, _, by rw [Nat.pow_zero, Nat.div_one]; rfl, rfl, Nat.zero_le _, hs⟩) (hf.sub ⟨rfl, rfl, rfl, rfl, rfl, trivial⟩) ?_
  clear hf hs a
  rintro M m a w ⟨j, v, rfl, rfl, hj, hs⟩ hf
  refine wp_seq ?_
  refine wp_seq ?_
  refine wp_region_lit ?_
  refine s_m hf rfl ?_; clear hf a; intro a hf
  refine s_m hf rfl ?_; clear hf a; intro a hf
  refine s_v hf (x_bin (hf.eval rfl) (hf.eval rfl) (r_lt _ _ _ _)) ?_; clear hf a; intro a hf
  refine s_nil ?_
  refine then_n ?_
  refine c_cond hf rfl (fun hi0 => ?_) (fun hi0 => ?_)
  · simp only [decide_eq_true_eq, decide_eq_false_iff_not, Bool.not_eq_true', Bool.not_eq_false', Bool.not_eq_true, Int.not_lt, Int.not_le] at hi0
    have hVj : V / 256 ^ j ≤ V := Nat.div_le_self _ _
    refine wp_skip ?_
    refine then_n ?_
    refine wp_seq ?_
    refine wp_block ?_
    refine wp_seq ?_
    refine wp_region_lit ?_
    refine s_m hf rfl ?_; clear hf a; intro a hf
    refine s_m hf rfl ?_; clear hf a; intro a hf
    refine s_v hf (x_bin (hf.eval rfl) (hf.eval rfl) (r_remn _ _ (Int.natCast_nonneg _) (by decide))) ?_; clear hf a; intro a hf
    replace hf := hf.now (k := 14) (v' := .int .i64 ((V / 256 ^ j % 256 : Nat) : Int)) rfl (by congr 1)
    refine s_v hf (x_convr Try.underlying3 Try.underlying5 (hf.eval rfl) (by rw [u8_of .i64 rfl, Nat.mod_mod] : IntKind.u8.wrap ((V / 256 ^ j % 256 : Nat) : Int) = ((UInt8.ofNat (V / 256 ^ j % 256)).toNat : Int))) ?_; clear hf a; intro a hf
    replace hf := hf.now (k := 15) (v' := u8v (UInt8.ofNat (V / 256 ^ j % 256))) rfl (rfl)
    refine s_do hf rfl (y_lit (xs := [.tmp 15]) hs sl31 (hf.evals rfl) rfl (by simp [Value.cells, u8v]) (by decide) ?_); clear hf hs a; intro b2 w hs a hf
    refine s_do hf rfl (y_appendB (s := [UInt8.ofNat (V / 256 ^ j % 256)]) hs sl31 rfl (hf.eval rfl) (hf.eval rfl) (.there _ (.here _)) (hs.rdB (.here _) fun h hb => rdB_of_bb (T := 5) (l := [UInt8.ofNat (V / 256 ^ j % 256)]) hb (by simp) (by simp)) (by simp [leB_len]; omega) ?_); clear hf hs a; intro v2 w hs hv a hf
    replace hs := hs.lose (.there _ (.here _))
    rw [← leB_succ] at hs
    refine s_a hf rfl ?_; clear hf a; intro a hf
    refine s_nil ?_
    refine then_n ?_
    refine wp_region_lit ?_
    refine s_m hf rfl ?_; clear hf a; intro a hf
    refine s_v hf (x_bin (hf.eval rfl) (hf.eval rfl) (r_quon _ (Int.natCast_nonneg _) (by decide) (Int.ofNat_le.2 (Nat.le_trans hVj hV)))) ?_; clear hf a; intro a hf
    replace hf := hf.now (k := 19) (v' := .int .i64 ((V / 256 ^ (j + 1) : Nat) : Int)) rfl (by rw [Nat.pow_succ, ← Nat.div_div_eq_div_mul]; congr 1)
    refine s_a hf rfl ?_; clear hf a; intro a hf
    refine s_nil ?_
    refine blk_n ?_
    refine then_n ?_
    refine wp_region_lit ?_
    refine s_m hf rfl ?_; clear hf a; intro a hf
    refine s_v hf (x_bin (hf.eval rfl) (hf.eval rfl) (r_addi _ (by omega) (by omega))) ?_; clear hf a; intro a hf
    refine s_a hf rfl ?_; clear hf a; intro a hf
    refine s_nil ?_
    exact ⟨_, _, ⟨j + 1, _, rfl, rfl, by omega, hs⟩, by omega, hf.sub ⟨rfl, rfl, rfl, rfl, rfl, trivial⟩⟩
  · simp only [decide_eq_true_eq, decide_eq_false_iff_not, Bool.not_eq_true', Bool.not_eq_false', Bool.not_eq_true, Int.not_lt, Int.not_le] at hi0
    refine wp_exit ?_
    refine then_x ?_
    refine then_x ?_
    refine blk_x ?_
    refine then_n ?_
    refine wp_seq ?_
    refine wp_region_lit ?_
    refine s_m hf rfl ?_; clear hf a; intro a hf
    refine s_a hf rfl ?_; clear hf a; intro a hf
    refine s_nil ?_
    refine then_n ?_
    refine wp_ret ?_
    refine r_1 hf Try.results78 rfl ?_
    obtain rfl : n = j := by omega
    obtain ⟨a2, c2, rfl, hc2⟩ := slB_shape hs
    rw [leB_len] at hs ⊢
    exact ⟨_, _, rfl, hs⟩

theorem refBnumber_spec (σ : Sig) (w : World) (R : List Asrt) (p : Nat) (data : List UInt8) (lim bad : Int) (hs : St σ w (rbufA 85 5 p data lim bad :: R)) (hlim : bad = 0 → 0 ≤ lim) (hlim2 : lim ≤ 9223372036854775807) (hd : data.length ≤ 70368744177664) (v : Int) (n : Nat) (hn : n ≤ 4) : Calls Try.prog 76 #[.pointer (some ⟨p, 0, none⟩), .int .i64 v, .int .i64 (n : Int)] w fun e w' => e = .returned (.tuple #[]) ∧ St σ w' (rbufA 85 5 p (numB data lim bad v n).1 lim (numB data lim bad v n).2 :: R) := by
  obtain ⟨v0, hs⟩ := rbufA_open hs
  obtain ⟨a0, c0, rfl, hc0⟩ := slB_shape (hs.take (.there _ (.here _)))
  refine c_enter (N := 50) Try.func76 rfl Try.ntmps76 (by simp) ?_
  intro a hf
  refine wp_seq ?_
  refine wp_seq ?_
  refine wp_region_lit ?_
  refine s_m hf rfl ?_; clear hf a; intro a hf
  refine s_v hf (x_nilCheck (hf.eval rfl)) ?_; clear hf a; intro a hf
  refine s_v hf (x_fieldAddr fo85_2 (hf.eval rfl)) ?_; clear hf a; intro a hf
  refine s_r hf (x_load sc3 (hf.eval rfl) (by first | exact hs.cell (.here _) rfl | exact hs.cell (.there _ (.here _)) rfl | exact hs.cell (.there _ (.there _ (.here _))) rfl | exact hs.cell (.there _ (.there _ (.there _ (.here _)))) rfl | exact hs.cell (.there _ (.there _ (.there _ (.there _ (.here _))))) rfl | exact hs.cell (.there _ (.there _ (.there _ (.there _ (.there _ (.here _)))))) rfl)) ?_; clear hf a; intro a hf
  refine s_v hf (x_bin (hf.eval rfl) (hf.eval rfl) (r_ne _ _ _ _)) ?_; clear hf a; intro a hf
  refine s_nil ?_
  refine then_n ?_
  refine c_cond hf rfl (fun hi0 => ?_) (fun hi0 => ?_)
  · simp only [decide_eq_true_eq, decide_eq_false_iff_not, Bool.not_eq_true', Bool.not_eq_false', Bool.not_eq_true, Int.not_lt, Int.not_le] at hi0
    refine wp_ret ?_
    refine then_r ?_
    refine r_0 hf Try.results76 ?_
    have hN : numB data lim bad v n = (data, bad) := by unfold numB; rw [if_pos (by simpa using hi0)]
    rw [hN]
    exact ⟨rfl, rbufA_close hs⟩
  · simp only [decide_eq_true_eq, decide_eq_false_iff_not, Bool.not_eq_true', Bool.not_eq_false', Bool.not_eq_true, Int.not_lt, Int.not_le] at hi0
    have hb : bad = 0 := by simpa using hi0
    subst hb
    have hl0 := hlim rfl
    refine wp_skip ?_
    refine then_n ?_
    refine wp_seq ?_
    refine wp_seq ?_
    refine wp_region_lit ?_
    refine s_m hf rfl ?_; clear hf a; intro a hf
    refine s_v hf (x_bin (hf.eval rfl) (hf.eval rfl) (r_lt _ _ _ _)) ?_; clear hf a; intro a hf
    refine s_m hf rfl ?_; clear hf a; intro a hf
    refine s_bool hf (k := 14) rfl (fun hg1_2 hf' => ?_) (fun hg1_2 hf' => ?_)
    · clear hf
      have hf := hf'
      clear hf'
      simp only [decide_eq_true_eq, decide_eq_false_iff_not, Bool.not_eq_true', Bool.not_eq_false', Bool.not_eq_true, Int.not_lt, Int.not_le] at hg1_2
      refine s_pass hf rfl rfl ?_; clear hf a; intro a hf
      refine s_pass hf rfl rfl ?_; clear hf a; intro a hf
      refine s_pass hf rfl rfl ?_; clear hf a; intro a hf
      refine s_pass hf rfl rfl ?_; clear hf a; intro a hf
      refine s_v hf (x_pick_t (hf.eval rfl) (hf.eval rfl)) ?_; clear hf a; intro a hf
      refine s_nil ?_
      refine then_n ?_
      refine c_cond_t hf rfl rfl ?_
      refine wp_seq ?_
      refine wp_region_lit ?_
      refine s_m hf rfl ?_; clear hf a; intro a hf
      refine s_v hf (x_nilCheck (hf.eval rfl)) ?_; clear hf a; intro a hf
      refine s_v hf (x_fieldAddr fo85_2 (hf.eval rfl)) ?_; clear hf a; intro a hf
      refine s_do0 hf rfl (y_store hs sc3 (hf.eval rfl) (hf.eval rfl) rfl (by first | exact .here _ | exact .there _ (.here _) | exact .there _ (.there _ (.here _)) | exact .there _ (.there _ (.there _ (.here _))) | exact .there _ (.there _ (.there _ (.there _ (.here _)))) | exact .there _ (.there _ (.there _ (.there _ (.there _ (.here _)))))) (by simp) ?_); clear hf hs a; intro w hs a hf
      refine s_nil ?_
      refine then_n ?_
      refine wp_ret ?_
      refine then_r ?_
      refine r_0 hf Try.results76 ?_
      have hN : numB data lim 0 v n = (data, 21) := by unfold numB; rw [if_neg (by simp), if_pos (by omega)]
      rw [hN]
      exact ⟨rfl, rbufA_close hs⟩
    · clear hf
      have hf := hf'
      clear hf'
      simp only [decide_eq_true_eq, decide_eq_false_iff_not, Bool.not_eq_true', Bool.not_eq_false', Bool.not_eq_true, Int.not_lt, Int.not_le] at hg1_2
      refine s_do hf (wanted_of hf rfl rfl rfl) (.value (x_move (hf.eval rfl) _) ?_); clear hf a; intro a hf
      refine s_do hf (wanted_of hf rfl rfl rfl) (.value (x_move (hf.eval rfl) _) ?_); clear hf a; intro a hf
      refine s_do hf (wanted_of hf rfl rfl rfl) (y_call (hf.eval rfl) (hf.evals rfl) Try.call77 ((greatest_spec _ n hn).mono ?_))
      rintro e w1 ⟨rfl, hk⟩
      replace hs := hs.ext hk
      refine ⟨_, rfl, ?_⟩; clear hf a; intro a hf
      refine s_do hf (wanted_of hf rfl rfl rfl) (.value (x_bin (hf.eval rfl) (hf.eval rfl) (r_gt _ _ _ _) _) ?_); clear hf a; intro a hf
      refine s_v hf (x_pick_f (hf.eval rfl) (hf.eval rfl)) ?_; clear hf a; intro a hf
      refine s_nil ?_
      refine then_n ?_
      refine c_cond hf rfl (fun hi1 => ?_) (fun hi1 => ?_)
      · simp only [decide_eq_true_eq, decide_eq_false_iff_not, Bool.not_eq_true', Bool.not_eq_false', Bool.not_eq_true, Int.not_lt, Int.not_le] at hi1
        refine wp_seq ?_
        refine wp_region_lit ?_
        refine s_m hf rfl ?_; clear hf a; intro a hf
        refine s_v hf (x_nilCheck (hf.eval rfl)) ?_; clear hf a; intro a hf
        refine s_v hf (x_fieldAddr fo85_2 (hf.eval rfl)) ?_; clear hf a; intro a hf
        refine s_do0 hf rfl (y_store hs sc3 (hf.eval rfl) (hf.eval rfl) rfl (by first | exact .here _ | exact .there _ (.here _) | exact .there _ (.there _ (.here _)) | exact .there _ (.there _ (.there _ (.here _))) | exact .there _ (.there _ (.there _ (.there _ (.here _)))) | exact .there _ (.there _ (.there _ (.there _ (.there _ (.here _)))))) (by simp) ?_); clear hf hs a; intro w hs a hf
        refine s_nil ?_
        refine then_n ?_
        refine wp_ret ?_
        refine then_r ?_
        refine r_0 hf Try.results76 ?_
        have hN : numB data lim 0 v n = (data, 21) := by unfold numB; rw [if_neg (by simp), if_pos (by omega)]
        rw [hN]
        exact ⟨rfl, rbufA_close hs⟩
      · simp only [decide_eq_true_eq, decide_eq_false_iff_not, Bool.not_eq_true', Bool.not_eq_false', Bool.not_eq_true, Int.not_lt, Int.not_le] at hi1
        refine wp_skip ?_
        refine then_n ?_
        refine wp_seq ?_
        refine wp_seq ?_
        refine c_draw hs (fun _ => True) [.held, .held, .held, .held, .read, .held, .held, .held, .read, .held, .held, .held] (by kernel_rfl) (by kernel_rfl) (fun _ _ _ => trivial) ?_
        clear hs; intro w hs hC hw
        refine m_held hf rfl (fun w' _ => x_move (hf.eval rfl) w') ?_; clear hf a; intro a hf
        refine m_held hf rfl (fun w' _ => x_move (hf.eval rfl) w') ?_; clear hf a; intro a hf
        refine m_held hf rfl (fun w' _ => x_nilCheck (hf.eval rfl) w') ?_; clear hf a; intro a hf
        refine m_held hf rfl (fun w' _ => x_fieldAddr fo85_0 (hf.eval rfl) w') ?_; clear hf a; intro a hf
        refine m_read hf rfl (x_load sc3 (hf.eval rfl) (by first | exact hs.cell (.here _) rfl | exact hs.cell (.there _ (.here _)) rfl | exact hs.cell (.there _ (.there _ (.here _))) rfl | exact hs.cell (.there _ (.there _ (.there _ (.here _)))) rfl | exact hs.cell (.there _ (.there _ (.there _ (.there _ (.here _))))) rfl | exact hs.cell (.there _ (.there _ (.there _ (.there _ (.there _ (.here _)))))) rfl)) ?_; clear hf a; intro a hf
        refine m_held hf rfl (fun w' _ => x_move (hf.eval rfl) w') ?_; clear hf a; intro a hf
        refine m_held hf rfl (fun w' _ => x_nilCheck (hf.eval rfl) w') ?_; clear hf a; intro a hf
        refine m_held hf rfl (fun w' _ => x_fieldAddr fo85_1 (hf.eval rfl) w') ?_; clear hf a; intro a hf
        refine m_read hf rfl (x_load sc31 (hf.eval rfl) (by first | exact hs.cell (.here _) rfl | exact hs.cell (.there _ (.here _)) rfl | exact hs.cell (.there _ (.there _ (.here _))) rfl | exact hs.cell (.there _ (.there _ (.there _ (.here _)))) rfl | exact hs.cell (.there _ (.there _ (.there _ (.there _ (.here _))))) rfl | exact hs.cell (.there _ (.there _ (.there _ (.there _ (.there _ (.here _)))))) rfl)) ?_; clear hf a; intro a hf
        refine m_held hf rfl (fun w' _ => x_len Try.underlying31 (hf.eval rfl) w') ?_; clear hf a; intro a hf
        refine m_held hf rfl (fun w' _ => x_bin (hf.eval rfl) (hf.eval rfl) (r_subi _ (by omega) (by omega)) w') ?_; clear hf a; intro a hf
        refine m_held hf rfl (fun w' _ => x_bin (hf.eval rfl) (hf.eval rfl) (r_gt _ _ _ _) w') ?_; clear hf a; intro a hf
        refine m_nil ?_
        refine then_n ?_
        refine c_cond hf rfl (fun hi2 => ?_) (fun hi2 => ?_)
        · simp only [decide_eq_true_eq, decide_eq_false_iff_not, Bool.not_eq_true', Bool.not_eq_false', Bool.not_eq_true, Int.not_lt, Int.not_le] at hi2
          refine wp_seq ?_
          refine wp_region_lit ?_
          refine s_m hf rfl ?_; clear hf a; intro a hf
          refine s_v hf (x_nilCheck (hf.eval rfl)) ?_; clear hf a; intro a hf
          refine s_v hf (x_fieldAddr fo85_2 (hf.eval rfl)) ?_; clear hf a; intro a hf
          refine s_do0 hf rfl (y_store hs sc3 (hf.eval rfl) (hf.eval rfl) rfl (by first | exact .here _ | exact .there _ (.here _) | exact .there _ (.there _ (.here _)) | exact .there _ (.there _ (.there _ (.here _))) | exact .there _ (.there _ (.there _ (.there _ (.here _)))) | exact .there _ (.there _ (.there _ (.there _ (.there _ (.here _)))))) (by simp) ?_); clear hf hs a; intro w hs a hf
          refine s_nil ?_
          refine then_n ?_
          refine wp_ret ?_
          refine then_r ?_
          refine r_0 hf Try.results76 ?_
          have hN : numB data lim 0 v n = (data, 22) := by unfold numB; rw [if_neg (by simp), if_neg (by omega), if_pos (by omega)]
          rw [hN]
          exact ⟨rfl, rbufA_close hs⟩
        · simp only [decide_eq_true_eq, decide_eq_false_iff_not, Bool.not_eq_true', Bool.not_eq_false', Bool.not_eq_true, Int.not_lt, Int.not_le] at hi2
          obtain ⟨V, rfl⟩ := Int.eq_ofNat_of_zero_le (show 0 ≤ v by omega)
          have hw0 : 256 ^ n ≤ 4294967296 := Nat.le_trans (Nat.pow_le_pow_right (by omega) hn) (by omega)
          have hw1 := Int.ofNat_le.2 hw0
          have hV : V ≤ 9223372036854775807 := by omega
          refine wp_skip ?_
          refine then_n ?_
          refine wp_seq ?_
          refine wp_region_lit ?_
          refine s_m hf rfl ?_; clear hf a; intro a hf
          refine s_m hf rfl ?_; clear hf a; intro a hf
          refine s_do hf rfl (y_call (hf.eval rfl) (hf.evals rfl) Try.call78 ((bytesOf_spec _ V n hV hn).mono ?_))
          rintro e w1 ⟨a5, c5, rfl, hj⟩
          replace hs := hs.join hj
          simp only [List.cons_append, List.nil_append] at hs
          refine ⟨_, rfl, ?_⟩; clear hf a; intro a hf
          refine s_a hf rfl ?_; clear hf a; intro a hf
          refine s_nil ?_
          refine then_n ?_
          refine wp_region_lit ?_
          refine s_m hf rfl ?_; clear hf a; intro a hf
          refine s_m hf rfl ?_; clear hf a; intro a hf
          refine s_v hf (x_nilCheck (hf.eval rfl)) ?_; clear hf a; intro a hf
          refine s_v hf (x_fieldAddr fo85_1 (hf.eval rfl)) ?_; clear hf a; intro a hf
          refine s_r hf (x_load sc31 (hf.eval rfl) (by first | exact hs.cell (.here _) rfl | exact hs.cell (.there _ (.here _)) rfl | exact hs.cell (.there _ (.there _ (.here _))) rfl | exact hs.cell (.there _ (.there _ (.there _ (.here _)))) rfl | exact hs.cell (.there _ (.there _ (.there _ (.there _ (.here _))))) rfl | exact hs.cell (.there _ (.there _ (.there _ (.there _ (.there _ (.here _)))))) rfl)) ?_; clear hf a; intro a hf
          refine s_m hf rfl ?_; clear hf a; intro a hf
          refine s_do hf rfl (y_appendB (s := leB n V) hs sl31 rfl (hf.eval rfl) (hf.eval rfl) (.there _ (.there _ (.here _))) (hs.rdB (.here _) fun h => slB_rd) (by rw [leB_len]; omega) ?_); clear hf hs a; intro v2 w hs hv a hf
          replace hs := (hs.lose (.there _ (.here _))).take (.there _ (.here _))
          obtain ⟨a2, c2, rfl, hc2⟩ := slB_shape (hs.take (.there _ (.here _)))
          refine s_v hf (x_nilCheck (hf.eval rfl)) ?_; clear hf a; intro a hf
          refine s_v hf (x_fieldAddr fo85_1 (hf.eval rfl)) ?_; clear hf a; intro a hf
          refine s_do0 hf rfl (y_store hs sc31 (hf.eval rfl) (hf.eval rfl) rfl (by first | exact .here _ | exact .there _ (.here _) | exact .there _ (.there _ (.here _)) | exact .there _ (.there _ (.there _ (.here _))) | exact .there _ (.there _ (.there _ (.there _ (.here _)))) | exact .there _ (.there _ (.there _ (.there _ (.there _ (.here _)))))) (by simp) ?_); clear hf hs a; intro w hs a hf
          refine s_nil ?_
          refine r_0n hf Try.results76 ?_
          have hN : numB data lim 0 (V : Int) n = (data ++ leB n V, 0) := by unfold numB; rw [if_neg (by simp), if_neg (by omega), if_neg (by omega), Int.toNat_natCast]
          rw [hN]
          exact ⟨rfl, rbufA_close hs⟩

theorem bU8_spec (σ : Sig) (w : World) (R : List Asrt) (p : Nat) (data : List UInt8) (lim bad : Int) (hs : St σ w (bufA 83 5 p data lim bad :: R)) (hlim : bad = 0 → 0 ≤ lim) (hlim2 : lim ≤ 9223372036854775807) (hd : data.length ≤ 70368744177664) (v : Int) : Calls Try.prog 44 #[.pointer (some ⟨p, 0, none⟩), .int .i64 v] w fun e w' => e = .returned (.tuple #[]) ∧ St σ w' (bufA 83 5 p (numB data lim bad v 1).1 lim (numB data lim bad v 1).2 :: R) := by
  refine c_enter (N := 7) Try.func44 rfl Try.ntmps44 (by simp) ?_
  intro a hf
  refine wp_region_lit ?_
  refine s_m hf rfl ?_; clear hf a; intro a hf
  refine s_m hf rfl ?_; clear hf a; intro a hf
  refine s_do hf rfl (y_call (hf.eval rfl) (hf.evals rfl) Try.call72 ((bnumber_spec σ w R p data lim bad hs hlim hlim2 hd v 1 (by omega)).mono ?_))
  rintro e w1 ⟨rfl, hs⟩
  refine ⟨_, rfl, ?_⟩; clear hf a; intro a hf
  refine s_nil ?_
  refine r_0n hf Try.results44 ?_
  exact ⟨rfl, hs⟩

theorem refBU8_spec (σ : Sig) (w : World) (R : List Asrt) (p : Nat) (data : List UInt8) (lim bad : Int) (hs : St σ w (rbufA 85 5 p data lim bad :: R)) (hlim : bad = 0 → 0 ≤ lim) (hlim2 : lim ≤ 9223372036854775807) (hd : data.length ≤ 70368744177664) (v : Int) : Calls Try.prog 64 #[.pointer (some ⟨p, 0, none⟩), .int .i64 v] w fun e w' => e = .returned (.tuple #[]) ∧ St σ w' (rbufA 85 5 p (numB data lim bad v 1).1 lim (numB data lim bad v 1).2 :: R) := by
  refine c_enter (N := 7) Try.func64 rfl Try.ntmps64 (by simp) ?_
  intro a hf
  refine wp_region_lit ?_
  refine s_m hf rfl ?_; clear hf a; intro a hf
  refine s_m hf rfl ?_; clear hf a; intro a hf
  refine s_do hf rfl (y_call (hf.eval rfl) (hf.evals rfl) Try.call76 ((refBnumber_spec σ w R p data lim bad hs hlim hlim2 hd v 1 (by omega)).mono ?_))
  rintro e w1 ⟨rfl, hs⟩
  refine ⟨_, rfl, ?_⟩; clear hf a; intro a hf
  refine s_nil ?_
  refine r_0n hf Try.results64 ?_
  exact ⟨rfl, hs⟩

theorem bU16_spec (σ : Sig) (w : World) (R : List Asrt) (p : Nat) (data : List UInt8) (lim bad : Int) (hs : St σ w (bufA 83 5 p data lim bad :: R)) (hlim : bad = 0 → 0 ≤ lim) (hlim2 : lim ≤ 9223372036854775807) (hd : data.length ≤ 70368744177664) (v : Int) : Calls Try.prog 45 #[.pointer (some ⟨p, 0, none⟩), .int .i64 v] w fun e w' => e = .returned (.tuple #[]) ∧ St σ w' (bufA 83 5 p (numB data lim bad v 2).1 lim (numB data lim bad v 2).2 :: R) := by
  refine c_enter (N := 7) Try.func45 rfl Try.ntmps45 (by simp) ?_
  intro a hf
  refine wp_region_lit ?_
  refine s_m hf rfl ?_; clear hf a; intro a hf
  refine s_m hf rfl ?_; clear hf a; intro a hf
  refine s_do hf rfl (y_call (hf.eval rfl) (hf.evals rfl) Try.call72 ((bnumber_spec σ w R p data lim bad hs hlim hlim2 hd v 2 (by omega)).mono ?_))
  rintro e w1 ⟨rfl, hs⟩
  refine ⟨_, rfl, ?_⟩; clear hf a; intro a hf
  refine s_nil ?_
  refine r_0n hf Try.results45 ?_
  exact ⟨rfl, hs⟩

theorem refBU16_spec (σ : Sig) (w : World) (R : List Asrt) (p : Nat) (data : List UInt8) (lim bad : Int) (hs : St σ w (rbufA 85 5 p data lim bad :: R)) (hlim : bad = 0 → 0 ≤ lim) (hlim2 : lim ≤ 9223372036854775807) (hd : data.length ≤ 70368744177664) (v : Int) : Calls Try.prog 65 #[.pointer (some ⟨p, 0, none⟩), .int .i64 v] w fun e w' => e = .returned (.tuple #[]) ∧ St σ w' (rbufA 85 5 p (numB data lim bad v 2).1 lim (numB data lim bad v 2).2 :: R) := by
  refine c_enter (N := 7) Try.func65 rfl Try.ntmps65 (by simp) ?_
  intro a hf
  refine wp_region_lit ?_
  refine s_m hf rfl ?_; clear hf a; intro a hf
  refine s_m hf rfl ?_; clear hf a; intro a hf
  refine s_do hf rfl (y_call (hf.eval rfl) (hf.evals rfl) Try.call76 ((refBnumber_spec σ w R p data lim bad hs hlim hlim2 hd v 2 (by omega)).mono ?_))
  rintro e w1 ⟨rfl, hs⟩
  refine ⟨_, rfl, ?_⟩; clear hf a; intro a hf
  refine s_nil ?_
  refine r_0n hf Try.results65 ?_
  exact ⟨rfl, hs⟩

theorem bU32_spec (σ : Sig) (w : World) (R : List Asrt) (p : Nat) (data : List UInt8) (lim bad : Int) (hs : St σ w (bufA 83 5 p data lim bad :: R)) (hlim : bad = 0 → 0 ≤ lim) (hlim2 : lim ≤ 9223372036854775807) (hd : data.length ≤ 70368744177664) (v : Int) : Calls Try.prog 46 #[.pointer (some ⟨p, 0, none⟩), .int .i64 v] w fun e w' => e = .returned (.tuple #[]) ∧ St σ w' (bufA 83 5 p (numB data lim bad v 4).1 lim (numB data lim bad v 4).2 :: R) := by
  refine c_enter (N := 7) Try.func46 rfl Try.ntmps46 (by simp) ?_
  intro a hf
  refine wp_region_lit ?_
  refine s_m hf rfl ?_; clear hf a; intro a hf
  refine s_m hf rfl ?_; clear hf a; intro a hf
  refine s_do hf rfl (y_call (hf.eval rfl) (hf.evals rfl) Try.call72 ((bnumber_spec σ w R p data lim bad hs hlim hlim2 hd v 4 (by omega)).mono ?_))
  rintro e w1 ⟨rfl, hs⟩
  refine ⟨_, rfl, ?_⟩; clear hf a; intro a hf
  refine s_nil ?_
  refine r_0n hf Try.results46 ?_
  exact ⟨rfl, hs⟩

theorem refBU32_spec (σ : Sig) (w : World) (R : List Asrt) (p : Nat) (data : List UInt8) (lim bad : Int) (hs : St σ w (rbufA 85 5 p data lim bad :: R)) (hlim : bad = 0 → 0 ≤ lim) (hlim2 : lim ≤ 9223372036854775807) (hd : data.length ≤ 70368744177664) (v : Int) : Calls Try.prog 66 #[.pointer (some ⟨p, 0, none⟩), .int .i64 v] w fun e w' => e = .returned (.tuple #[]) ∧ St σ w' (rbufA 85 5 p (numB data lim bad v 4).1 lim (numB data lim bad v 4).2 :: R) := by
  refine c_enter (N := 7) Try.func66 rfl Try.ntmps66 (by simp) ?_
  intro a hf
  refine wp_region_lit ?_
  refine s_m hf rfl ?_; clear hf a; intro a hf
  refine s_m hf rfl ?_; clear hf a; intro a hf
  refine s_do hf rfl (y_call (hf.eval rfl) (hf.evals rfl) Try.call76 ((refBnumber_spec σ w R p data lim bad hs hlim hlim2 hd v 4 (by omega)).mono ?_))
  rintro e w1 ⟨rfl, hs⟩
  refine ⟨_, rfl, ?_⟩; clear hf a; intro a hf
  refine s_nil ?_
  refine r_0n hf Try.results66 ?_
  exact ⟨rfl, hs⟩

theorem bText_spec (σ : Sig) (w : World) (R : List Asrt) (p : Nat) (data : List UInt8) (lim bad : Int) (hs : St σ w (bufA 83 5 p data lim bad :: R)) (hlim : bad = 0 → 0 ≤ lim) (hlim2 : lim ≤ 9223372036854775807) (hd : data.length ≤ 70368744177664) (s : List UInt8) (hsl : s.length ≤ 1048576) : Calls Try.prog 47 #[.pointer (some ⟨p, 0, none⟩), .string ⟨s.toArray⟩] w fun e w' => e = .returned (.tuple #[]) ∧ St σ w' (bufA 83 5 p (txtB data lim bad s).1 lim (txtB data lim bad s).2 :: R) := by
  obtain ⟨v0, hs⟩ := bufA_open hs
  obtain ⟨a0, c0, rfl, hc0⟩ := slB_shape (hs.take (.there _ (.here _)))
  refine c_enter (N := 38) Try.func47 rfl Try.ntmps47 (by simp) ?_
  intro a hf
  refine wp_seq ?_
  refine wp_seq ?_
  refine wp_region_lit ?_
  refine s_m hf rfl ?_; clear hf a; intro a hf
  refine s_v hf (x_eqNil Try.underlying49 (hf.eval rfl) (hf.eval rfl)) ?_; clear hf a; intro a hf
  replace hf := hf.now (k := 5) (v' := .bool false) rfl rfl
  refine s_m hf rfl ?_; clear hf a; intro a hf
  refine s_do hf (wanted_of hf rfl rfl rfl) (.value (x_move (hf.eval rfl) _) ?_); clear hf a; intro a hf
  refine s_do hf (wanted_of hf rfl rfl rfl) (.value (x_nilCheck (hf.eval rfl) _) ?_); clear hf a; intro a hf
  refine s_do hf (wanted_of hf rfl rfl rfl) (.value (x_fieldAddr fo83_2 (hf.eval rfl) _) ?_); clear hf a; intro a hf
  refine s_do hf (wanted_of hf rfl rfl rfl) (.value (x_load sc23 (hf.eval rfl) (by first | exact hs.cell (.here _) rfl | exact hs.cell (.there _ (.here _)) rfl | exact hs.cell (.there _ (.there _ (.here _))) rfl | exact hs.cell (.there _ (.there _ (.there _ (.here _)))) rfl | exact hs.cell (.there _ (.there _ (.there _ (.there _ (.here _))))) rfl | exact hs.cell (.there _ (.there _ (.there _ (.there _ (.there _ (.here _)))))) rfl)) ?_); clear hf a; intro a hf
  refine s_do hf (wanted_of hf rfl rfl rfl) (.value (x_bin (hf.eval rfl) (hf.eval rfl) (r_ne _ _ _ _) _) ?_); clear hf a; intro a hf
  refine s_v hf (x_pick_f (hf.eval rfl) (hf.eval rfl)) ?_; clear hf a; intro a hf
  refine s_nil ?_
  refine then_n ?_
  refine c_cond hf rfl (fun hi0 => ?_) (fun hi0 => ?_)
  · simp only [decide_eq_true_eq, decide_eq_false_iff_not, Bool.not_eq_true', Bool.not_eq_false', Bool.not_eq_true, Int.not_lt, Int.not_le] at hi0
    refine wp_ret ?_
    refine then_r ?_
    refine r_0 hf Try.results47 ?_
    have hN : txtB data lim bad s = (data, bad) := by unfold txtB; rw [if_pos (by simpa using hi0)]
    rw [hN]
    exact ⟨rfl, bufA_close hs⟩
  · simp only [decide_eq_true_eq, decide_eq_false_iff_not, Bool.not_eq_true', Bool.not_eq_false', Bool.not_eq_true, Int.not_lt, Int.not_le] at hi0
    have hb : bad = 0 := by simpa using hi0
    subst hb
    have hl0 := hlim rfl
    refine wp_skip ?_
    refine then_n ?_
    refine wp_seq ?_
    refine wp_seq ?_
    refine c_draw hs (fun _ => True) [.held, .held, .held, .held, .held, .read, .held, .held, .held, .read, .held, .held, .held] (by kernel_rfl) (by kernel_rfl) (fun _ _ _ => trivial) ?_
    clear hs; intro w hs hC hw
    refine m_held hf rfl (fun w' _ => x_move (hf.eval rfl) w') ?_; clear hf a; intro a hf
    refine m_held hf rfl (fun w' _ => x_lenS Try.underlying9 (hf.eval rfl) w') ?_; clear hf a; intro a hf
    replace hf := hf.now (k := 14) (v' := .int .i64 (s.length : Int)) rfl (by simp [ByteArray.size])
    refine m_held hf rfl (fun w' _ => x_move (hf.eval rfl) w') ?_; clear hf a; intro a hf
    refine m_held hf rfl (fun w' _ => x_nilCheck (hf.eval rfl) w') ?_; clear hf a; intro a hf
    refine m_held hf rfl (fun w' _ => x_fieldAddr fo83_1 (hf.eval rfl) w') ?_; clear hf a; intro a hf
    refine m_read hf rfl (x_load sc3 (hf.eval rfl) (by first | exact hs.cell (.here _) rfl | exact hs.cell (.there _ (.here _)) rfl | exact hs.cell (.there _ (.there _ (.here _))) rfl | exact hs.cell (.there _ (.there _ (.there _ (.here _)))) rfl | exact hs.cell (.there _ (.there _ (.there _ (.there _ (.here _))))) rfl | exact hs.cell (.there _ (.there _ (.there _ (.there _ (.there _ (.here _)))))) rfl)) ?_; clear hf a; intro a hf
    refine m_held hf rfl (fun w' _ => x_move (hf.eval rfl) w') ?_; clear hf a; intro a hf
    refine m_held hf rfl (fun w' _ => x_nilCheck (hf.eval rfl) w') ?_; clear hf a; intro a hf
    refine m_held hf rfl (fun w' _ => x_fieldAddr fo83_0 (hf.eval rfl) w') ?_; clear hf a; intro a hf
    refine m_read hf rfl (x_load sc31 (hf.eval rfl) (by first | exact hs.cell (.here _) rfl | exact hs.cell (.there _ (.here _)) rfl | exact hs.cell (.there _ (.there _ (.here _))) rfl | exact hs.cell (.there _ (.there _ (.there _ (.here _)))) rfl | exact hs.cell (.there _ (.there _ (.there _ (.there _ (.here _))))) rfl | exact hs.cell (.there _ (.there _ (.there _ (.there _ (.there _ (.here _)))))) rfl)) ?_; clear hf a; intro a hf
    refine m_held hf rfl (fun w' _ => x_len Try.underlying31 (hf.eval rfl) w') ?_; clear hf a; intro a hf
    refine m_held hf rfl (fun w' _ => x_bin (hf.eval rfl) (hf.eval rfl) (r_subi _ (by omega) (by omega)) w') ?_; clear hf a; intro a hf
    refine m_held hf rfl (fun w' _ => x_bin (hf.eval rfl) (hf.eval rfl) (r_gt _ _ _ _) w') ?_; clear hf a; intro a hf
    refine m_nil ?_
    refine then_n ?_
    refine c_cond hf rfl (fun hi1 => ?_) (fun hi1 => ?_)
    · simp only [decide_eq_true_eq, decide_eq_false_iff_not, Bool.not_eq_true', Bool.not_eq_false', Bool.not_eq_true, Int.not_lt, Int.not_le] at hi1
      refine wp_seq ?_
      refine wp_region_lit ?_
      refine s_m hf rfl ?_; clear hf a; intro a hf
      refine s_v hf (x_nilCheck (hf.eval rfl)) ?_; clear hf a; intro a hf
      refine s_v hf (x_fieldAddr fo83_2 (hf.eval rfl)) ?_; clear hf a; intro a hf
      refine s_do0 hf rfl (y_store hs sc23 (hf.eval rfl) (hf.eval rfl) rfl (by first | exact .here _ | exact .there _ (.here _) | exact .there _ (.there _ (.here _)) | exact .there _ (.there _ (.there _ (.here _))) | exact .there _ (.there _ (.there _ (.there _ (.here _)))) | exact .there _ (.there _ (.there _ (.there _ (.there _ (.here _)))))) (by simp) ?_); clear hf hs a; intro w hs a hf
      refine s_nil ?_
      refine then_n ?_
      refine wp_ret ?_
      refine then_r ?_
      refine r_0 hf Try.results47 ?_
      have hN : txtB data lim 0 s = (data, 22) := by unfold txtB; rw [if_neg (by simp), if_pos (by omega)]
      rw [hN]
      exact ⟨rfl, bufA_close hs⟩
    · simp only [decide_eq_true_eq, decide_eq_false_iff_not, Bool.not_eq_true', Bool.not_eq_false', Bool.not_eq_true, Int.not_lt, Int.not_le] at hi1
      refine wp_skip ?_
      refine then_n ?_
      refine wp_region_lit ?_
      refine s_m hf rfl ?_; clear hf a; intro a hf
      refine s_m hf rfl ?_; clear hf a; intro a hf
      refine s_v hf (x_nilCheck (hf.eval rfl)) ?_; clear hf a; intro a hf
      refine s_v hf (x_fieldAddr fo83_0 (hf.eval rfl)) ?_; clear hf a; intro a hf
      refine s_r hf (x_load sc31 (hf.eval rfl) (by first | exact hs.cell (.here _) rfl | exact hs.cell (.there _ (.here _)) rfl | exact hs.cell (.there _ (.there _ (.here _))) rfl | exact hs.cell (.there _ (.there _ (.there _ (.here _)))) rfl | exact hs.cell (.there _ (.there _ (.there _ (.there _ (.here _))))) rfl | exact hs.cell (.there _ (.there _ (.there _ (.there _ (.there _ (.here _)))))) rfl)) ?_; clear hf a; intro a hf
      refine s_m hf rfl ?_; clear hf a; intro a hf
      refine s_do hf rfl (y_appendStr (s := s) hs sl31 rfl Try.underlying9 (hf.eval rfl) (hf.eval rfl) (.there _ (.here _)) (by omega) ?_); clear hf hs a; intro v2 w hs a hf
      replace hs := hs.take (.there _ (.here _))
      obtain ⟨a2, c2, rfl, hc2⟩ := slB_shape (hs.take (.there _ (.here _)))
      refine s_v hf (x_nilCheck (hf.eval rfl)) ?_; clear hf a; intro a hf
      refine s_v hf (x_fieldAddr fo83_0 (hf.eval rfl)) ?_; clear hf a; intro a hf
      refine s_do0 hf rfl (y_store hs sc31 (hf.eval rfl) (hf.eval rfl) rfl (by first | exact .here _ | exact .there _ (.here _) | exact .there _ (.there _ (.here _)) | exact .there _ (.there _ (.there _ (.here _))) | exact .there _ (.there _ (.there _ (.there _ (.here _)))) | exact .there _ (.there _ (.there _ (.there _ (.there _ (.here _)))))) (by simp) ?_); clear hf hs a; intro w hs a hf
      refine s_nil ?_
      refine r_0n hf Try.results47 ?_
      have hN : txtB data lim 0 s = (data ++ s, 0) := by unfold txtB; rw [if_neg (by simp), if_neg (by omega)]
      rw [hN]
      exact ⟨rfl, bufA_close hs⟩

theorem refBText_spec (σ : Sig) (w : World) (R : List Asrt) (p : Nat) (data : List UInt8) (lim bad : Int) (hs : St σ w (rbufA 85 5 p data lim bad :: R)) (hlim : bad = 0 → 0 ≤ lim) (hlim2 : lim ≤ 9223372036854775807) (hd : data.length ≤ 70368744177664) (s : List UInt8) (hsl : s.length ≤ 1048576) : Calls Try.prog 67 #[.pointer (some ⟨p, 0, none⟩), .string ⟨s.toArray⟩] w fun e w' => e = .returned (.tuple #[]) ∧ St σ w' (rbufA 85 5 p (txtB data lim bad s).1 lim (txtB data lim bad s).2 :: R) := by
  obtain ⟨v0, hs⟩ := rbufA_open hs
  obtain ⟨a0, c0, rfl, hc0⟩ := slB_shape (hs.take (.there _ (.here _)))
  refine c_enter (N := 44) Try.func67 rfl Try.ntmps67 (by simp) ?_
  intro a hf
  refine wp_seq ?_
  refine wp_seq ?_
  refine wp_region_lit ?_
  refine s_m hf rfl ?_; clear hf a; intro a hf
  refine s_v hf (x_nilCheck (hf.eval rfl)) ?_; clear hf a; intro a hf
  refine s_v hf (x_fieldAddr fo85_2 (hf.eval rfl)) ?_; clear hf a; intro a hf
  refine s_r hf (x_load sc3 (hf.eval rfl) (by first | exact hs.cell (.here _) rfl | exact hs.cell (.there _ (.here _)) rfl | exact hs.cell (.there _ (.there _ (.here _))) rfl | exact hs.cell (.there _ (.there _ (.there _ (.here _)))) rfl | exact hs.cell (.there _ (.there _ (.there _ (.there _ (.here _))))) rfl | exact hs.cell (.there _ (.there _ (.there _ (.there _ (.there _ (.here _)))))) rfl)) ?_; clear hf a; intro a hf
  refine s_v hf (x_bin (hf.eval rfl) (hf.eval rfl) (r_ne _ _ _ _)) ?_; clear hf a; intro a hf
  refine s_nil ?_
  refine then_n ?_
  refine c_cond hf rfl (fun hi0 => ?_) (fun hi0 => ?_)
  · simp only [decide_eq_true_eq, decide_eq_false_iff_not, Bool.not_eq_true', Bool.not_eq_false', Bool.not_eq_true, Int.not_lt, Int.not_le] at hi0
    refine wp_ret ?_
    refine then_r ?_
    refine r_0 hf Try.results67 ?_
    have hN : txtB data lim bad s = (data, bad) := by unfold txtB; rw [if_pos (by simpa using hi0)]
    rw [hN]
    exact ⟨rfl, rbufA_close hs⟩
  · simp only [decide_eq_true_eq, decide_eq_false_iff_not, Bool.not_eq_true', Bool.not_eq_false', Bool.not_eq_true, Int.not_lt, Int.not_le] at hi0
    have hb : bad = 0 := by simpa using hi0
    subst hb
    have hl0 := hlim rfl
    refine wp_skip ?_
    refine then_n ?_
    refine wp_seq ?_
    refine wp_seq ?_
    refine c_draw hs (fun _ => True) [.held, .held, .held, .held, .held, .read, .held, .held, .held, .read, .held, .held, .held] (by kernel_rfl) (by kernel_rfl) (fun _ _ _ => trivial) ?_
    clear hs; intro w hs hC hw
    refine m_held hf rfl (fun w' _ => x_move (hf.eval rfl) w') ?_; clear hf a; intro a hf
    refine m_held hf rfl (fun w' _ => x_lenS Try.underlying9 (hf.eval rfl) w') ?_; clear hf a; intro a hf
    replace hf := hf.now (k := 11) (v' := .int .i64 (s.length : Int)) rfl (by simp [ByteArray.size])
    refine m_held hf rfl (fun w' _ => x_move (hf.eval rfl) w') ?_; clear hf a; intro a hf
    refine m_held hf rfl (fun w' _ => x_nilCheck (hf.eval rfl) w') ?_; clear hf a; intro a hf
    refine m_held hf rfl (fun w' _ => x_fieldAddr fo85_0 (hf.eval rfl) w') ?_; clear hf a; intro a hf
    refine m_read hf rfl (x_load sc3 (hf.eval rfl) (by first | exact hs.cell (.here _) rfl | exact hs.cell (.there _ (.here _)) rfl | exact hs.cell (.there _ (.there _ (.here _))) rfl | exact hs.cell (.there _ (.there _ (.there _ (.here _)))) rfl | exact hs.cell (.there _ (.there _ (.there _ (.there _ (.here _))))) rfl | exact hs.cell (.there _ (.there _ (.there _ (.there _ (.there _ (.here _)))))) rfl)) ?_; clear hf a; intro a hf
    refine m_held hf rfl (fun w' _ => x_move (hf.eval rfl) w') ?_; clear hf a; intro a hf
    refine m_held hf rfl (fun w' _ => x_nilCheck (hf.eval rfl) w') ?_; clear hf a; intro a hf
    refine m_held hf rfl (fun w' _ => x_fieldAddr fo85_1 (hf.eval rfl) w') ?_; clear hf a; intro a hf
    refine m_read hf rfl (x_load sc31 (hf.eval rfl) (by first | exact hs.cell (.here _) rfl | exact hs.cell (.there _ (.here _)) rfl | exact hs.cell (.there _ (.there _ (.here _))) rfl | exact hs.cell (.there _ (.there _ (.there _ (.here _)))) rfl | exact hs.cell (.there _ (.there _ (.there _ (.there _ (.here _))))) rfl | exact hs.cell (.there _ (.there _ (.there _ (.there _ (.there _ (.here _)))))) rfl)) ?_; clear hf a; intro a hf
    refine m_held hf rfl (fun w' _ => x_len Try.underlying31 (hf.eval rfl) w') ?_; clear hf a; intro a hf
    refine m_held hf rfl (fun w' _ => x_bin (hf.eval rfl) (hf.eval rfl) (r_subi _ (by omega) (by omega)) w') ?_; clear hf a; intro a hf
    refine m_held hf rfl (fun w' _ => x_bin (hf.eval rfl) (hf.eval rfl) (r_gt _ _ _ _) w') ?_; clear hf a; intro a hf
    refine m_nil ?_
    refine then_n ?_
    refine c_cond hf rfl (fun hi1 => ?_) (fun hi1 => ?_)
    · simp only [decide_eq_true_eq, decide_eq_false_iff_not, Bool.not_eq_true', Bool.not_eq_false', Bool.not_eq_true, Int.not_lt, Int.not_le] at hi1
      refine wp_seq ?_
      refine wp_region_lit ?_
      refine s_m hf rfl ?_; clear hf a; intro a hf
      refine s_v hf (x_nilCheck (hf.eval rfl)) ?_; clear hf a; intro a hf
      refine s_v hf (x_fieldAddr fo85_2 (hf.eval rfl)) ?_; clear hf a; intro a hf
      refine s_do0 hf rfl (y_store hs sc3 (hf.eval rfl) (hf.eval rfl) rfl (by first | exact .here _ | exact .there _ (.here _) | exact .there _ (.there _ (.here _)) | exact .there _ (.there _ (.there _ (.here _))) | exact .there _ (.there _ (.there _ (.there _ (.here _)))) | exact .there _ (.there _ (.there _ (.there _ (.there _ (.here _)))))) (by simp) ?_); clear hf hs a; intro w hs a hf
      refine s_nil ?_
      refine then_n ?_
      refine wp_ret ?_
      refine then_r ?_
      refine r_0 hf Try.results67 ?_
      have hN : txtB data lim 0 s = (data, 22) := by unfold txtB; rw [if_neg (by simp), if_pos (by omega)]
      rw [hN]
      exact ⟨rfl, rbufA_close hs⟩
    · simp only [decide_eq_true_eq, decide_eq_false_iff_not, Bool.not_eq_true', Bool.not_eq_false', Bool.not_eq_true, Int.not_lt, Int.not_le] at hi1
      refine wp_skip ?_
      refine then_n ?_
      refine wp_seq ?_
      refine wp_region_lit ?_
      refine s_a hf rfl ?_; clear hf a; intro a hf
      refine s_nil ?_
      refine then_n ?_
      refine wp_block ?_
      refine c_loop (L0 := [(0, _), (1, _)]) (fun M w m => ∃ (i : Nat) (a1 : Option Addr) (c1 : Nat), M = [(4, .int .i64 (i : Int))] ∧ s.length - i = m ∧ i ≤ s.length ∧ St σ w (cb p 85 [.int .i64 lim, .slice a1 (data.length + i) c1, .int .i64 0] :: slB 5 (.slice a1 (data.length + i) c1) (data ++ s.take i) :: R)) (M0 := [(4, .int .i64 0)]) (⟨0, a0, c0, rfl, rfl, Nat.zero_le _, by simpa using hs⟩) (hf.sub ⟨rfl, rfl, rfl, trivial⟩) ?_
      clear hf hs a
      rintro M m a w ⟨i, a1, c1, rfl, rfl, hi, hs⟩ hf
      refine wp_seq ?_
      refine wp_seq ?_
      refine wp_region_lit ?_
      refine s_m hf rfl ?_; clear hf a; intro a hf
      refine s_m hf rfl ?_; clear hf a; intro a hf
      refine s_v hf (x_lenS Try.underlying9 (hf.eval rfl)) ?_; clear hf a; intro a hf
      replace hf := hf.now (k := 28) (v' := .int .i64 (s.length : Int)) rfl (by simp [ByteArray.size])
      refine s_v hf (x_bin (hf.eval rfl) (hf.eval rfl) (r_lt _ _ _ _)) ?_; clear hf a; intro a hf
      refine s_nil ?_
      refine then_n ?_
      refine c_cond hf rfl (fun hi2 => ?_) (fun hi2 => ?_)
      · simp only [decide_eq_true_eq, decide_eq_false_iff_not, Bool.not_eq_true', Bool.not_eq_false', Bool.not_eq_true, Int.not_lt, Int.not_le] at hi2
        have hlt : i < s.length := by omega
        refine wp_skip ?_
        refine then_n ?_
        refine wp_seq ?_
        refine wp_block ?_
        refine c_draw hs (fun w' => w'.cell? ⟨p, 1, none⟩ = some (.slice a1 (data.length + i) c1)) [.held, .held, .held, .held, .held, .held, .held, .held, .eff, .eff, .held, .held, .fin] (by kernel_rfl) (by kernel_rfl) (fun w' _ hs => hs.cell (.here _) rfl) ?_
        clear hs; intro w hs hC hw
        refine m_held hf rfl (fun w' _ => x_move (hf.eval rfl) w') ?_; clear hf a; intro a hf
        refine m_held hf rfl (fun w' _ => x_move (hf.eval rfl) w') ?_; clear hf a; intro a hf
        refine m_held hf rfl (fun w' _ => x_nilCheck (hf.eval rfl) w') ?_; clear hf a; intro a hf
        refine m_held hf rfl (fun w' _ => x_fieldAddr fo85_1 (hf.eval rfl) w') ?_; clear hf a; intro a hf
        refine m_held hf rfl (fun w' hc => x_load sc31 (hf.eval rfl) hc) ?_; clear hf a; intro a hf
        refine m_held hf rfl (fun w' _ => x_move (hf.eval rfl) w') ?_; clear hf a; intro a hf
        refine m_held hf rfl (fun w' _ => x_move (hf.eval rfl) w') ?_; clear hf a; intro a hf
        refine m_held hf rfl (fun w' hc => x_indexStr Try.underlying9 (hf.eval rfl) (hf.eval rfl) hlt _) ?_; clear hf a; intro a hf
        replace hf := hf.now (k := 39) (v' := u8v s[i]) rfl (rfl)
        refine m_eff hf rfl (y_lit (xs := [.tmp 39]) hs sl31 (hf.evals rfl) rfl (by simp [Value.cells, u8v]) (by decide) ?_); clear hf hs a; intro b2 w hs; refine ⟨hs.cell (.there _ (.here _)) rfl, ?_⟩; intro a hf
        refine m_eff hf rfl (y_appendB (s := [s[i]]) hs sl31 rfl (hf.eval rfl) (hf.eval rfl) (.there _ (.there _ (.here _))) (hs.rdB (.here _) fun h hb => rdB_of_bb (T := 5) (l := [s[i]]) hb (by simp) (by simp)) (by simp; omega) ?_); clear hf hs a; intro v2 w hs hv; refine ⟨hs.cell (.there _ (.there _ (.here _))) rfl, ?_⟩; intro a hf
        replace hs := (hs.lose (.there _ (.here _))).take (.there _ (.here _))
        have he : data ++ s.take i ++ [s[i]] = data ++ s.take (i + 1) := by rw [List.append_assoc, List.take_succ_eq_append_getElem hlt]
        rw [he] at hs
        obtain ⟨a2, c2, rfl, hc2⟩ := slB_shape (hs.take (.there _ (.here _)))
        have hle : (data ++ s.take (i + 1)).length = data.length + (i + 1) := by simp; omega
        rw [hle] at hs hf
        refine m_held hf rfl (fun w' _ => x_nilCheck (hf.eval rfl) w') ?_; clear hf a; intro a hf
        refine m_held hf rfl (fun w' _ => x_fieldAddr fo85_1 (hf.eval rfl) w') ?_; clear hf a; intro a hf
        refine m_fin0 hf rfl (y_store hs sc31 (hf.eval rfl) (hf.eval rfl) rfl (by first | exact .here _ | exact .there _ (.here _) | exact .there _ (.there _ (.here _)) | exact .there _ (.there _ (.there _ (.here _))) | exact .there _ (.there _ (.there _ (.there _ (.here _)))) | exact .there _ (.there _ (.there _ (.there _ (.there _ (.here _)))))) (by simp) ?_); clear hf hs a; intro w hs; intro a hf
        refine blk_n ?_
        refine then_n ?_
        refine wp_region_lit ?_
        refine s_m hf rfl ?_; clear hf a; intro a hf
        refine s_v hf (x_bin (hf.eval rfl) (hf.eval rfl) (r_addi _ (by omega) (by omega))) ?_; clear hf a; intro a hf
        refine s_a hf rfl ?_; clear hf a; intro a hf
        refine s_nil ?_
        exact ⟨_, _, ⟨i + 1, a2, c2, rfl, rfl, by omega, hs⟩, by omega, hf.sub ⟨rfl, rfl, rfl, trivial⟩⟩
      · simp only [decide_eq_true_eq, decide_eq_false_iff_not, Bool.not_eq_true', Bool.not_eq_false', Bool.not_eq_true, Int.not_lt, Int.not_le] at hi2
        refine wp_exit ?_
        refine then_x ?_
        refine then_x ?_
        refine blk_x ?_
        refine r_0n hf Try.results67 ?_
        have hi9 : i = s.length := by omega
        subst hi9
        rw [List.take_length] at hs
        have hN : txtB data lim 0 s = (data ++ s, 0) := by unfold txtB; rw [if_neg (by simp), if_neg (by omega)]
        rw [hN]
        exact ⟨rfl, rbufA_close hs⟩

theorem bPatch_spec (σ : Sig) (w : World) (R : List Asrt) (p : Nat) (data : List UInt8) (lim bad : Int) (hs : St σ w (bufA 83 5 p data lim bad :: R)) (hlim : bad = 0 → 0 ≤ lim) (hlim2 : lim ≤ 9223372036854775807) (hd : data.length ≤ 70368744177664) (at_ v : Int) (hat : at_ ≤ 9223372036854775807) : Calls Try.prog 48 #[.pointer (some ⟨p, 0, none⟩), .int .i64 at_, .int .i64 v] w fun e w' => e = .returned (.tuple #[]) ∧ St σ w' (bufA 83 5 p (patB data bad at_ v).1 lim (patB data bad at_ v).2 :: R) := by
  obtain ⟨v0, hs⟩ := bufA_open hs
  obtain ⟨a0, c0, rfl, hc0⟩ := slB_shape (hs.take (.there _ (.here _)))
  refine c_enter (N := 57) Try.func48 rfl Try.ntmps48 (by simp) ?_
  intro a hf
  refine wp_seq ?_
  refine wp_seq ?_
  refine wp_region_lit ?_
  refine s_m hf rfl ?_; clear hf a; intro a hf
  refine s_v hf (x_eqNil Try.underlying49 (hf.eval rfl) (hf.eval rfl)) ?_; clear hf a; intro a hf
  replace hf := hf.now (k := 8) (v' := .bool false) rfl rfl
  refine s_m hf rfl ?_; clear hf a; intro a hf
  refine s_do hf (wanted_of hf rfl rfl rfl) (.value (x_move (hf.eval rfl) _) ?_); clear hf a; intro a hf
  refine s_do hf (wanted_of hf rfl rfl rfl) (.value (x_nilCheck (hf.eval rfl) _) ?_); clear hf a; intro a hf
  refine s_do hf (wanted_of hf rfl rfl rfl) (.value (x_fieldAddr fo83_2 (hf.eval rfl) _) ?_); clear hf a; intro a hf
  refine s_do hf (wanted_of hf rfl rfl rfl) (.value (x_load sc23 (hf.eval rfl) (by first | exact hs.cell (.here _) rfl | exact hs.cell (.there _ (.here _)) rfl | exact hs.cell (.there _ (.there _ (.here _))) rfl | exact hs.cell (.there _ (.there _ (.there _ (.here _)))) rfl | exact hs.cell (.there _ (.there _ (.there _ (.there _ (.here _))))) rfl | exact hs.cell (.there _ (.there _ (.there _ (.there _ (.there _ (.here _)))))) rfl)) ?_); clear hf a; intro a hf
  refine s_do hf (wanted_of hf rfl rfl rfl) (.value (x_bin (hf.eval rfl) (hf.eval rfl) (r_ne _ _ _ _) _) ?_); clear hf a; intro a hf
  refine s_v hf (x_pick_f (hf.eval rfl) (hf.eval rfl)) ?_; clear hf a; intro a hf
  refine s_nil ?_
  refine then_n ?_
  refine c_cond hf rfl (fun hi0 => ?_) (fun hi0 => ?_)
  · simp only [decide_eq_true_eq, decide_eq_false_iff_not, Bool.not_eq_true', Bool.not_eq_false', Bool.not_eq_true, Int.not_lt, Int.not_le] at hi0
    refine wp_ret ?_
    refine then_r ?_
    refine r_0 hf Try.results48 ?_
    have hN : patB data bad at_ v = (data, bad) := by unfold patB; rw [if_pos (by simpa using hi0)]
    rw [hN]
    exact ⟨rfl, bufA_close hs⟩
  · simp only [decide_eq_true_eq, decide_eq_false_iff_not, Bool.not_eq_true', Bool.not_eq_false', Bool.not_eq_true, Int.not_lt, Int.not_le] at hi0
    have hb : bad = 0 := by simpa using hi0
    subst hb
    have hl0 := hlim rfl
    refine wp_skip ?_
    refine then_n ?_
    refine wp_seq ?_
    refine wp_seq ?_
    refine wp_region_lit ?_
    refine s_m hf rfl ?_; clear hf a; intro a hf
    refine s_v hf (x_bin (hf.eval rfl) (hf.eval rfl) (r_lt _ _ _ _)) ?_; clear hf a; intro a hf
    refine s_m hf rfl ?_; clear hf a; intro a hf
    refine s_bool hf (k := 18) rfl (fun hg1_2 hf' => ?_) (fun hg1_2 hf' => ?_)
    · clear hf
      have hf := hf'
      clear hf'
      simp only [decide_eq_true_eq, decide_eq_false_iff_not, Bool.not_eq_true', Bool.not_eq_false', Bool.not_eq_true, Int.not_lt, Int.not_le] at hg1_2
      refine s_pass hf rfl rfl ?_; clear hf a; intro a hf
      refine s_pass hf rfl rfl ?_; clear hf a; intro a hf
      refine s_pass hf rfl rfl ?_; clear hf a; intro a hf
      refine s_pass hf rfl rfl ?_; clear hf a; intro a hf
      refine s_pass hf rfl rfl ?_; clear hf a; intro a hf
      refine s_pass hf rfl rfl ?_; clear hf a; intro a hf
      refine s_pass hf rfl rfl ?_; clear hf a; intro a hf
      refine s_pass hf rfl rfl ?_; clear hf a; intro a hf
      refine s_v hf (x_pick_t (hf.eval rfl) (hf.eval rfl)) ?_; clear hf a; intro a hf
      refine s_nil ?_
      refine then_n ?_
      refine c_cond_t hf rfl rfl ?_
      refine wp_seq ?_
      refine wp_region_lit ?_
      refine s_m hf rfl ?_; clear hf a; intro a hf
      refine s_v hf (x_nilCheck (hf.eval rfl)) ?_; clear hf a; intro a hf
      refine s_v hf (x_fieldAddr fo83_2 (hf.eval rfl)) ?_; clear hf a; intro a hf
      refine s_do0 hf rfl (y_store hs sc23 (hf.eval rfl) (hf.eval rfl) rfl (by first | exact .here _ | exact .there _ (.here _) | exact .there _ (.there _ (.here _)) | exact .there _ (.there _ (.there _ (.here _))) | exact .there _ (.there _ (.there _ (.there _ (.here _)))) | exact .there _ (.there _ (.there _ (.there _ (.there _ (.here _)))))) (by simp) ?_); clear hf hs a; intro w hs a hf
      refine s_nil ?_
      refine then_n ?_
      refine wp_ret ?_
      refine then_r ?_
      refine r_0 hf Try.results48 ?_
      have hN : patB data 0 at_ v = (data, 1) := by unfold patB; rw [if_neg (by simp), if_pos (by omega)]
      rw [hN]
      exact ⟨rfl, bufA_close hs⟩
    · clear hf
      have hf := hf'
      clear hf'
      simp only [decide_eq_true_eq, decide_eq_false_iff_not, Bool.not_eq_true', Bool.not_eq_false', Bool.not_eq_true, Int.not_lt, Int.not_le] at hg1_2
      refine s_do hf (wanted_of hf rfl rfl rfl) (.value (x_move (hf.eval rfl) _) ?_); clear hf a; intro a hf
      refine s_do hf (wanted_of hf rfl rfl rfl) (.value (x_move (hf.eval rfl) _) ?_); clear hf a; intro a hf
      refine s_do hf (wanted_of hf rfl rfl rfl) (.value (x_nilCheck (hf.eval rfl) _) ?_); clear hf a; intro a hf
      refine s_do hf (wanted_of hf rfl rfl rfl) (.value (x_fieldAddr fo83_0 (hf.eval rfl) _) ?_); clear hf a; intro a hf
      refine s_do hf (wanted_of hf rfl rfl rfl) (.value (x_load sc31 (hf.eval rfl) (by first | exact hs.cell (.here _) rfl | exact hs.cell (.there _ (.here _)) rfl | exact hs.cell (.there _ (.there _ (.here _))) rfl | exact hs.cell (.there _ (.there _ (.there _ (.here _)))) rfl | exact hs.cell (.there _ (.there _ (.there _ (.there _ (.here _))))) rfl | exact hs.cell (.there _ (.there _ (.there _ (.there _ (.there _ (.here _)))))) rfl)) ?_); clear hf a; intro a hf
      refine s_do hf (wanted_of hf rfl rfl rfl) (.value (x_len Try.underlying31 (hf.eval rfl) _) ?_); clear hf a; intro a hf
      refine s_do hf (wanted_of hf rfl rfl rfl) (.value (x_bin (hf.eval rfl) (hf.eval rfl) (r_subi _ (by omega) (by omega)) _) ?_); clear hf a; intro a hf
      refine s_do hf (wanted_of hf rfl rfl rfl) (.value (x_bin (hf.eval rfl) (hf.eval rfl) (r_gt _ _ _ _) _) ?_); clear hf a; intro a hf
      refine s_v hf (x_pick_f (hf.eval rfl) (hf.eval rfl)) ?_; clear hf a; intro a hf
      refine s_nil ?_
      refine then_n ?_
      refine c_cond hf rfl (fun hi1 => ?_) (fun hi1 => ?_)
      · simp only [decide_eq_true_eq, decide_eq_false_iff_not, Bool.not_eq_true', Bool.not_eq_false', Bool.not_eq_true, Int.not_lt, Int.not_le] at hi1
        refine wp_seq ?_
        refine wp_region_lit ?_
        refine s_m hf rfl ?_; clear hf a; intro a hf
        refine s_v hf (x_nilCheck (hf.eval rfl)) ?_; clear hf a; intro a hf
        refine s_v hf (x_fieldAddr fo83_2 (hf.eval rfl)) ?_; clear hf a; intro a hf
        refine s_do0 hf rfl (y_store hs sc23 (hf.eval rfl) (hf.eval rfl) rfl (by first | exact .here _ | exact .there _ (.here _) | exact .there _ (.there _ (.here _)) | exact .there _ (.there _ (.there _ (.here _))) | exact .there _ (.there _ (.there _ (.there _ (.here _)))) | exact .there _ (.there _ (.there _ (.there _ (.there _ (.here _)))))) (by simp) ?_); clear hf hs a; intro w hs a hf
        refine s_nil ?_
        refine then_n ?_
        refine wp_ret ?_
        refine then_r ?_
        refine r_0 hf Try.results48 ?_
        have hN : patB data 0 at_ v = (data, 1) := by unfold patB; rw [if_neg (by simp), if_pos (by omega)]
        rw [hN]
        exact ⟨rfl, bufA_close hs⟩
      · simp only [decide_eq_true_eq, decide_eq_false_iff_not, Bool.not_eq_true', Bool.not_eq_false', Bool.not_eq_true, Int.not_lt, Int.not_le] at hi1
        refine wp_skip ?_
        refine then_n ?_
        refine wp_seq ?_
        refine wp_seq ?_
        refine wp_region_lit ?_
        refine s_m hf rfl ?_; clear hf a; intro a hf
        refine s_v hf (x_bin (hf.eval rfl) (hf.eval rfl) (r_lt _ _ _ _)) ?_; clear hf a; intro a hf
        refine s_m hf rfl ?_; clear hf a; intro a hf
        refine s_bool hf (k := 33) rfl (fun hg3_2 hf' => ?_) (fun hg3_2 hf' => ?_)
        · clear hf
          have hf := hf'
          clear hf'
          simp only [decide_eq_true_eq, decide_eq_false_iff_not, Bool.not_eq_true', Bool.not_eq_false', Bool.not_eq_true, Int.not_lt, Int.not_le] at hg3_2
          refine s_pass hf rfl rfl ?_; clear hf a; intro a hf
          refine s_pass hf rfl rfl ?_; clear hf a; intro a hf
          refine s_v hf (x_pick_t (hf.eval rfl) (hf.eval rfl)) ?_; clear hf a; intro a hf
          refine s_nil ?_
          refine then_n ?_
          refine c_cond_t hf rfl rfl ?_
          refine wp_seq ?_
          refine wp_region_lit ?_
          refine s_m hf rfl ?_; clear hf a; intro a hf
          refine s_v hf (x_nilCheck (hf.eval rfl)) ?_; clear hf a; intro a hf
          refine s_v hf (x_fieldAddr fo83_2 (hf.eval rfl)) ?_; clear hf a; intro a hf
          refine s_do0 hf rfl (y_store hs sc23 (hf.eval rfl) (hf.eval rfl) rfl (by first | exact .here _ | exact .there _ (.here _) | exact .there _ (.there _ (.here _)) | exact .there _ (.there _ (.there _ (.here _))) | exact .there _ (.there _ (.there _ (.there _ (.here _)))) | exact .there _ (.there _ (.there _ (.there _ (.there _ (.here _)))))) (by simp) ?_); clear hf hs a; intro w hs a hf
          refine s_nil ?_
          refine then_n ?_
          refine wp_ret ?_
          refine then_r ?_
          refine r_0 hf Try.results48 ?_
          have hN : patB data 0 at_ v = (data, 21) := by unfold patB; rw [if_neg (by simp), if_neg (by omega), if_pos (by omega)]
          rw [hN]
          exact ⟨rfl, bufA_close hs⟩
        · clear hf
          have hf := hf'
          clear hf'
          simp only [decide_eq_true_eq, decide_eq_false_iff_not, Bool.not_eq_true', Bool.not_eq_false', Bool.not_eq_true, Int.not_lt, Int.not_le] at hg3_2
          refine s_do hf (wanted_of hf rfl rfl rfl) (.value (x_move (hf.eval rfl) _) ?_); clear hf a; intro a hf
          refine s_do hf (wanted_of hf rfl rfl rfl) (.value (x_bin (hf.eval rfl) (hf.eval rfl) (r_ge _ _ _ _) _) ?_); clear hf a; intro a hf
          refine s_v hf (x_pick_f (hf.eval rfl) (hf.eval rfl)) ?_; clear hf a; intro a hf
          refine s_nil ?_
          refine then_n ?_
          refine c_cond hf rfl (fun hi2 => ?_) (fun hi2 => ?_)
          · simp only [decide_eq_true_eq, decide_eq_false_iff_not, Bool.not_eq_true', Bool.not_eq_false', Bool.not_eq_true, Int.not_lt, Int.not_le] at hi2
            refine wp_seq ?_
            refine wp_region_lit ?_
            refine s_m hf rfl ?_; clear hf a; intro a hf
            refine s_v hf (x_nilCheck (hf.eval rfl)) ?_; clear hf a; intro a hf
            refine s_v hf (x_fieldAddr fo83_2 (hf.eval rfl)) ?_; clear hf a; intro a hf
            refine s_do0 hf rfl (y_store hs sc23 (hf.eval rfl) (hf.eval rfl) rfl (by first | exact .here _ | exact .there _ (.here _) | exact .there _ (.there _ (.here _)) | exact .there _ (.there _ (.there _ (.here _))) | exact .there _ (.there _ (.there _ (.there _ (.here _)))) | exact .there _ (.there _ (.there _ (.there _ (.there _ (.here _)))))) (by simp) ?_); clear hf hs a; intro w hs a hf
            refine s_nil ?_
            refine then_n ?_
            refine wp_ret ?_
            refine then_r ?_
            refine r_0 hf Try.results48 ?_
            have hN : patB data 0 at_ v = (data, 21) := by unfold patB; rw [if_neg (by simp), if_neg (by omega), if_pos (by omega)]
            rw [hN]
            exact ⟨rfl, bufA_close hs⟩
          · simp only [decide_eq_true_eq, decide_eq_false_iff_not, Bool.not_eq_true', Bool.not_eq_false', Bool.not_eq_true, Int.not_lt, Int.not_le] at hi2
            have hV2 : v < 4294967296 := by omega
            obtain ⟨A, rfl⟩ := Int.eq_ofNat_of_zero_le (show 0 ≤ at_ by omega)
            obtain ⟨V, rfl⟩ := Int.eq_ofNat_of_zero_le (show 0 ≤ v by omega)
            have hA : A + 4 ≤ data.length := by omega
            obtain ⟨a0, rfl⟩ := sl_some (hs.take (.there _ (.here _))) (by omega)
            clear hg1_2 hg3_2 hi1 hi2
            refine wp_skip ?_
            refine then_n ?_
            refine wp_seq ?_
            refine wp_region_lit ?_
            refine s_m hf rfl ?_; clear hf a; intro a hf
            refine s_nil ?_
            refine then_n ?_
            refine wp_block ?_
            refine c_loop (L0 := [(0, _), (1, _), (2, _)]) (fun M w m => ∃ j : Nat, M = [(40, .int .i64 (j : Int))] ∧ 4 - j = m ∧ j ≤ 4 ∧ St σ w (cb p 83 [.slice (some a0) data.length c0, .int .i64 lim, .int .i64 0] :: slB 5 (.slice (some a0) data.length c0) (data.take A ++ leB j V ++ data.drop (A + j)) :: R)) (M0 := [(40, .int .i64 0)]) (⟨0, rfl, rfl, Nat.zero_le _, by simpa [leB] using hs⟩) (hf.sub ⟨rfl, rfl, rfl, rfl, trivial⟩) ?_
            clear hf hs a
            rintro M m a w ⟨j, rfl, rfl, hj, hs⟩ hf
            refine wp_seq ?_
            refine wp_region_lit ?_
            refine s_v hf (x_bin (hf.eval rfl) (hf.eval rfl) (r_lt _ _ _ _)) ?_; clear hf a; intro a hf
            refine s_nil ?_
            refine then_n ?_
            refine wp_seq ?_
            refine c_cond hf rfl (fun hi3 => ?_) (fun hi3 => ?_)
            · simp only [decide_eq_true_eq, decide_eq_false_iff_not, Bool.not_eq_true', Bool.not_eq_false', Bool.not_eq_true, Int.not_lt, Int.not_le] at hi3
              have hlt : j < 4 := by omega
              refine wp_skip ?_
              refine then_n ?_
              refine wp_seq ?_
              refine wp_block ?_
              refine wp_seq ?_
              refine wp_region_lit ?_
              refine s_m hf rfl ?_; clear hf a; intro a hf
              refine s_a hf rfl ?_; clear hf a; intro a hf
              refine s_nil ?_
              refine then_n ?_
              refine c_draw hs (fun _ => True) [.held, .held, .held, .read, .held, .held, .held, .held, .held, .held, .held, .held, .held, .fin] (by kernel_rfl) (by kernel_rfl) (fun _ _ _ => trivial) ?_
              clear hs; intro w hs hC hw
              refine m_held hf rfl (fun w' _ => x_move (hf.eval rfl) w') ?_; clear hf a; intro a hf
              refine m_held hf rfl (fun w' _ => x_nilCheck (hf.eval rfl) w') ?_; clear hf a; intro a hf
              refine m_held hf rfl (fun w' _ => x_fieldAddr fo83_0 (hf.eval rfl) w') ?_; clear hf a; intro a hf
              refine m_read hf rfl (x_load sc31 (hf.eval rfl) (by first | exact hs.cell (.here _) rfl | exact hs.cell (.there _ (.here _)) rfl | exact hs.cell (.there _ (.there _ (.here _))) rfl | exact hs.cell (.there _ (.there _ (.there _ (.here _)))) rfl | exact hs.cell (.there _ (.there _ (.there _ (.there _ (.here _))))) rfl | exact hs.cell (.there _ (.there _ (.there _ (.there _ (.there _ (.here _)))))) rfl)) ?_; clear hf a; intro a hf
              refine m_held hf rfl (fun w' _ => x_move (hf.eval rfl) w') ?_; clear hf a; intro a hf
              refine m_held hf rfl (fun w' _ => x_move (hf.eval rfl) w') ?_; clear hf a; intro a hf
              refine m_held hf rfl (fun w' _ => x_bin (hf.eval rfl) (hf.eval rfl) (r_addi _ (by omega) (by omega)) w') ?_; clear hf a; intro a hf
              refine m_held hf rfl (fun w' _ => x_move (hf.eval rfl) w') ?_; clear hf a; intro a hf
              refine m_held hf rfl (fun w' _ => x_move (hf.eval rfl) w') ?_; clear hf a; intro a hf
              refine m_held hf rfl (fun w' _ => x_bin (hf.eval rfl) (hf.eval rfl) (r_muli _ (by omega) (by omega)) w') ?_; clear hf a; intro a hf
              replace hf := hf.now (k := 52) (v' := .int .i64 ((8 * j : Nat) : Int)) rfl (by congr 1)
              refine m_held hf rfl (fun w' _ => x_bin (hf.eval rfl) (hf.eval rfl) (r_shr_i64 _ (j := 8 * j) (by omega)) w') ?_; clear hf a; intro a hf
              replace hf := hf.now (k := 53) (v' := .int .i64 ((V / 256 ^ j : Nat) : Int)) rfl (by rw [pw8])
              refine m_held hf rfl (fun w' _ => x_convr Try.underlying3 Try.underlying5 (hf.eval rfl) (u8_of .i64 rfl _) w') ?_; clear hf a; intro a hf
              replace hf := hf.now (k := 54) (v' := u8v (UInt8.ofNat (V / 256 ^ j % 256))) rfl (rfl)
              refine m_held hf rfl (fun w' _ => x_indexAddr sl31 (hf.eval rfl) (hf.eval rfl) (by omega) (by omega) w') ?_; clear hf a; intro a hf
              replace hf := hf.now (k := 55) (v' := .pointer (some (a0.add ((A + j) * 1)))) rfl (by rw [show ((A : Int) + (j : Int)).toNat = A + j by omega])
              refine m_fin0 hf rfl (y_setB (i := A + j) (u := UInt8.ofNat (V / 256 ^ j % 256)) hs sc5 (hf.eval rfl) (hf.eval rfl) rfl (pat_len data hA hj).symm (.there _ (.here _)) (by omega) ?_); clear hf hs a; intro w hs; intro a hf
              refine blk_n ?_
              refine then_n ?_
              refine wp_region_lit ?_
              refine s_v hf (x_bin (hf.eval rfl) (hf.eval rfl) (r_addi _ (by omega) (by omega))) ?_; clear hf a; intro a hf
              refine s_m hf rfl ?_; clear hf a; intro a hf
              refine s_nil ?_
              rw [pat_step data hA (by omega)] at hs
              exact ⟨_, _, ⟨j + 1, rfl, rfl, by omega, hs⟩, by omega, hf.sub ⟨rfl, rfl, rfl, rfl, trivial⟩⟩
            · simp only [decide_eq_true_eq, decide_eq_false_iff_not, Bool.not_eq_true', Bool.not_eq_false', Bool.not_eq_true, Int.not_lt, Int.not_le] at hi3
              refine wp_exit ?_
              refine then_x ?_
              refine then_x ?_
              refine blk_x ?_
              refine r_0n hf Try.results48 ?_
              obtain rfl : j = 4 := by omega
              have hN : patB data 0 (A : Int) (V : Int) = (data.take A ++ leB 4 V ++ data.drop (A + 4), 0) := by unfold patB; rw [if_neg (by simp), if_neg (by omega), if_neg (by omega), Int.toNat_natCast, Int.toNat_natCast]
              rw [hN]
              exact ⟨rfl, bufA_close hs⟩

theorem refBPatch_spec (σ : Sig) (w : World) (R : List Asrt) (p : Nat) (data : List UInt8) (lim bad : Int) (hs : St σ w (rbufA 85 5 p data lim bad :: R)) (hlim : bad = 0 → 0 ≤ lim) (hlim2 : lim ≤ 9223372036854775807) (hd : data.length ≤ 70368744177664) (at_ v : Int) (hat : at_ ≤ 9223372036854775807) : Calls Try.prog 68 #[.pointer (some ⟨p, 0, none⟩), .int .i64 at_, .int .i64 v] w fun e w' => e = .returned (.tuple #[]) ∧ St σ w' (rbufA 85 5 p (patB data bad at_ v).1 lim (patB data bad at_ v).2 :: R) := by
  obtain ⟨v0, hs⟩ := rbufA_open hs
  obtain ⟨a0, c0, rfl, hc0⟩ := slB_shape (hs.take (.there _ (.here _)))
  refine c_enter (N := 56) Try.func68 rfl Try.ntmps68 (by simp) ?_
  intro a hf
  refine wp_seq ?_
  refine wp_seq ?_
  refine wp_region_lit ?_
  refine s_m hf rfl ?_; clear hf a; intro a hf
  refine s_v hf (x_nilCheck (hf.eval rfl)) ?_; clear hf a; intro a hf
  refine s_v hf (x_fieldAddr fo85_2 (hf.eval rfl)) ?_; clear hf a; intro a hf
  refine s_r hf (x_load sc3 (hf.eval rfl) (by first | exact hs.cell (.here _) rfl | exact hs.cell (.there _ (.here _)) rfl | exact hs.cell (.there _ (.there _ (.here _))) rfl | exact hs.cell (.there _ (.there _ (.there _ (.here _)))) rfl | exact hs.cell (.there _ (.there _ (.there _ (.there _ (.here _))))) rfl | exact hs.cell (.there _ (.there _ (.there _ (.there _ (.there _ (.here _)))))) rfl)) ?_; clear hf a; intro a hf
  refine s_v hf (x_bin (hf.eval rfl) (hf.eval rfl) (r_ne _ _ _ _)) ?_; clear hf a; intro a hf
  refine s_nil ?_
  refine then_n ?_
  refine c_cond hf rfl (fun hi0 => ?_) (fun hi0 => ?_)
  · simp only [decide_eq_true_eq, decide_eq_false_iff_not, Bool.not_eq_true', Bool.not_eq_false', Bool.not_eq_true, Int.not_lt, Int.not_le] at hi0
    refine wp_ret ?_
    refine then_r ?_
    refine r_0 hf Try.results68 ?_
    have hN : patB data bad at_ v = (data, bad) := by unfold patB; rw [if_pos (by simpa using hi0)]
    rw [hN]
    exact ⟨rfl, rbufA_close hs⟩
  · simp only [decide_eq_true_eq, decide_eq_false_iff_not, Bool.not_eq_true', Bool.not_eq_false', Bool.not_eq_true, Int.not_lt, Int.not_le] at hi0
    have hb : bad = 0 := by simpa using hi0
    subst hb
    have hl0 := hlim rfl
    refine wp_skip ?_
    refine then_n ?_
    refine wp_seq ?_
    refine wp_seq ?_
    refine wp_region_lit ?_
    refine s_m hf rfl ?_; clear hf a; intro a hf
    refine s_v hf (x_bin (hf.eval rfl) (hf.eval rfl) (r_lt _ _ _ _)) ?_; clear hf a; intro a hf
    refine s_m hf rfl ?_; clear hf a; intro a hf
    refine s_bool hf (k := 15) rfl (fun hg1_2 hf' => ?_) (fun hg1_2 hf' => ?_)
    · clear hf
      have hf := hf'
      clear hf'
      simp only [decide_eq_true_eq, decide_eq_false_iff_not, Bool.not_eq_true', Bool.not_eq_false', Bool.not_eq_true, Int.not_lt, Int.not_le] at hg1_2
      refine s_pass hf rfl rfl ?_; clear hf a; intro a hf
      refine s_pass hf rfl rfl ?_; clear hf a; intro a hf
      refine s_pass hf rfl rfl ?_; clear hf a; intro a hf
      refine s_pass hf rfl rfl ?_; clear hf a; intro a hf
      refine s_pass hf rfl rfl ?_; clear hf a; intro a hf
      refine s_pass hf rfl rfl ?_; clear hf a; intro a hf
      refine s_pass hf rfl rfl ?_; clear hf a; intro a hf
      refine s_pass hf rfl rfl ?_; clear hf a; intro a hf
      refine s_v hf (x_pick_t (hf.eval rfl) (hf.eval rfl)) ?_; clear hf a; intro a hf
      refine s_nil ?_
      refine then_n ?_
      refine c_cond_t hf rfl rfl ?_
      refine wp_seq ?_
      refine wp_region_lit ?_
      refine s_m hf rfl ?_; clear hf a; intro a hf
      refine s_v hf (x_nilCheck (hf.eval rfl)) ?_; clear hf a; intro a hf
      refine s_v hf (x_fieldAddr fo85_2 (hf.eval rfl)) ?_; clear hf a; intro a hf
      refine s_do0 hf rfl (y_store hs sc3 (hf.eval rfl) (hf.eval rfl) rfl (by first | exact .here _ | exact .there _ (.here _) | exact .there _ (.there _ (.here _)) | exact .there _ (.there _ (.there _ (.here _))) | exact .there _ (.there _ (.there _ (.there _ (.here _)))) | exact .there _ (.there _ (.there _ (.there _ (.there _ (.here _)))))) (by simp) ?_); clear hf hs a; intro w hs a hf
      refine s_nil ?_
      refine then_n ?_
      refine wp_ret ?_
      refine then_r ?_
      refine r_0 hf Try.results68 ?_
      have hN : patB data 0 at_ v = (data, 1) := by unfold patB; rw [if_neg (by simp), if_pos (by omega)]
      rw [hN]
      exact ⟨rfl, rbufA_close hs⟩
    · clear hf
      have hf := hf'
      clear hf'
      simp only [decide_eq_true_eq, decide_eq_false_iff_not, Bool.not_eq_true', Bool.not_eq_false', Bool.not_eq_true, Int.not_lt, Int.not_le] at hg1_2
      refine s_do hf (wanted_of hf rfl rfl rfl) (.value (x_move (hf.eval rfl) _) ?_); clear hf a; intro a hf
      refine s_do hf (wanted_of hf rfl rfl rfl) (.value (x_move (hf.eval rfl) _) ?_); clear hf a; intro a hf
      refine s_do hf (wanted_of hf rfl rfl rfl) (.value (x_nilCheck (hf.eval rfl) _) ?_); clear hf a; intro a hf
      refine s_do hf (wanted_of hf rfl rfl rfl) (.value (x_fieldAddr fo85_1 (hf.eval rfl) _) ?_); clear hf a; intro a hf
      refine s_do hf (wanted_of hf rfl rfl rfl) (.value (x_load sc31 (hf.eval rfl) (by first | exact hs.cell (.here _) rfl | exact hs.cell (.there _ (.here _)) rfl | exact hs.cell (.there _ (.there _ (.here _))) rfl | exact hs.cell (.there _ (.there _ (.there _ (.here _)))) rfl | exact hs.cell (.there _ (.there _ (.there _ (.there _ (.here _))))) rfl | exact hs.cell (.there _ (.there _ (.there _ (.there _ (.there _ (.here _)))))) rfl)) ?_); clear hf a; intro a hf
      refine s_do hf (wanted_of hf rfl rfl rfl) (.value (x_len Try.underlying31 (hf.eval rfl) _) ?_); clear hf a; intro a hf
      refine s_do hf (wanted_of hf rfl rfl rfl) (.value (x_bin (hf.eval rfl) (hf.eval rfl) (r_subi _ (by omega) (by omega)) _) ?_); clear hf a; intro a hf
      refine s_do hf (wanted_of hf rfl rfl rfl) (.value (x_bin (hf.eval rfl) (hf.eval rfl) (r_gt _ _ _ _) _) ?_); clear hf a; intro a hf
      refine s_v hf (x_pick_f (hf.eval rfl) (hf.eval rfl)) ?_; clear hf a; intro a hf
      refine s_nil ?_
      refine then_n ?_
      refine c_cond hf rfl (fun hi1 => ?_) (fun hi1 => ?_)
      · simp only [decide_eq_true_eq, decide_eq_false_iff_not, Bool.not_eq_true', Bool.not_eq_false', Bool.not_eq_true, Int.not_lt, Int.not_le] at hi1
        refine wp_seq ?_
        refine wp_region_lit ?_
        refine s_m hf rfl ?_; clear hf a; intro a hf
        refine s_v hf (x_nilCheck (hf.eval rfl)) ?_; clear hf a; intro a hf
        refine s_v hf (x_fieldAddr fo85_2 (hf.eval rfl)) ?_; clear hf a; intro a hf
        refine s_do0 hf rfl (y_store hs sc3 (hf.eval rfl) (hf.eval rfl) rfl (by first | exact .here _ | exact .there _ (.here _) | exact .there _ (.there _ (.here _)) | exact .there _ (.there _ (.there _ (.here _))) | exact .there _ (.there _ (.there _ (.there _ (.here _)))) | exact .there _ (.there _ (.there _ (.there _ (.there _ (.here _)))))) (by simp) ?_); clear hf hs a; intro w hs a hf
        refine s_nil ?_
        refine then_n ?_
        refine wp_ret ?_
        refine then_r ?_
        refine r_0 hf Try.results68 ?_
        have hN : patB data 0 at_ v = (data, 1) := by unfold patB; rw [if_neg (by simp), if_pos (by omega)]
        rw [hN]
        exact ⟨rfl, rbufA_close hs⟩
      · simp only [decide_eq_true_eq, decide_eq_false_iff_not, Bool.not_eq_true', Bool.not_eq_false', Bool.not_eq_true, Int.not_lt, Int.not_le] at hi1
        refine wp_skip ?_
        refine then_n ?_
        refine wp_seq ?_
        refine wp_seq ?_
        refine wp_region_lit ?_
        refine s_m hf rfl ?_; clear hf a; intro a hf
        refine s_v hf (x_bin (hf.eval rfl) (hf.eval rfl) (r_lt _ _ _ _)) ?_; clear hf a; intro a hf
        refine s_m hf rfl ?_; clear hf a; intro a hf
        refine s_bool hf (k := 30) rfl (fun hg3_2 hf' => ?_) (fun hg3_2 hf' => ?_)
        · clear hf
          have hf := hf'
          clear hf'
          simp only [decide_eq_true_eq, decide_eq_false_iff_not, Bool.not_eq_true', Bool.not_eq_false', Bool.not_eq_true, Int.not_lt, Int.not_le] at hg3_2
          refine s_pass hf rfl rfl ?_; clear hf a; intro a hf
          refine s_pass hf rfl rfl ?_; clear hf a; intro a hf
          refine s_pass hf rfl rfl ?_; clear hf a; intro a hf
          refine s_v hf (x_pick_t (hf.eval rfl) (hf.eval rfl)) ?_; clear hf a; intro a hf
          refine s_nil ?_
          refine then_n ?_
          refine c_cond_t hf rfl rfl ?_
          refine wp_seq ?_
          refine wp_region_lit ?_
          refine s_m hf rfl ?_; clear hf a; intro a hf
          refine s_v hf (x_nilCheck (hf.eval rfl)) ?_; clear hf a; intro a hf
          refine s_v hf (x_fieldAddr fo85_2 (hf.eval rfl)) ?_; clear hf a; intro a hf
          refine s_do0 hf rfl (y_store hs sc3 (hf.eval rfl) (hf.eval rfl) rfl (by first | exact .here _ | exact .there _ (.here _) | exact .there _ (.there _ (.here _)) | exact .there _ (.there _ (.there _ (.here _))) | exact .there _ (.there _ (.there _ (.there _ (.here _)))) | exact .there _ (.there _ (.there _ (.there _ (.there _ (.here _)))))) (by simp) ?_); clear hf hs a; intro w hs a hf
          refine s_nil ?_
          refine then_n ?_
          refine wp_ret ?_
          refine then_r ?_
          refine r_0 hf Try.results68 ?_
          have e : ((256 ^ 4 : Nat) : Int) = 4294967296 := by decide
          try rw [e] at hi2
          have hN : patB data 0 at_ v = (data, 21) := by unfold patB; rw [if_neg (by simp), if_neg (by omega), if_pos (by omega)]
          rw [hN]
          exact ⟨rfl, rbufA_close hs⟩
        · clear hf
          have hf := hf'
          clear hf'
          simp only [decide_eq_true_eq, decide_eq_false_iff_not, Bool.not_eq_true', Bool.not_eq_false', Bool.not_eq_true, Int.not_lt, Int.not_le] at hg3_2
          refine s_do hf (wanted_of hf rfl rfl rfl) (.value (x_move (hf.eval rfl) _) ?_); clear hf a; intro a hf
          refine s_do hf (wanted_of hf rfl rfl rfl) (y_call (hf.eval rfl) (hf.evals rfl) Try.call77 ((greatest_spec _ 4 (by omega)).mono ?_))
          rintro e w1 ⟨rfl, hk⟩
          replace hs := hs.ext hk
          refine ⟨_, rfl, ?_⟩; clear hf a; intro a hf
          refine s_do hf (wanted_of hf rfl rfl rfl) (.value (x_bin (hf.eval rfl) (hf.eval rfl) (r_gt _ _ _ _) _) ?_); clear hf a; intro a hf
          refine s_v hf (x_pick_f (hf.eval rfl) (hf.eval rfl)) ?_; clear hf a; intro a hf
          refine s_nil ?_
          refine then_n ?_
          refine c_cond hf rfl (fun hi2 => ?_) (fun hi2 => ?_)
          · simp only [decide_eq_true_eq, decide_eq_false_iff_not, Bool.not_eq_true', Bool.not_eq_false', Bool.not_eq_true, Int.not_lt, Int.not_le] at hi2
            refine wp_seq ?_
            refine wp_region_lit ?_
            refine s_m hf rfl ?_; clear hf a; intro a hf
            refine s_v hf (x_nilCheck (hf.eval rfl)) ?_; clear hf a; intro a hf
            refine s_v hf (x_fieldAddr fo85_2 (hf.eval rfl)) ?_; clear hf a; intro a hf
            refine s_do0 hf rfl (y_store hs sc3 (hf.eval rfl) (hf.eval rfl) rfl (by first | exact .here _ | exact .there _ (.here _) | exact .there _ (.there _ (.here _)) | exact .there _ (.there _ (.there _ (.here _))) | exact .there _ (.there _ (.there _ (.there _ (.here _)))) | exact .there _ (.there _ (.there _ (.there _ (.there _ (.here _)))))) (by simp) ?_); clear hf hs a; intro w hs a hf
            refine s_nil ?_
            refine then_n ?_
            refine wp_ret ?_
            refine then_r ?_
            refine r_0 hf Try.results68 ?_
            have e : ((256 ^ 4 : Nat) : Int) = 4294967296 := by decide
            try rw [e] at hi2
            have hN : patB data 0 at_ v = (data, 21) := by unfold patB; rw [if_neg (by simp), if_neg (by omega), if_pos (by omega)]
            rw [hN]
            exact ⟨rfl, rbufA_close hs⟩
          · simp only [decide_eq_true_eq, decide_eq_false_iff_not, Bool.not_eq_true', Bool.not_eq_false', Bool.not_eq_true, Int.not_lt, Int.not_le] at hi2
            have e4 : ((256 ^ 4 : Nat) : Int) = 4294967296 := by decide
            rw [e4] at hi2
            have hV2 : v < 4294967296 := by omega
            obtain ⟨A, rfl⟩ := Int.eq_ofNat_of_zero_le (show 0 ≤ at_ by omega)
            obtain ⟨V, rfl⟩ := Int.eq_ofNat_of_zero_le (show 0 ≤ v by omega)
            have hA : A + 4 ≤ data.length := by omega
            obtain ⟨a0, rfl⟩ := sl_some (hs.take (.there _ (.here _))) (by omega)
            clear hg1_2 hg3_2 hi1 hi2
            refine wp_skip ?_
            refine then_n ?_
            refine wp_seq ?_
            refine wp_region_lit ?_
            refine s_m hf rfl ?_; clear hf a; intro a hf
            refine s_do hf rfl (y_call (hf.eval rfl) (hf.evals rfl) Try.call78 ((bytesOf_spec _ V 4 (by omega) (by omega)).mono ?_))
            rintro e w1 ⟨a5, c5, rfl, hj⟩
            replace hs := hs.join hj
            simp only [List.cons_append, List.nil_append] at hs
            have hs := hs.take (.there _ (.there _ (.here _)))
            have hs := hs.take (.there _ (.there _ (.here _)))
            obtain ⟨a5, rfl⟩ := sl_some (hs.take (.there _ (.there _ (.here _)))) (by omega)
            refine ⟨_, rfl, ?_⟩; clear hf a; intro a hf
            refine s_a hf rfl ?_; clear hf a; intro a hf
            refine s_nil ?_
            refine then_n ?_
            refine wp_seq ?_
            refine wp_region_lit ?_
            refine s_a hf rfl ?_; clear hf a; intro a hf
            refine s_nil ?_
            refine then_n ?_
            refine wp_block ?_
            refine c_loop (L0 := [(0, _), (1, _), (6, _)]) (fun M w m => ∃ j : Nat, M = [(7, .int .i64 (j : Int))] ∧ 4 - j = m ∧ j ≤ 4 ∧ St σ w (cb p 85 [.int .i64 lim, .slice (some a0) data.length c0, .int .i64 0] :: slB 5 (.slice (some a0) data.length c0) (data.take A ++ leB j V ++ data.drop (A + j)) :: slB 5 (.slice (some a5) 4 c5) (leB 4 V) :: R)) (M0 := [(7, .int .i64 0)]) (⟨0, rfl, rfl, Nat.zero_le _, by simpa [leB] using hs⟩) (hf.sub ⟨rfl, rfl, rfl, rfl, trivial⟩) ?_
            clear hf hs a
            rintro M m a w ⟨j, rfl, rfl, hj, hs⟩ hf
            refine wp_seq ?_
            refine wp_seq ?_
            refine wp_region_lit ?_
            refine s_m hf rfl ?_; clear hf a; intro a hf
            refine s_v hf (x_bin (hf.eval rfl) (hf.eval rfl) (r_lt _ _ _ _)) ?_; clear hf a; intro a hf
            refine s_nil ?_
            refine then_n ?_
            refine c_cond hf rfl (fun hi3 => ?_) (fun hi3 => ?_)
            · simp only [decide_eq_true_eq, decide_eq_false_iff_not, Bool.not_eq_true', Bool.not_eq_false', Bool.not_eq_true, Int.not_lt, Int.not_le] at hi3
              have hlt : j < 4 := by omega
              refine wp_skip ?_
              refine then_n ?_
              refine wp_seq ?_
              refine wp_block ?_
              refine c_draw hs (fun _ => True) [.held, .held, .held, .read, .held, .held, .held, .held, .held, .held, .read, .held, .fin] (by kernel_rfl) (by kernel_rfl) (fun _ _ _ => trivial) ?_
              clear hs; intro w hs hC hw
              refine m_held hf rfl (fun w' _ => x_move (hf.eval rfl) w') ?_; clear hf a; intro a hf
              refine m_held hf rfl (fun w' _ => x_nilCheck (hf.eval rfl) w') ?_; clear hf a; intro a hf
              refine m_held hf rfl (fun w' _ => x_fieldAddr fo85_1 (hf.eval rfl) w') ?_; clear hf a; intro a hf
              refine m_read hf rfl (x_load sc31 (hf.eval rfl) (by first | exact hs.cell (.here _) rfl | exact hs.cell (.there _ (.here _)) rfl | exact hs.cell (.there _ (.there _ (.here _))) rfl | exact hs.cell (.there _ (.there _ (.there _ (.here _)))) rfl | exact hs.cell (.there _ (.there _ (.there _ (.there _ (.here _))))) rfl | exact hs.cell (.there _ (.there _ (.there _ (.there _ (.there _ (.here _)))))) rfl)) ?_; clear hf a; intro a hf
              refine m_held hf rfl (fun w' _ => x_move (hf.eval rfl) w') ?_; clear hf a; intro a hf
              refine m_held hf rfl (fun w' _ => x_move (hf.eval rfl) w') ?_; clear hf a; intro a hf
              refine m_held hf rfl (fun w' _ => x_bin (hf.eval rfl) (hf.eval rfl) (r_addi _ (by omega) (by omega)) w') ?_; clear hf a; intro a hf
              refine m_held hf rfl (fun w' _ => x_move (hf.eval rfl) w') ?_; clear hf a; intro a hf
              refine m_held hf rfl (fun w' _ => x_move (hf.eval rfl) w') ?_; clear hf a; intro a hf
              refine m_held hf rfl (fun w' _ => x_indexAddr sl31 (hf.eval rfl) (hf.eval rfl) (by omega) (by omega) w') ?_; clear hf a; intro a hf
              refine m_read hf rfl (x_loadB sc5 (hs.rdB (.there _ (.there _ (.here _))) fun h => slB_rd) (hf.eval rfl) (by rw [leB_len]; omega)) ?_; clear hf a; intro a hf
              replace hf := hf.now (k := 54) (v' := u8v (UInt8.ofNat (V / 256 ^ j % 256))) rfl (by rw [leB_get]; rfl)
              refine m_held hf rfl (fun w' _ => x_indexAddr sl31 (hf.eval rfl) (hf.eval rfl) (by omega) (by omega) w') ?_; clear hf a; intro a hf
              replace hf := hf.now (k := 55) (v' := .pointer (some (a0.add ((A + j) * 1)))) rfl (by rw [show ((A : Int) + (j : Int)).toNat = A + j by omega])
              refine m_fin0 hf rfl (y_setB (i := A + j) (u := UInt8.ofNat (V / 256 ^ j % 256)) hs sc5 (hf.eval rfl) (hf.eval rfl) rfl (pat_len data hA hj).symm (.there _ (.here _)) (by omega) ?_); clear hf hs a; intro w hs; intro a hf
              refine blk_n ?_
              refine then_n ?_
              refine wp_region_lit ?_
              refine s_m hf rfl ?_; clear hf a; intro a hf
              refine s_v hf (x_bin (hf.eval rfl) (hf.eval rfl) (r_addi _ (by omega) (by omega))) ?_; clear hf a; intro a hf
              refine s_a hf rfl ?_; clear hf a; intro a hf
              refine s_nil ?_
              rw [pat_step data hA (by omega)] at hs
              exact ⟨_, _, ⟨j + 1, rfl, rfl, by omega, hs⟩, by omega, hf.sub ⟨rfl, rfl, rfl, rfl, trivial⟩⟩
            · simp only [decide_eq_true_eq, decide_eq_false_iff_not, Bool.not_eq_true', Bool.not_eq_false', Bool.not_eq_true, Int.not_lt, Int.not_le] at hi3
              refine wp_exit ?_
              refine then_x ?_
              refine then_x ?_
              refine blk_x ?_
              refine r_0n hf Try.results68 ?_
              obtain rfl : j = 4 := by omega
              have hN : patB data 0 (A : Int) (V : Int) = (data.take A ++ leB 4 V ++ data.drop (A + 4), 0) := by unfold patB; rw [if_neg (by simp), if_neg (by omega), if_neg (by omega), Int.toNat_natCast, Int.toNat_natCast]
              rw [hN]
              exact ⟨rfl, rbufA_close (hs.lose (.there _ (.there _ (.here _))))⟩

end Go.Proofs.Ytfcmklmeinchhaa
