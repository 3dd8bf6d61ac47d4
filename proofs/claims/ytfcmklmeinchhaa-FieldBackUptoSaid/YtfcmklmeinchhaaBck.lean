/- What has been put is read back: FieldBack. -/
import Derived.Test.YtfcmklmeinchhaaVH
import Derived.Test.YtfcmklmeinchhaaBuf
import Derived.Test.YtfcmklmeinchhaaCur
import Derived.Test.YtfcmklmeinchhaaHlp
import Derived.Test.YtfcmklmeinchhaaProg
import Derived.Test.YtfcmklmeinchhaaFacts
set_option maxRecDepth 100000
set_option linter.all false
namespace Go.Proofs.Ytfcmklmeinchhaa
open Go Vw
theorem fits_spec (w0 : World) (o : It) (h0 : -9223372036854775808 ≤ o.2.1) (h1 : o.2.1 ≤ 9223372036854775807) : Calls Try.prog 70 #[.agg #[.int .i64 o.1, .int .i64 o.2.1, .string ⟨o.2.2.toArray⟩]] w0 fun e w' => e = .returned (.int .i64 ((fitN o.1 o.2.1 : Nat) : Int)) ∧ Kept w0 w' None_ := by
  have hs := St.start w0 None_
  refine c_enter (N := 23) Try.func70 rfl Try.ntmps70 (by simp) ?_
  intro a hf
  refine wp_seq ?_
  refine wp_region_lit ?_
  refine s_do hf rfl (y_box hs (hf.eval rfl) ?_); clear hf hs a; intro b w hs a hf
  change St _ _ (cb b 63 [.int .i64 o.1, .int .i64 o.2.1, .string ⟨o.2.2.toArray⟩] :: _) at hs
  refine s_a hf rfl ?_; clear hf a; intro a hf
  refine s_nil ?_
  refine then_n ?_
  refine wp_seq ?_
  refine wp_region_lit ?_
  refine s_v hf (x_fieldAddr fo63_1 (hf.eval rfl)) ?_; clear hf a; intro a hf
  refine s_r hf (x_load sc3 (hf.eval rfl) (by first | exact hs.cell (.here _) rfl | exact hs.cell (.there _ (.here _)) rfl | exact hs.cell (.there _ (.there _ (.here _))) rfl)) ?_; clear hf a; intro a hf
  refine s_a hf rfl ?_; clear hf a; intro a hf
  refine s_nil ?_
  refine then_n ?_
  refine wp_seq ?_
  refine wp_seq ?_
  refine wp_region_lit ?_
  refine s_m hf rfl ?_; clear hf a; intro a hf
  refine s_v hf (x_bin (hf.eval rfl) (hf.eval rfl) (r_lt _ _ _ _)) ?_; clear hf a; intro a hf
  refine s_nil ?_
  refine then_n ?_
  refine c_cond hf rfl (fun hi0 => ?_) (fun hi0 => ?_)
  · simp only [decide_eq_true_eq, decide_eq_false_iff_not, Bool.not_eq_true', Bool.not_eq_false', Bool.not_eq_true, Int.not_lt, Int.not_le] at hi0
    refine wp_region_lit ?_
    refine s_m hf rfl ?_; clear hf a; intro a hf
    refine s_v hf (x_bin (hf.eval rfl) (hf.eval rfl) (r_addi _ (by omega) (by omega))) ?_; clear hf a; intro a hf
    refine s_r hf (x_neg (hf.eval rfl) (by omega) (by omega) _) ?_; clear hf a; intro a hf
    refine s_a hf rfl ?_; clear hf a; intro a hf
    refine s_nil ?_
    refine then_n ?_
    refine wp_seq ?_
    refine wp_seq ?_
    refine wp_region_lit ?_
    refine s_v hf (x_fieldAddr fo63_0 (hf.eval rfl)) ?_; clear hf a; intro a hf
    refine s_r hf (x_load sc3 (hf.eval rfl) (by first | exact hs.cell (.here _) rfl | exact hs.cell (.there _ (.here _)) rfl | exact hs.cell (.there _ (.there _ (.here _))) rfl)) ?_; clear hf a; intro a hf
    refine s_nil ?_
    refine then_n ?_
    refine wp_block ?_
    refine wp_seq ?_
    refine wp_region_lit ?_
    refine s_v hf (x_bin (hf.eval rfl) (hf.eval rfl) (r_eq _ _ _ _)) ?_; clear hf a; intro a hf
    refine s_a hf rfl ?_; clear hf a; intro a hf
    refine s_nil ?_
    refine then_n ?_
    refine c_cond hf rfl (fun hi1 => ?_) (fun hi1 => ?_)
    · simp only [decide_eq_true_eq, decide_eq_false_iff_not] at hi1
      refine wp_seq ?_
      refine wp_region_lit ?_
      refine s_m hf rfl ?_; clear hf a; intro a hf
      refine s_v hf (x_bin (hf.eval rfl) (hf.eval rfl) (r_remn _ _ (by omega) (by omega))) ?_; clear hf a; intro a hf
      refine s_a hf rfl ?_; clear hf a; intro a hf
      refine s_nil ?_
      refine then_n ?_
      refine wp_ret ?_
      refine blk_r (then_r ?_)
      refine r_1 hf Try.results70 rfl ?_
      exact ⟨by congr 2; unfold fitN fitV; (first | rw [if_pos hi1] | rw [if_neg hi1, if_pos hi2] | rw [if_neg hi1, if_neg hi2]); (first | rw [if_pos hi0] | rw [if_neg (show ¬ o.2.1 < 0 by omega)]); omega, hs.kept⟩
    · simp only [decide_eq_true_eq, decide_eq_false_iff_not] at hi1
      refine wp_seq ?_
      refine wp_region_lit ?_
      refine s_v hf (x_bin (hf.eval rfl) (hf.eval rfl) (r_eq _ _ _ _)) ?_; clear hf a; intro a hf
      refine s_a hf rfl ?_; clear hf a; intro a hf
      refine s_nil ?_
      refine then_n ?_
      refine c_cond hf rfl (fun hi2 => ?_) (fun hi2 => ?_)
      · simp only [decide_eq_true_eq, decide_eq_false_iff_not] at hi2
        refine wp_seq ?_
        refine wp_region_lit ?_
        refine s_m hf rfl ?_; clear hf a; intro a hf
        refine s_v hf (x_bin (hf.eval rfl) (hf.eval rfl) (r_remn _ _ (by omega) (by omega))) ?_; clear hf a; intro a hf
        refine s_a hf rfl ?_; clear hf a; intro a hf
        refine s_nil ?_
        refine then_n ?_
        refine wp_ret ?_
        refine blk_r (then_r ?_)
        refine r_1 hf Try.results70 rfl ?_
        exact ⟨by congr 2; unfold fitN fitV; (first | rw [if_pos hi1] | rw [if_neg hi1, if_pos hi2] | rw [if_neg hi1, if_neg hi2]); (first | rw [if_pos hi0] | rw [if_neg (show ¬ o.2.1 < 0 by omega)]); omega, hs.kept⟩
      · simp only [decide_eq_true_eq, decide_eq_false_iff_not] at hi2
        refine wp_skip ?_
        refine blk_n ?_
        refine then_n ?_
        refine wp_seq ?_
        refine wp_region_lit ?_
        refine s_m hf rfl ?_; clear hf a; intro a hf
        refine s_v hf (x_bin (hf.eval rfl) (hf.eval rfl) (r_remn _ _ (by omega) (by omega))) ?_; clear hf a; intro a hf
        refine s_a hf rfl ?_; clear hf a; intro a hf
        refine s_nil ?_
        refine then_n ?_
        refine wp_ret ?_
        refine r_1 hf Try.results70 rfl ?_
        exact ⟨by congr 2; unfold fitN fitV; (first | rw [if_pos hi1] | rw [if_neg hi1, if_pos hi2] | rw [if_neg hi1, if_neg hi2]); (first | rw [if_pos hi0] | rw [if_neg (show ¬ o.2.1 < 0 by omega)]); omega, hs.kept⟩
  · simp only [decide_eq_true_eq, decide_eq_false_iff_not, Bool.not_eq_true', Bool.not_eq_false', Bool.not_eq_true, Int.not_lt, Int.not_le] at hi0
    refine wp_skip ?_
    refine then_n ?_
    refine wp_seq ?_
    refine wp_seq ?_
    refine wp_region_lit ?_
    refine s_v hf (x_fieldAddr fo63_0 (hf.eval rfl)) ?_; clear hf a; intro a hf
    refine s_r hf (x_load sc3 (hf.eval rfl) (by first | exact hs.cell (.here _) rfl | exact hs.cell (.there _ (.here _)) rfl | exact hs.cell (.there _ (.there _ (.here _))) rfl)) ?_; clear hf a; intro a hf
    refine s_nil ?_
    refine then_n ?_
    refine wp_block ?_
    refine wp_seq ?_
    refine wp_region_lit ?_
    refine s_v hf (x_bin (hf.eval rfl) (hf.eval rfl) (r_eq _ _ _ _)) ?_; clear hf a; intro a hf
    refine s_a hf rfl ?_; clear hf a; intro a hf
    refine s_nil ?_
    refine then_n ?_
    refine c_cond hf rfl (fun hi1 => ?_) (fun hi1 => ?_)
    · simp only [decide_eq_true_eq, decide_eq_false_iff_not] at hi1
      refine wp_seq ?_
      refine wp_region_lit ?_
      refine s_m hf rfl ?_; clear hf a; intro a hf
      refine s_v hf (x_bin (hf.eval rfl) (hf.eval rfl) (r_remn _ _ (by omega) (by omega))) ?_; clear hf a; intro a hf
      refine s_a hf rfl ?_; clear hf a; intro a hf
      refine s_nil ?_
      refine then_n ?_
      refine wp_ret ?_
      refine blk_r (then_r ?_)
      refine r_1 hf Try.results70 rfl ?_
      exact ⟨by congr 2; unfold fitN fitV; (first | rw [if_pos hi1] | rw [if_neg hi1, if_pos hi2] | rw [if_neg hi1, if_neg hi2]); (first | rw [if_pos hi0] | rw [if_neg (show ¬ o.2.1 < 0 by omega)]); omega, hs.kept⟩
    · simp only [decide_eq_true_eq, decide_eq_false_iff_not] at hi1
      refine wp_seq ?_
      refine wp_region_lit ?_
      refine s_v hf (x_bin (hf.eval rfl) (hf.eval rfl) (r_eq _ _ _ _)) ?_; clear hf a; intro a hf
      refine s_a hf rfl ?_; clear hf a; intro a hf
      refine s_nil ?_
      refine then_n ?_
      refine c_cond hf rfl (fun hi2 => ?_) (fun hi2 => ?_)
      · simp only [decide_eq_true_eq, decide_eq_false_iff_not] at hi2
        refine wp_seq ?_
        refine wp_region_lit ?_
        refine s_m hf rfl ?_; clear hf a; intro a hf
        refine s_v hf (x_bin (hf.eval rfl) (hf.eval rfl) (r_remn _ _ (by omega) (by omega))) ?_; clear hf a; intro a hf
        refine s_a hf rfl ?_; clear hf a; intro a hf
        refine s_nil ?_
        refine then_n ?_
        refine wp_ret ?_
        refine blk_r (then_r ?_)
        refine r_1 hf Try.results70 rfl ?_
        exact ⟨by congr 2; unfold fitN fitV; (first | rw [if_pos hi1] | rw [if_neg hi1, if_pos hi2] | rw [if_neg hi1, if_neg hi2]); (first | rw [if_pos hi0] | rw [if_neg (show ¬ o.2.1 < 0 by omega)]); omega, hs.kept⟩
      · simp only [decide_eq_true_eq, decide_eq_false_iff_not] at hi2
        refine wp_skip ?_
        refine blk_n ?_
        refine then_n ?_
        refine wp_seq ?_
        refine wp_region_lit ?_
        refine s_m hf rfl ?_; clear hf a; intro a hf
        refine s_v hf (x_bin (hf.eval rfl) (hf.eval rfl) (r_remn _ _ (by omega) (by omega))) ?_; clear hf a; intro a hf
        refine s_a hf rfl ?_; clear hf a; intro a hf
        refine s_nil ?_
        refine then_n ?_
        refine wp_ret ?_
        refine r_1 hf Try.results70 rfl ?_
        exact ⟨by congr 2; unfold fitN fitV; (first | rw [if_pos hi1] | rw [if_neg hi1, if_pos hi2] | rw [if_neg hi1, if_neg hi2]); (first | rw [if_pos hi0] | rw [if_neg (show ¬ o.2.1 < 0 by omega)]); omega, hs.kept⟩

theorem put_spec (σ : Sig) (w : World) (R : List Asrt) (p : Nat) (data : List UInt8) (lim bad : Int) (hs : St σ w (bufA 83 5 p data lim bad :: R)) (hlim : bad = 0 → 0 ≤ lim) (hlim2 : lim ≤ 9223372036854775807) (hd : data.length ≤ 70368744177664) (o : It) (h0 : -9223372036854775808 ≤ o.2.1) (h1 : o.2.1 ≤ 9223372036854775807) (hsl : o.2.2.length ≤ 1048576) : Calls Try.prog 40 #[.pointer (some ⟨p, 0, none⟩), .agg #[.int .i64 o.1, .int .i64 o.2.1, .string ⟨o.2.2.toArray⟩]] w fun e w' => e = .returned (.tuple #[]) ∧ St σ w' (bufA 83 5 p (putB data lim bad o).1 lim (putB data lim bad o).2 :: R) := by
  refine c_enter (N := 28) Try.func40 rfl Try.ntmps40 (by simp) ?_
  intro a hf
  refine wp_seq ?_
  refine wp_region_lit ?_
  refine s_do hf rfl (y_box hs (hf.eval rfl) ?_); clear hf hs a; intro b w hs a hf
  change St σ w (cb b 63 [.int .i64 o.1, .int .i64 o.2.1, .string ⟨o.2.2.toArray⟩] :: _) at hs
  refine s_nil ?_
  refine then_n ?_
  refine wp_seq ?_
  refine wp_region_lit ?_
  refine s_r hf (x_loadBlk hs ag63 (hf.eval rfl) rfl (.here _)) ?_; clear hf a; intro a hf
  refine s_do hf rfl (y_call (hf.eval rfl) (hf.evals rfl) Try.call70 ((fits_spec _ o h0 h1).mono ?_))
  rintro e w1 ⟨rfl, hk⟩
  replace hs := hs.ext hk
  refine ⟨_, rfl, ?_⟩; clear hf a; intro a hf
  refine s_a hf rfl ?_; clear hf a; intro a hf
  refine s_nil ?_
  refine then_n ?_
  refine wp_seq ?_
  refine wp_region_lit ?_
  refine s_v hf (x_fieldAddr fo63_0 (hf.eval rfl)) ?_; clear hf a; intro a hf
  refine s_r hf (x_load sc3 (hf.eval rfl) (by first | exact hs.cell (.here _) rfl | exact hs.cell (.there _ (.here _)) rfl | exact hs.cell (.there _ (.there _ (.here _))) rfl | exact hs.cell (.there _ (.there _ (.there _ (.here _)))) rfl)) ?_; clear hf a; intro a hf
  refine s_nil ?_
  refine then_n ?_
  refine wp_block ?_
  refine wp_seq ?_
  refine wp_region_lit ?_
  refine s_v hf (x_bin (hf.eval rfl) (hf.eval rfl) (r_eq _ _ _ _)) ?_; clear hf a; intro a hf
  refine s_a hf rfl ?_; clear hf a; intro a hf
  refine s_nil ?_
  refine then_n ?_
  refine c_cond hf rfl (fun hi0 => ?_) (fun hi0 => ?_)
  · simp only [decide_eq_true_eq, decide_eq_false_iff_not] at hi0
    refine wp_region_lit ?_
    refine s_m hf rfl ?_; clear hf a; intro a hf
    refine s_m hf rfl ?_; clear hf a; intro a hf
    replace hs := hs.take (A := bufA 83 5 p data lim bad) (by first | exact .here _ | exact .there _ (.here _) | exact .there _ (.there _ (.here _)) | exact .there _ (.there _ (.there _ (.here _))) | exact .there _ (.there _ (.there _ (.there _ (.here _)))) | exact .there _ (.there _ (.there _ (.there _ (.there _ (.here _))))) | exact .there _ (.there _ (.there _ (.there _ (.there _ (.there _ (.here _)))))) | exact .there _ (.there _ (.there _ (.there _ (.there _ (.there _ (.there _ (.here _))))))))
    refine s_do hf rfl (y_call (hf.eval rfl) (hf.evals rfl) Try.call44 ((bU8_spec σ _ _ p data lim bad hs hlim hlim2 hd _).mono ?_))
    rintro e w1 ⟨rfl, hs⟩
    refine ⟨_, rfl, ?_⟩; clear hf a; intro a hf
    refine s_nil ?_
    refine blk_n ?_
    refine r_0n hf Try.results40 ?_
    exact ⟨rfl, by unfold putB; (first | rw [if_pos hi0] | rw [if_neg hi0, if_pos hi1] | rw [if_neg hi0, if_neg hi1, if_pos hi2] | rw [if_neg hi0, if_neg hi1, if_neg hi2]); exact hs.lose (.there _ (.here _))⟩
  · simp only [decide_eq_true_eq, decide_eq_false_iff_not] at hi0
    refine wp_seq ?_
    refine wp_region_lit ?_
    refine s_v hf (x_bin (hf.eval rfl) (hf.eval rfl) (r_eq _ _ _ _)) ?_; clear hf a; intro a hf
    refine s_a hf rfl ?_; clear hf a; intro a hf
    refine s_nil ?_
    refine then_n ?_
    refine c_cond hf rfl (fun hi1 => ?_) (fun hi1 => ?_)
    · simp only [decide_eq_true_eq, decide_eq_false_iff_not] at hi1
      refine wp_region_lit ?_
      refine s_m hf rfl ?_; clear hf a; intro a hf
      refine s_m hf rfl ?_; clear hf a; intro a hf
      replace hs := hs.take (A := bufA 83 5 p data lim bad) (by first | exact .here _ | exact .there _ (.here _) | exact .there _ (.there _ (.here _)) | exact .there _ (.there _ (.there _ (.here _))) | exact .there _ (.there _ (.there _ (.there _ (.here _)))) | exact .there _ (.there _ (.there _ (.there _ (.there _ (.here _))))) | exact .there _ (.there _ (.there _ (.there _ (.there _ (.there _ (.here _)))))) | exact .there _ (.there _ (.there _ (.there _ (.there _ (.there _ (.there _ (.here _))))))))
      refine s_do hf rfl (y_call (hf.eval rfl) (hf.evals rfl) Try.call45 ((bU16_spec σ _ _ p data lim bad hs hlim hlim2 hd _).mono ?_))
      rintro e w1 ⟨rfl, hs⟩
      refine ⟨_, rfl, ?_⟩; clear hf a; intro a hf
      refine s_nil ?_
      refine blk_n ?_
      refine r_0n hf Try.results40 ?_
      exact ⟨rfl, by unfold putB; (first | rw [if_pos hi0] | rw [if_neg hi0, if_pos hi1] | rw [if_neg hi0, if_neg hi1, if_pos hi2] | rw [if_neg hi0, if_neg hi1, if_neg hi2]); exact hs.lose (.there _ (.here _))⟩
    · simp only [decide_eq_true_eq, decide_eq_false_iff_not] at hi1
      refine wp_seq ?_
      refine wp_region_lit ?_
      refine s_v hf (x_bin (hf.eval rfl) (hf.eval rfl) (r_eq _ _ _ _)) ?_; clear hf a; intro a hf
      refine s_a hf rfl ?_; clear hf a; intro a hf
      refine s_nil ?_
      refine then_n ?_
      refine c_cond hf rfl (fun hi2 => ?_) (fun hi2 => ?_)
      · simp only [decide_eq_true_eq, decide_eq_false_iff_not] at hi2
        refine wp_region_lit ?_
        refine s_m hf rfl ?_; clear hf a; intro a hf
        refine s_m hf rfl ?_; clear hf a; intro a hf
        replace hs := hs.take (A := bufA 83 5 p data lim bad) (by first | exact .here _ | exact .there _ (.here _) | exact .there _ (.there _ (.here _)) | exact .there _ (.there _ (.there _ (.here _))) | exact .there _ (.there _ (.there _ (.there _ (.here _)))) | exact .there _ (.there _ (.there _ (.there _ (.there _ (.here _))))) | exact .there _ (.there _ (.there _ (.there _ (.there _ (.there _ (.here _)))))) | exact .there _ (.there _ (.there _ (.there _ (.there _ (.there _ (.there _ (.here _))))))))
        refine s_do hf rfl (y_call (hf.eval rfl) (hf.evals rfl) Try.call46 ((bU32_spec σ _ _ p data lim bad hs hlim hlim2 hd _).mono ?_))
        rintro e w1 ⟨rfl, hs⟩
        refine ⟨_, rfl, ?_⟩; clear hf a; intro a hf
        refine s_nil ?_
        refine blk_n ?_
        refine r_0n hf Try.results40 ?_
        exact ⟨rfl, by unfold putB; (first | rw [if_pos hi0] | rw [if_neg hi0, if_pos hi1] | rw [if_neg hi0, if_neg hi1, if_pos hi2] | rw [if_neg hi0, if_neg hi1, if_neg hi2]); exact hs.lose (.there _ (.here _))⟩
      · simp only [decide_eq_true_eq, decide_eq_false_iff_not] at hi2
        refine wp_region_lit ?_
        refine s_m hf rfl ?_; clear hf a; intro a hf
        refine s_v hf (x_fieldAddr fo63_2 (hf.eval rfl)) ?_; clear hf a; intro a hf
        refine s_r hf (x_load sc9 (hf.eval rfl) (by first | exact hs.cell (.here _) rfl | exact hs.cell (.there _ (.here _)) rfl | exact hs.cell (.there _ (.there _ (.here _))) rfl | exact hs.cell (.there _ (.there _ (.there _ (.here _)))) rfl)) ?_; clear hf a; intro a hf
        replace hs := hs.take (A := bufA 83 5 p data lim bad) (by first | exact .here _ | exact .there _ (.here _) | exact .there _ (.there _ (.here _)) | exact .there _ (.there _ (.there _ (.here _))) | exact .there _ (.there _ (.there _ (.there _ (.here _)))) | exact .there _ (.there _ (.there _ (.there _ (.there _ (.here _))))) | exact .there _ (.there _ (.there _ (.there _ (.there _ (.there _ (.here _)))))) | exact .there _ (.there _ (.there _ (.there _ (.there _ (.there _ (.there _ (.here _))))))))
        refine s_do hf rfl (y_call (hf.eval rfl) (hf.evals rfl) Try.call47 ((bText_spec σ _ _ p data lim bad hs hlim hlim2 hd o.2.2 hsl).mono ?_))
        rintro e w1 ⟨rfl, hs⟩
        refine ⟨_, rfl, ?_⟩; clear hf a; intro a hf
        refine s_nil ?_
        refine blk_n ?_
        refine r_0n hf Try.results40 ?_
        exact ⟨rfl, by unfold putB; (first | rw [if_pos hi0] | rw [if_neg hi0, if_pos hi1] | rw [if_neg hi0, if_neg hi1, if_pos hi2] | rw [if_neg hi0, if_neg hi1, if_neg hi2]); exact hs.lose (.there _ (.here _))⟩

theorem got_spec (σ : Sig) (w : World) (R : List Asrt) (p : Nat) (data : List UInt8) (at_ : Nat) (o : It) (hs : St σ w (curA 79 5 p data at_ 0 :: R)) (hat : (data.drop at_).take (encI o).length = encI o) (hbd : at_ + (encI o).length ≤ data.length) (hl : data.length ≤ 140737488355328) (h0 : -9223372036854775808 ≤ o.2.1) (h1 : o.2.1 ≤ 9223372036854775807) (hsl : o.2.2.length ≤ 1048576) : Calls Try.prog 41 #[.pointer (some ⟨p, 0, none⟩), .agg #[.int .i64 o.1, .int .i64 o.2.1, .string ⟨o.2.2.toArray⟩]] w fun e w' => e = .returned (.bool true) ∧ St σ w' (curA 79 5 p data (at_ + (encI o).length) 0 :: R) := by
  refine c_enter (N := 36) Try.func41 rfl Try.ntmps41 (by simp) ?_
  intro a hf
  refine wp_seq ?_
  refine wp_region_lit ?_
  refine s_do hf rfl (y_box hs (hf.eval rfl) ?_); clear hf hs a; intro b w hs a hf
  change St σ w (cb b 63 [.int .i64 o.1, .int .i64 o.2.1, .string ⟨o.2.2.toArray⟩] :: _) at hs
  refine s_a hf rfl ?_; clear hf a; intro a hf
  refine s_nil ?_
  refine then_n ?_
  refine wp_seq ?_
  refine wp_region_lit ?_
  refine s_r hf (x_loadBlk hs ag63 (hf.eval rfl) rfl (.here _)) ?_; clear hf a; intro a hf
  refine s_do hf rfl (y_call (hf.eval rfl) (hf.evals rfl) Try.call70 ((fits_spec _ o h0 h1).mono ?_))
  rintro e w1 ⟨rfl, hk⟩
  replace hs := hs.ext hk
  refine ⟨_, rfl, ?_⟩; clear hf a; intro a hf
  refine s_a hf rfl ?_; clear hf a; intro a hf
  refine s_nil ?_
  refine then_n ?_
  refine wp_seq ?_
  refine wp_seq ?_
  refine wp_region_lit ?_
  refine s_v hf (x_fieldAddr fo63_0 (hf.eval rfl)) ?_; clear hf a; intro a hf
  refine s_r hf (x_load sc3 (hf.eval rfl) (by first | exact hs.cell (.here _) rfl | exact hs.cell (.there _ (.here _)) rfl | exact hs.cell (.there _ (.there _ (.here _))) rfl | exact hs.cell (.there _ (.there _ (.there _ (.here _)))) rfl)) ?_; clear hf a; intro a hf
  refine s_nil ?_
  refine then_n ?_
  refine wp_block ?_
  refine wp_seq ?_
  refine wp_region_lit ?_
  refine s_v hf (x_bin (hf.eval rfl) (hf.eval rfl) (r_eq _ _ _ _)) ?_; clear hf a; intro a hf
  refine s_a hf rfl ?_; clear hf a; intro a hf
  refine s_nil ?_
  refine then_n ?_
  refine c_cond hf rfl (fun hi0 => ?_) (fun hi0 => ?_)
  · simp only [decide_eq_true_eq, decide_eq_false_iff_not] at hi0
    refine wp_seq ?_
    refine wp_region_lit ?_
    refine s_m hf rfl ?_; clear hf a; intro a hf
    replace hs := hs.take (A := curA 79 5 p data at_ 0) (by first | exact .here _ | exact .there _ (.here _) | exact .there _ (.there _ (.here _)) | exact .there _ (.there _ (.there _ (.here _))) | exact .there _ (.there _ (.there _ (.there _ (.here _)))) | exact .there _ (.there _ (.there _ (.there _ (.there _ (.here _))))) | exact .there _ (.there _ (.there _ (.there _ (.there _ (.there _ (.here _)))))) | exact .there _ (.there _ (.there _ (.there _ (.there _ (.there _ (.there _ (.here _))))))))
    refine s_do hf rfl (y_call (hf.eval rfl) (hf.evals rfl) Try.call49 ((u8_spec σ _ _ p data at_ 0 hs (by omega) (by omega)).mono ?_))
    rintro e w1 ⟨rfl, hs⟩
    have hw : (encI o).length = 1 := by have := encI_w (o := o) (by omega); omega
    rw [hw] at hat hbd
    have hN := nextC_ok (len := data.length) (at_ := at_) (n := 1) hbd
    replace hN : nextC data.length at_ 0 1 = (at_ + 1, 0, 1) := hN
    rw [hN] at hs ⊢
    have hv : leN ((data.drop at_).take 1) = fitN o.1 o.2.1 := by rw [hat]; unfold encI; rw [if_pos hi0]; exact leN_leB _ _ (by unfold fitN; rw [if_pos hi0]; omega)
    refine ⟨_, rfl, ?_⟩; clear hf a; intro a hf
    refine s_m hf rfl ?_; clear hf a; intro a hf
    refine s_v hf (x_bin (hf.eval rfl) (hf.eval rfl) (r_eq _ _ _ _)) ?_; clear hf a; intro a hf
    refine s_a hf rfl ?_; clear hf a; intro a hf
    refine s_nil ?_
    refine then_n ?_
    refine wp_ret ?_
    refine blk_r (then_r ?_)
    refine r_1 hf Try.results41 rfl ?_
    exact ⟨by rw [hv]; simp, by rw [hw]; exact hs.lose (.there _ (.here _))⟩
  · simp only [decide_eq_true_eq, decide_eq_false_iff_not] at hi0
    refine wp_seq ?_
    refine wp_region_lit ?_
    refine s_v hf (x_bin (hf.eval rfl) (hf.eval rfl) (r_eq _ _ _ _)) ?_; clear hf a; intro a hf
    refine s_a hf rfl ?_; clear hf a; intro a hf
    refine s_nil ?_
    refine then_n ?_
    refine c_cond hf rfl (fun hi1 => ?_) (fun hi1 => ?_)
    · simp only [decide_eq_true_eq, decide_eq_false_iff_not] at hi1
      refine wp_seq ?_
      refine wp_region_lit ?_
      refine s_m hf rfl ?_; clear hf a; intro a hf
      replace hs := hs.take (A := curA 79 5 p data at_ 0) (by first | exact .here _ | exact .there _ (.here _) | exact .there _ (.there _ (.here _)) | exact .there _ (.there _ (.there _ (.here _))) | exact .there _ (.there _ (.there _ (.there _ (.here _)))) | exact .there _ (.there _ (.there _ (.there _ (.there _ (.here _))))) | exact .there _ (.there _ (.there _ (.there _ (.there _ (.there _ (.here _)))))) | exact .there _ (.there _ (.there _ (.there _ (.there _ (.there _ (.there _ (.here _))))))))
      refine s_do hf rfl (y_call (hf.eval rfl) (hf.evals rfl) Try.call50 ((u16_spec σ _ _ p data at_ 0 hs (by omega) (by omega)).mono ?_))
      rintro e w1 ⟨rfl, hs⟩
      have hw : (encI o).length = 2 := by have := encI_w (o := o) (by omega); omega
      rw [hw] at hat hbd
      have hN := nextC_ok (len := data.length) (at_ := at_) (n := 2) hbd
      replace hN : nextC data.length at_ 0 2 = (at_ + 2, 0, 2) := hN
      rw [hN] at hs ⊢
      have hv : leN ((data.drop at_).take 2) = fitN o.1 o.2.1 := by rw [hat]; unfold encI; rw [if_neg hi0, if_pos hi1]; exact leN_leB _ _ (by unfold fitN; rw [if_neg hi0, if_pos hi1]; omega)
      refine ⟨_, rfl, ?_⟩; clear hf a; intro a hf
      refine s_m hf rfl ?_; clear hf a; intro a hf
      refine s_v hf (x_bin (hf.eval rfl) (hf.eval rfl) (r_eq _ _ _ _)) ?_; clear hf a; intro a hf
      refine s_a hf rfl ?_; clear hf a; intro a hf
      refine s_nil ?_
      refine then_n ?_
      refine wp_ret ?_
      refine blk_r (then_r ?_)
      refine r_1 hf Try.results41 rfl ?_
      exact ⟨by rw [hv]; simp, by rw [hw]; exact hs.lose (.there _ (.here _))⟩
    · simp only [decide_eq_true_eq, decide_eq_false_iff_not] at hi1
      refine wp_seq ?_
      refine wp_region_lit ?_
      refine s_v hf (x_bin (hf.eval rfl) (hf.eval rfl) (r_eq _ _ _ _)) ?_; clear hf a; intro a hf
      refine s_a hf rfl ?_; clear hf a; intro a hf
      refine s_nil ?_
      refine then_n ?_
      refine c_cond hf rfl (fun hi2 => ?_) (fun hi2 => ?_)
      · simp only [decide_eq_true_eq, decide_eq_false_iff_not] at hi2
        refine wp_seq ?_
        refine wp_region_lit ?_
        refine s_m hf rfl ?_; clear hf a; intro a hf
        replace hs := hs.take (A := curA 79 5 p data at_ 0) (by first | exact .here _ | exact .there _ (.here _) | exact .there _ (.there _ (.here _)) | exact .there _ (.there _ (.there _ (.here _))) | exact .there _ (.there _ (.there _ (.there _ (.here _)))) | exact .there _ (.there _ (.there _ (.there _ (.there _ (.here _))))) | exact .there _ (.there _ (.there _ (.there _ (.there _ (.there _ (.here _)))))) | exact .there _ (.there _ (.there _ (.there _ (.there _ (.there _ (.there _ (.here _))))))))
        refine s_do hf rfl (y_call (hf.eval rfl) (hf.evals rfl) Try.call51 ((u32_spec σ _ _ p data at_ 0 hs (by omega) (by omega)).mono ?_))
        rintro e w1 ⟨rfl, hs⟩
        have hw : (encI o).length = 4 := by have := encI_w (o := o) (by omega); omega
        rw [hw] at hat hbd
        have hN := nextC_ok (len := data.length) (at_ := at_) (n := 4) hbd
        replace hN : nextC data.length at_ 0 4 = (at_ + 4, 0, 4) := hN
        rw [hN] at hs ⊢
        have hv : leN ((data.drop at_).take 4) = fitN o.1 o.2.1 := by rw [hat]; unfold encI; rw [if_neg hi0, if_neg hi1, if_pos hi2]; exact leN_leB _ _ (by unfold fitN; rw [if_neg hi0, if_neg hi1]; omega)
        refine ⟨_, rfl, ?_⟩; clear hf a; intro a hf
        refine s_m hf rfl ?_; clear hf a; intro a hf
        refine s_v hf (x_bin (hf.eval rfl) (hf.eval rfl) (r_eq _ _ _ _)) ?_; clear hf a; intro a hf
        refine s_a hf rfl ?_; clear hf a; intro a hf
        refine s_nil ?_
        refine then_n ?_
        refine wp_ret ?_
        refine blk_r (then_r ?_)
        refine r_1 hf Try.results41 rfl ?_
        exact ⟨by rw [hv]; simp, by rw [hw]; exact hs.lose (.there _ (.here _))⟩
      · simp only [decide_eq_true_eq, decide_eq_false_iff_not] at hi2
        refine wp_skip ?_
        refine blk_n ?_
        refine then_n ?_
        refine wp_seq ?_
        replace hs := hs.take (A := curA 79 5 p data at_ 0) (by first | exact .here _ | exact .there _ (.here _) | exact .there _ (.there _ (.here _)) | exact .there _ (.there _ (.there _ (.here _))) | exact .there _ (.there _ (.there _ (.there _ (.here _)))) | exact .there _ (.there _ (.there _ (.there _ (.there _ (.here _))))) | exact .there _ (.there _ (.there _ (.there _ (.there _ (.there _ (.here _)))))) | exact .there _ (.there _ (.there _ (.there _ (.there _ (.there _ (.there _ (.here _))))))))
        have hen := encI_s (o := o) hi0 hi1 hi2
        rw [hen] at hat hbd
        have hN := nextC_ok (len := data.length) (at_ := at_) (n := o.2.2.length) hbd
        refine c_draw hs (fun w' => w'.cell? ⟨b, 2, none⟩ = some (.string ⟨o.2.2.toArray⟩)) [.held, .held, .held, .held, .eff, .held, .held, .held, .held] (by kernel_rfl) (by kernel_rfl) (fun w' _ hs => hs.cell (.there _ (.here _)) rfl) ?_
        clear hs; intro w hs hC hw
        refine m_held hf rfl (fun w' _ => x_move (hf.eval rfl) w') ?_; clear hf a; intro a hf
        refine m_held hf rfl (fun w' _ => x_fieldAddr fo63_2 (hf.eval rfl) w') ?_; clear hf a; intro a hf
        refine m_held hf rfl (fun w' hc => x_load sc9 (hf.eval rfl) hc) ?_; clear hf a; intro a hf
        refine m_held hf rfl (fun w' _ => x_lenS Try.underlying9 (hf.eval rfl) w') ?_; clear hf a; intro a hf
        replace hf := hf.now (k := 31) (v' := .int .i64 (o.2.2.length : Int)) rfl (by simp [ByteArray.size])
        refine m_eff hf rfl (y_call (hf.eval rfl) (hf.evals rfl) Try.call52 ((text_spec σ _ _ p data at_ 0 o.2.2.length hs (by omega) (by omega) (by omega)).mono ?_))
        rintro e w1 ⟨rfl, hs⟩
        rw [hN] at hs ⊢
        refine ⟨_, rfl, ⟨hs.cell (.there _ (.here _)) rfl, ?_⟩⟩; clear hf a; intro a hf
        refine m_held hf rfl (fun w' _ => x_fieldAddr fo63_2 (hf.eval rfl) w') ?_; clear hf a; intro a hf
        refine m_held hf rfl (fun w' hc => x_load sc9 (hf.eval rfl) hc) ?_; clear hf a; intro a hf
        refine m_held hf rfl (fun w' _ => x_strEq (hf.eval rfl) (hf.eval rfl) w') ?_; clear hf a; intro a hf
        refine m_held hf rfl (fun w' _ => x_assign (hf.eval rfl) w') ?_; clear hf a; intro a hf
        refine m_nil ?_
        refine then_n ?_
        refine wp_ret ?_
        refine r_1 hf Try.results41 rfl ?_
        exact ⟨by simp [hat], by rw [hen]; exact hs.lose (.there _ (.here _))⟩

theorem fieldBack_spec (w0 : World) (aa : Option Addr) (co : Nat) (its : List It) (hro : RdS (fun o : It => [Value.int .i64 o.1, .int .i64 o.2.1, .string ⟨o.2.2.toArray⟩]) 3 (hp w0) (.slice aa its.length co) its) (hlo : its.length ≤ 140737488355328) (h0 : ∀ o ∈ its, -9223372036854775808 ≤ o.2.1) (h1 : ∀ o ∈ its, o.2.1 ≤ 9223372036854775807) (hsl : ∀ o ∈ its, o.2.2.length ≤ 1048576) (ht : (encs its).length ≤ 1048576) : Calls Try.prog 10 #[.slice aa its.length co] w0 fun e w' => e = .returned (.bool true) ∧ Kept w0 w' None_ := by
  have hs := St.start w0 None_
  refine c_enter (N := 118) Try.func10 rfl Try.ntmps10 (by simp) ?_
  intro a hf
  refine wp_seq ?_
  refine wp_region_lit ?_
  refine s_a hf rfl ?_; clear hf a; intro a hf
  refine s_nil ?_
  refine then_n ?_
  refine wp_seq ?_
  refine wp_region_lit ?_
  refine s_a hf rfl ?_; clear hf a; intro a hf
  refine s_nil ?_
  refine then_n ?_
  refine wp_seq ?_
  refine wp_seq ?_
  refine wp_region_lit ?_
  refine s_a hf rfl ?_; clear hf a; intro a hf
  refine s_nil ?_
  refine then_n ?_
  refine wp_block ?_
  refine c_loop (L0 := [(0, _), (2, _)]) (fun M w m => ∃ i : Nat, M = [(3, .int .i64 ((encs (its.take i)).length : Int)), (4, .int .i64 (i : Int))] ∧ its.length - i = m ∧ i ≤ its.length ∧ St ⟨w0, None_⟩ w []) (M0 := [(3, .int .i64 0), (4, .int .i64 0)]) (⟨0, rfl, rfl, Nat.zero_le _, hs⟩) (hf.sub ⟨rfl, rfl, rfl, rfl, trivial⟩) ?_
  clear hf hs a
  rintro M m a w ⟨i, rfl, rfl, hi, hs⟩ hf
  refine wp_seq ?_
  refine wp_seq ?_
  refine wp_region_lit ?_
  refine s_m hf rfl ?_; clear hf a; intro a hf
  refine s_m hf rfl ?_; clear hf a; intro a hf
  refine s_v hf (x_len Try.underlying61 (hf.eval rfl)) ?_; clear hf a; intro a hf
  refine s_v hf (x_bin (hf.eval rfl) (hf.eval rfl) (r_lt _ _ _ _)) ?_; clear hf a; intro a hf
  refine s_nil ?_
  refine then_n ?_
  refine c_cond hf rfl (fun hi0 => ?_) (fun hi0 => ?_)
  · simp only [decide_eq_true_eq, decide_eq_false_iff_not, Bool.not_eq_true', Bool.not_eq_false', Bool.not_eq_true, Int.not_lt, Int.not_le] at hi0
    have hlt : i < its.length := by omega
    obtain ⟨aa, rfl⟩ := hro.some (by omega)
    obtain ⟨ab, ao2, rfl⟩ := rdS_plain (sz := 3) (fun _ => rfl) (by decide) hro (by omega)
    have hte := encs_at hlt
    have htl := encs_le its i
    refine wp_skip ?_
    refine then_n ?_
    refine wp_seq ?_
    refine wp_block ?_
    refine wp_seq ?_
    refine wp_region_lit ?_
    refine s_m hf rfl ?_; clear hf a; intro a hf
    refine s_m hf rfl ?_; clear hf a; intro a hf
    refine s_v hf (x_indexAddr sl61 (hf.eval rfl) (hf.eval rfl) (by omega) (by omega)) ?_; clear hf a; intro a hf
    replace hf := hf.now (k := 20) (v' := .pointer (some ⟨ab, ao2 + i * 3, none⟩)) rfl (by rw [addr_add]; rfl)
    refine s_v hf (x_fieldAddr fo63_0 (hf.eval rfl)) ?_; clear hf a; intro a hf
    refine s_r hf (x_load sc3 (hf.eval rfl) (rdS_cellAt (f := (fun o : It => [Value.int .i64 o.1, .int .i64 o.2.1, .string ⟨o.2.2.toArray⟩])) (sz := 3) (fun _ => rfl) (hs.old hro) (k := 0) hlt rfl)) ?_; clear hf a; intro a hf
    refine s_nil ?_
    refine then_n ?_
    refine wp_block ?_
    refine wp_seq ?_
    refine wp_seq ?_
    refine wp_region_lit ?_
    refine s_v hf (x_bin (hf.eval rfl) (hf.eval rfl) (r_eq _ _ _ _)) ?_; clear hf a; intro a hf
    refine s_a hf rfl ?_; clear hf a; intro a hf
    refine s_nil ?_
    refine then_n ?_
    refine c_cond hf rfl (fun hi1 => ?_) (fun hi1 => ?_)
    · replace hf := hf.now (k := 31) (v' := .bool true) rfl (congrArg Value.bool hi1)
      simp only [decide_eq_true_eq, decide_eq_false_iff_not] at hi1
      refine wp_skip ?_
      refine then_n ?_
      refine c_cond_t hf rfl rfl ?_
      have hw := encI_w (o := its[i]) (by omega)
      refine wp_region_lit ?_
      refine s_m hf rfl ?_; clear hf a; intro a hf
      refine s_m hf rfl ?_; clear hf a; intro a hf
      refine s_m hf rfl ?_; clear hf a; intro a hf
      refine s_v hf (x_indexAddr sl61 (hf.eval rfl) (hf.eval rfl) (by omega) (by omega)) ?_; clear hf a; intro a hf
      replace hf := hf.now (k := 38) (v' := .pointer (some ⟨ab, ao2 + i * 3, none⟩)) rfl (by rw [addr_add]; rfl)
      refine s_v hf (x_fieldAddr fo63_0 (hf.eval rfl)) ?_; clear hf a; intro a hf
      refine s_r hf (x_load sc3 (hf.eval rfl) (rdS_cellAt (f := (fun o : It => [Value.int .i64 o.1, .int .i64 o.2.1, .string ⟨o.2.2.toArray⟩])) (sz := 3) (fun _ => rfl) (hs.old hro) (k := 0) hlt rfl)) ?_; clear hf a; intro a hf
      have hte2 := hte.2
      refine s_v hf (x_bin (hf.eval rfl) (hf.eval rfl) (r_addi _ (by omega) (by omega))) ?_; clear hf a; intro a hf
      refine s_a hf rfl ?_; clear hf a; intro a hf
      refine s_nil ?_
      refine blk_n ?_
      refine blk_n ?_
      refine then_n ?_
      refine wp_region_lit ?_
      refine s_m hf rfl ?_; clear hf a; intro a hf
      refine s_v hf (x_bin (hf.eval rfl) (hf.eval rfl) (r_addi _ (by omega) (by omega))) ?_; clear hf a; intro a hf
      refine s_a hf rfl ?_; clear hf a; intro a hf
      refine s_nil ?_
      replace hf := hf.now (k := 3) (v' := .int .i64 ((encs (its.take (i + 1))).length : Int)) rfl (by congr 1; rw [encs_succ hlt, List.length_append]; (try rw [hen]); omega)
      exact ⟨_, _, ⟨i + 1, rfl, rfl, by omega, hs⟩, by omega, hf.sub ⟨rfl, rfl, rfl, rfl, trivial⟩⟩
    · replace hf := hf.now (k := 31) (v' := .bool false) rfl (congrArg Value.bool hi1)
      simp only [decide_eq_true_eq, decide_eq_false_iff_not] at hi1
      refine wp_seq ?_
      refine wp_region_lit ?_
      refine s_v hf (x_bin (hf.eval rfl) (hf.eval rfl) (r_eq _ _ _ _)) ?_; clear hf a; intro a hf
      refine s_a hf rfl ?_; clear hf a; intro a hf
      refine s_nil ?_
      refine then_n ?_
      refine c_cond hf rfl (fun hi2 => ?_) (fun hi2 => ?_)
      · replace hf := hf.now (k := 31) (v' := .bool true) rfl (congrArg Value.bool hi2)
        simp only [decide_eq_true_eq, decide_eq_false_iff_not] at hi2
        refine wp_skip ?_
        refine then_n ?_
        refine c_cond_t hf rfl rfl ?_
        have hw := encI_w (o := its[i]) (by omega)
        refine wp_region_lit ?_
        refine s_m hf rfl ?_; clear hf a; intro a hf
        refine s_m hf rfl ?_; clear hf a; intro a hf
        refine s_m hf rfl ?_; clear hf a; intro a hf
        refine s_v hf (x_indexAddr sl61 (hf.eval rfl) (hf.eval rfl) (by omega) (by omega)) ?_; clear hf a; intro a hf
        replace hf := hf.now (k := 38) (v' := .pointer (some ⟨ab, ao2 + i * 3, none⟩)) rfl (by rw [addr_add]; rfl)
        refine s_v hf (x_fieldAddr fo63_0 (hf.eval rfl)) ?_; clear hf a; intro a hf
        refine s_r hf (x_load sc3 (hf.eval rfl) (rdS_cellAt (f := (fun o : It => [Value.int .i64 o.1, .int .i64 o.2.1, .string ⟨o.2.2.toArray⟩])) (sz := 3) (fun _ => rfl) (hs.old hro) (k := 0) hlt rfl)) ?_; clear hf a; intro a hf
        have hte2 := hte.2
        refine s_v hf (x_bin (hf.eval rfl) (hf.eval rfl) (r_addi _ (by omega) (by omega))) ?_; clear hf a; intro a hf
        refine s_a hf rfl ?_; clear hf a; intro a hf
        refine s_nil ?_
        refine blk_n ?_
        refine blk_n ?_
        refine then_n ?_
        refine wp_region_lit ?_
        refine s_m hf rfl ?_; clear hf a; intro a hf
        refine s_v hf (x_bin (hf.eval rfl) (hf.eval rfl) (r_addi _ (by omega) (by omega))) ?_; clear hf a; intro a hf
        refine s_a hf rfl ?_; clear hf a; intro a hf
        refine s_nil ?_
        replace hf := hf.now (k := 3) (v' := .int .i64 ((encs (its.take (i + 1))).length : Int)) rfl (by congr 1; rw [encs_succ hlt, List.length_append]; (try rw [hen]); omega)
        exact ⟨_, _, ⟨i + 1, rfl, rfl, by omega, hs⟩, by omega, hf.sub ⟨rfl, rfl, rfl, rfl, trivial⟩⟩
      · replace hf := hf.now (k := 31) (v' := .bool false) rfl (congrArg Value.bool hi2)
        simp only [decide_eq_true_eq, decide_eq_false_iff_not] at hi2
        refine wp_region_lit ?_
        refine s_v hf (x_bin (hf.eval rfl) (hf.eval rfl) (r_eq _ _ _ _)) ?_; clear hf a; intro a hf
        refine s_a hf rfl ?_; clear hf a; intro a hf
        refine s_nil ?_
        refine then_n ?_
        refine c_cond hf rfl (fun hi3 => ?_) (fun hi3 => ?_)
        · simp only [decide_eq_true_eq, decide_eq_false_iff_not] at hi3
          have hw := encI_w (o := its[i]) (by omega)
          refine wp_region_lit ?_
          refine s_m hf rfl ?_; clear hf a; intro a hf
          refine s_m hf rfl ?_; clear hf a; intro a hf
          refine s_m hf rfl ?_; clear hf a; intro a hf
          refine s_v hf (x_indexAddr sl61 (hf.eval rfl) (hf.eval rfl) (by omega) (by omega)) ?_; clear hf a; intro a hf
          replace hf := hf.now (k := 38) (v' := .pointer (some ⟨ab, ao2 + i * 3, none⟩)) rfl (by rw [addr_add]; rfl)
          refine s_v hf (x_fieldAddr fo63_0 (hf.eval rfl)) ?_; clear hf a; intro a hf
          refine s_r hf (x_load sc3 (hf.eval rfl) (rdS_cellAt (f := (fun o : It => [Value.int .i64 o.1, .int .i64 o.2.1, .string ⟨o.2.2.toArray⟩])) (sz := 3) (fun _ => rfl) (hs.old hro) (k := 0) hlt rfl)) ?_; clear hf a; intro a hf
          have hte2 := hte.2
          refine s_v hf (x_bin (hf.eval rfl) (hf.eval rfl) (r_addi _ (by omega) (by omega))) ?_; clear hf a; intro a hf
          refine s_a hf rfl ?_; clear hf a; intro a hf
          refine s_nil ?_
          refine blk_n ?_
          refine blk_n ?_
          refine then_n ?_
          refine wp_region_lit ?_
          refine s_m hf rfl ?_; clear hf a; intro a hf
          refine s_v hf (x_bin (hf.eval rfl) (hf.eval rfl) (r_addi _ (by omega) (by omega))) ?_; clear hf a; intro a hf
          refine s_a hf rfl ?_; clear hf a; intro a hf
          refine s_nil ?_
          replace hf := hf.now (k := 3) (v' := .int .i64 ((encs (its.take (i + 1))).length : Int)) rfl (by congr 1; rw [encs_succ hlt, List.length_append]; (try rw [hen]); omega)
          exact ⟨_, _, ⟨i + 1, rfl, rfl, by omega, hs⟩, by omega, hf.sub ⟨rfl, rfl, rfl, rfl, trivial⟩⟩
        · simp only [decide_eq_true_eq, decide_eq_false_iff_not] at hi3
          have hen := encI_s (o := its[i]) hi1 hi2 hi3
          refine wp_region_lit ?_
          refine s_m hf rfl ?_; clear hf a; intro a hf
          refine s_m hf rfl ?_; clear hf a; intro a hf
          refine s_m hf rfl ?_; clear hf a; intro a hf
          refine s_v hf (x_indexAddr sl61 (hf.eval rfl) (hf.eval rfl) (by omega) (by omega)) ?_; clear hf a; intro a hf
          replace hf := hf.now (k := 26) (v' := .pointer (some ⟨ab, ao2 + i * 3, none⟩)) rfl (by rw [addr_add]; rfl)
          refine s_v hf (x_fieldAddr fo63_2 (hf.eval rfl)) ?_; clear hf a; intro a hf
          refine s_r hf (x_load sc9 (hf.eval rfl) (rdS_cellAt (f := (fun o : It => [Value.int .i64 o.1, .int .i64 o.2.1, .string ⟨o.2.2.toArray⟩])) (sz := 3) (fun _ => rfl) (hs.old hro) (k := 2) hlt rfl)) ?_; clear hf a; intro a hf
          refine s_v hf (x_lenS Try.underlying9 (hf.eval rfl)) ?_; clear hf a; intro a hf
          replace hf := hf.now (k := 29) (v' := .int .i64 (its[i].2.2.length : Int)) rfl (by simp [ByteArray.size])
          have hte2 := hte.2
          rw [hen] at hte2
          refine s_v hf (x_bin (hf.eval rfl) (hf.eval rfl) (r_addi _ (by omega) (by omega))) ?_; clear hf a; intro a hf
          refine s_a hf rfl ?_; clear hf a; intro a hf
          refine s_nil ?_
          refine blk_n ?_
          refine blk_n ?_
          refine then_n ?_
          refine wp_region_lit ?_
          refine s_m hf rfl ?_; clear hf a; intro a hf
          refine s_v hf (x_bin (hf.eval rfl) (hf.eval rfl) (r_addi _ (by omega) (by omega))) ?_; clear hf a; intro a hf
          refine s_a hf rfl ?_; clear hf a; intro a hf
          refine s_nil ?_
          replace hf := hf.now (k := 3) (v' := .int .i64 ((encs (its.take (i + 1))).length : Int)) rfl (by congr 1; rw [encs_succ hlt, List.length_append]; (try rw [hen]); omega)
          exact ⟨_, _, ⟨i + 1, rfl, rfl, by omega, hs⟩, by omega, hf.sub ⟨rfl, rfl, rfl, rfl, trivial⟩⟩
  · simp only [decide_eq_true_eq, decide_eq_false_iff_not, Bool.not_eq_true', Bool.not_eq_false', Bool.not_eq_true, Int.not_lt, Int.not_le] at hi0
    refine wp_exit ?_
    refine then_x ?_
    refine then_x ?_
    refine blk_x ?_
    refine then_n ?_
    refine wp_seq ?_
    refine wp_region_lit ?_
    have hi9 : i = its.length := by omega
    subst hi9
    rw [List.take_length] at hf
    refine s_m hf rfl ?_; clear hf a; intro a hf
    refine s_do hf rfl (y_call (hf.eval rfl) (hf.evals rfl) Try.call29 ((newBuf_spec _ ((encs its).length : Int)).mono ?_))
    rintro e w1 ⟨p1, rfl, hj⟩
    rw [if_neg (by omega)] at hj
    replace hs := hs.join hj
    simp only [List.cons_append, List.nil_append] at hs
    refine ⟨_, rfl, ?_⟩; clear hf a; intro a hf
    refine s_a hf rfl ?_; clear hf a; intro a hf
    refine s_nil ?_
    refine then_n ?_
    refine wp_seq ?_
    refine wp_region_lit ?_
    refine s_m hf rfl ?_; clear hf a; intro a hf
    refine s_v hf (x_bin (hf.eval rfl) (hf.eval rfl) (r_subi _ (by omega) (by omega))) ?_; clear hf a; intro a hf
    refine s_do hf rfl (y_call (hf.eval rfl) (hf.evals rfl) Try.call29 ((newBuf_spec _ (((encs its).length : Int) - 1)).mono ?_))
    rintro e w1 ⟨p2, rfl, hj⟩
    replace hs := hs.join hj
    simp only [List.cons_append, List.nil_append] at hs
    replace hs := hs.take (A := bufA 83 5 p1 [] ((encs its).length : Int) 0) (by first | exact .here _ | exact .there _ (.here _) | exact .there _ (.there _ (.here _)) | exact .there _ (.there _ (.there _ (.here _))) | exact .there _ (.there _ (.there _ (.there _ (.here _)))) | exact .there _ (.there _ (.there _ (.there _ (.there _ (.here _))))) | exact .there _ (.there _ (.there _ (.there _ (.there _ (.there _ (.here _)))))) | exact .there _ (.there _ (.there _ (.there _ (.there _ (.there _ (.there _ (.here _))))))))
    refine ⟨_, rfl, ?_⟩; clear hf a; intro a hf
    refine s_a hf rfl ?_; clear hf a; intro a hf
    refine s_nil ?_
    refine then_n ?_
    refine wp_seq ?_
    refine wp_seq ?_
    refine wp_region_lit ?_
    refine s_m hf rfl ?_; clear hf a; intro a hf
    refine s_v hf (x_eqNil Try.underlying49 (hf.eval rfl) (hf.eval rfl)) ?_; clear hf a; intro a hf
    replace hf := hf.now (k := 48) (v' := .bool false) rfl rfl
    refine s_m hf rfl ?_; clear hf a; intro a hf
    refine s_do hf (wanted_of hf rfl rfl rfl) (.value (x_move (hf.eval rfl) _) ?_); clear hf a; intro a hf
    refine s_do hf (wanted_of hf rfl rfl rfl) (.value (x_eqNil Try.underlying49 (hf.eval rfl) (hf.eval rfl) _) ?_); clear hf a; intro a hf
    replace hf := hf.now (k := 51) (v' := .bool false) rfl rfl
    refine s_v hf (x_pick_f (hf.eval rfl) (hf.eval rfl)) ?_; clear hf a; intro a hf
    refine s_nil ?_
    refine then_n ?_
    refine c_cond_f hf rfl rfl ?_
    refine wp_skip ?_
    refine then_n ?_
    refine wp_seq ?_
    refine wp_seq ?_
    refine wp_region_lit ?_
    refine s_a hf rfl ?_; clear hf a; intro a hf
    refine s_nil ?_
    refine then_n ?_
    refine wp_block ?_
    refine c_loop (L0 := [(0, _), (2, _), (3, _), (4, _), (5, _), (6, _), (12, _), (13, _), (14, _), (15, _), (42, _), (43, _), (44, _), (45, _), (46, _), (47, _), (48, _), (49, _), (50, _), (51, _), (52, _)]) (fun M w m => ∃ (i : Nat) (d2 : List UInt8) (b2 : Int), M = [(7, .int .i64 (i : Int))] ∧ its.length - i = m ∧ i ≤ its.length ∧ (b2 = 0 → d2.length = (encs (its.take i)).length ∧ (d2.length : Int) ≤ ((encs its).length : Int) - 1) ∧ d2.length ≤ (encs (its.take i)).length ∧ St ⟨w0, None_⟩ w [bufA 83 5 p1 (encs (its.take i)) ((encs its).length : Int) 0, bufA 83 5 p2 d2 (((encs its).length : Int) - 1) b2]) (M0 := [(7, .int .i64 0)]) (⟨0, [], _, rfl, rfl, Nat.zero_le _, (fun h => ⟨rfl, by by_cases h9 : ((encs its).length : Int) - 1 < 0 <;> simp [h9] at h <;> simp <;> omega⟩), Nat.le_refl _, hs⟩) (hf.sub ⟨rfl, rfl, rfl, rfl, rfl, rfl, rfl, rfl, rfl, rfl, rfl, rfl, rfl, rfl, rfl, rfl, rfl, rfl, rfl, rfl, rfl, rfl, trivial⟩) ?_
    clear hf hs a
    rintro M m a w ⟨i, d2, b2, rfl, rfl, hi, hb2, hd2, hs⟩ hf
    refine wp_seq ?_
    refine wp_seq ?_
    refine wp_region_lit ?_
    refine s_m hf rfl ?_; clear hf a; intro a hf
    refine s_m hf rfl ?_; clear hf a; intro a hf
    refine s_v hf (x_len Try.underlying61 (hf.eval rfl)) ?_; clear hf a; intro a hf
    refine s_v hf (x_bin (hf.eval rfl) (hf.eval rfl) (r_lt _ _ _ _)) ?_; clear hf a; intro a hf
    refine s_nil ?_
    refine then_n ?_
    refine c_cond hf rfl (fun hi5 => ?_) (fun hi5 => ?_)
    · simp only [decide_eq_true_eq, decide_eq_false_iff_not, Bool.not_eq_true', Bool.not_eq_false', Bool.not_eq_true, Int.not_lt, Int.not_le] at hi5
      have hlt : i < its.length := by omega
      obtain ⟨aa, rfl⟩ := hro.some (by omega)
      have hte := encs_at hlt
      have htl := encs_le its i
      refine wp_skip ?_
      refine then_n ?_
      refine wp_seq ?_
      refine wp_block ?_
      refine wp_seq ?_
      refine wp_region_lit ?_
      refine s_m hf rfl ?_; clear hf a; intro a hf
      refine s_m hf rfl ?_; clear hf a; intro a hf
      refine s_m hf rfl ?_; clear hf a; intro a hf
      refine s_v hf (x_indexAddr sl61 (hf.eval rfl) (hf.eval rfl) (by omega) (by omega)) ?_; clear hf a; intro a hf
      refine s_r hf (x_loadS ag63 (fun _ => rfl) (hs.old hro) (hf.eval rfl) (by simpa using hlt)) ?_; clear hf a; intro a hf
      refine s_do hf rfl (y_call (hf.eval rfl) (hf.evals rfl) Try.call40 ((put_spec _ _ _ p1 (encs (its.take i)) ((encs its).length : Int) 0 hs (fun _ => by omega) (by omega) (by omega) its[i] (h0 _ (List.getElem_mem _)) (h1 _ (List.getElem_mem _)) (hsl _ (List.getElem_mem _))).mono ?_))
      rintro e w1 ⟨rfl, hs⟩
      have hte2 := hte.2
      have hp := putB_eq (encs (its.take i)) ((encs its).length : Int) 0 its[i]
      rw [if_neg (by simp), if_neg (by omega)] at hp
      rw [hp] at hs
      replace hs : St ⟨w0, None_⟩ w1 [bufA 83 5 p1 (encs (its.take (i + 1))) ((encs its).length : Int) 0, bufA 83 5 p2 d2 (((encs its).length : Int) - 1) b2] := by rw [encs_succ hlt]; exact hs
      refine ⟨_, rfl, ?_⟩; clear hf a; intro a hf
      refine s_nil ?_
      refine then_n ?_
      refine wp_region_lit ?_
      refine s_m hf rfl ?_; clear hf a; intro a hf
      refine s_m hf rfl ?_; clear hf a; intro a hf
      refine s_m hf rfl ?_; clear hf a; intro a hf
      refine s_v hf (x_indexAddr sl61 (hf.eval rfl) (hf.eval rfl) (by omega) (by omega)) ?_; clear hf a; intro a hf
      refine s_r hf (x_loadS ag63 (fun _ => rfl) (hs.old hro) (hf.eval rfl) (by simpa using hlt)) ?_; clear hf a; intro a hf
      replace hs := hs.take (A := bufA 83 5 p2 d2 (((encs its).length : Int) - 1) b2) (by first | exact .here _ | exact .there _ (.here _) | exact .there _ (.there _ (.here _)) | exact .there _ (.there _ (.there _ (.here _))) | exact .there _ (.there _ (.there _ (.there _ (.here _)))) | exact .there _ (.there _ (.there _ (.there _ (.there _ (.here _))))) | exact .there _ (.there _ (.there _ (.there _ (.there _ (.there _ (.here _)))))) | exact .there _ (.there _ (.there _ (.there _ (.there _ (.there _ (.there _ (.here _))))))))
      refine s_do hf rfl (y_call (hf.eval rfl) (hf.evals rfl) Try.call40 ((put_spec _ _ _ p2 d2 (((encs its).length : Int) - 1) b2 hs (fun h => by have := hb2 h; omega) (by omega) (by omega) its[i] (h0 _ (List.getElem_mem _)) (h1 _ (List.getElem_mem _)) (hsl _ (List.getElem_mem _))).mono ?_))
      rintro e w1 ⟨rfl, hs⟩
      have hinv := putB_inv its[i] hb2 hd2
      have hel : (encs (its.take (i + 1))).length = (encs (its.take i)).length + (encI its[i]).length := by rw [encs_succ hlt, List.length_append]
      rw [← hel] at hinv
      generalize putB d2 (((encs its).length : Int) - 1) b2 its[i] = S at hs hinv
      obtain ⟨hb2, hd2⟩ := hinv
      replace hs := hs.take (A := bufA 83 5 p1 (encs (its.take (i + 1))) ((encs its).length : Int) 0) (by first | exact .here _ | exact .there _ (.here _) | exact .there _ (.there _ (.here _)) | exact .there _ (.there _ (.there _ (.here _))) | exact .there _ (.there _ (.there _ (.there _ (.here _)))) | exact .there _ (.there _ (.there _ (.there _ (.there _ (.here _))))) | exact .there _ (.there _ (.there _ (.there _ (.there _ (.there _ (.here _)))))) | exact .there _ (.there _ (.there _ (.there _ (.there _ (.there _ (.there _ (.here _))))))))
      refine ⟨_, rfl, ?_⟩; clear hf a; intro a hf
      refine s_nil ?_
      refine blk_n ?_
      refine then_n ?_
      refine wp_region_lit ?_
      refine s_m hf rfl ?_; clear hf a; intro a hf
      refine s_v hf (x_bin (hf.eval rfl) (hf.eval rfl) (r_addi _ (by omega) (by omega))) ?_; clear hf a; intro a hf
      refine s_a hf rfl ?_; clear hf a; intro a hf
      refine s_nil ?_
      exact ⟨_, _, ⟨i + 1, _, _, rfl, rfl, by omega, hb2, hd2, hs⟩, by omega, hf.sub ⟨rfl, rfl, rfl, rfl, rfl, rfl, rfl, rfl, rfl, rfl, rfl, rfl, rfl, rfl, rfl, rfl, rfl, rfl, rfl, rfl, rfl, rfl, trivial⟩⟩
    · simp only [decide_eq_true_eq, decide_eq_false_iff_not, Bool.not_eq_true', Bool.not_eq_false', Bool.not_eq_true, Int.not_lt, Int.not_le] at hi5
      refine wp_exit ?_
      refine then_x ?_
      refine then_x ?_
      refine blk_x ?_
      refine then_n ?_
      refine wp_seq ?_
      refine wp_region_lit ?_
      have hi9 : i = its.length := by omega
      subst hi9
      rw [List.take_length] at hs hb2 hd2
      refine s_m hf rfl ?_; clear hf a; intro a hf
      refine s_do hf rfl (y_call (hf.eval rfl) (hf.evals rfl) Try.call31 ((bTake_spec _ _ _ p1 (encs its) ((encs its).length : Int) 0 hs (fun _ => by omega) (by omega) (by omega)).mono ?_))
      rintro e w1 ⟨g1, cg1, rfl, hs⟩
      have htk : takeB (encs its) 0 = encs its := by simp [takeB]
      rw [htk] at hs ⊢
      refine ⟨_, rfl, ?_⟩; clear hf a; intro a hf
      refine s_a hf rfl ?_; clear hf a; intro a hf
      refine s_nil ?_
      refine then_n ?_
      refine wp_seq ?_
      refine wp_region_lit ?_
      refine s_m hf rfl ?_; clear hf a; intro a hf
      refine s_do hf rfl (y_call (hf.eval rfl) (hf.evals rfl) Try.call16 ((newCursor_spec _ _ _ (encs its) (hs.rdB (.here _) fun h => slB_rd) (by omega)).mono ?_))
      rintro e w1 ⟨p3, rfl, hj⟩
      replace hs := hs.join hj
      simp only [List.cons_append, List.nil_append] at hs
      refine ⟨_, rfl, ?_⟩; clear hf a; intro a hf
      refine s_a hf rfl ?_; clear hf a; intro a hf
      refine s_nil ?_
      refine then_n ?_
      refine wp_seq ?_
      refine wp_seq ?_
      refine wp_region_lit ?_
      refine s_m hf rfl ?_; clear hf a; intro a hf
      refine s_v hf (x_eqNil Try.underlying34 (hf.eval rfl) (hf.eval rfl)) ?_; clear hf a; intro a hf
      replace hf := hf.now (k := 76) (v' := .bool false) rfl rfl
      refine s_m hf rfl ?_; clear hf a; intro a hf
      refine s_do hf (wanted_of hf rfl rfl rfl) (.value (x_move (hf.eval rfl) _) ?_); clear hf a; intro a hf
      replace hs := hs.take (A := bufA 83 5 p1 (encs its) ((encs its).length : Int) 0) (by first | exact .here _ | exact .there _ (.here _) | exact .there _ (.there _ (.here _)) | exact .there _ (.there _ (.there _ (.here _))) | exact .there _ (.there _ (.there _ (.there _ (.here _)))) | exact .there _ (.there _ (.there _ (.there _ (.there _ (.here _))))) | exact .there _ (.there _ (.there _ (.there _ (.there _ (.there _ (.here _)))))) | exact .there _ (.there _ (.there _ (.there _ (.there _ (.there _ (.there _ (.here _))))))))
      refine s_do hf (wanted_of hf rfl rfl rfl) (y_call (hf.eval rfl) (hf.evals rfl) Try.call38 ((bErr_spec _ _ _ _ _ _ _ hs (fun _ => by omega) (by omega) (by omega)).mono ?_))
      rintro e w1 ⟨rfl, hs⟩
      refine ⟨_, rfl, ?_⟩; clear hf a; intro a hf
      refine s_do hf (wanted_of hf rfl rfl rfl) (y_call (hf.eval rfl) (hf.evals rfl) Try.call14 ((num_spec _ _).mono ?_))
      rintro e w1 ⟨rfl, rfl⟩
      refine ⟨_, rfl, ?_⟩; clear hf a; intro a hf
      refine s_do hf (wanted_of hf rfl rfl rfl) (.value (x_bin (hf.eval rfl) (hf.eval rfl) (r_ne _ _ _ _) _) ?_); clear hf a; intro a hf
      refine s_v hf (x_pick_f (hf.eval rfl) (hf.eval rfl)) ?_; clear hf a; intro a hf
      refine s_m hf rfl ?_; clear hf a; intro a hf
      replace hf := hf.now (k := 83) (v' := .bool false) rfl (congrArg Value.bool (by simp))
      refine s_do hf (wanted_of hf rfl rfl rfl) (.value (x_move (hf.eval rfl) _) ?_); clear hf a; intro a hf
      refine s_do hf (wanted_of hf rfl rfl rfl) (.value (x_len Try.underlying31 (hf.eval rfl) _) ?_); clear hf a; intro a hf
      refine s_do hf (wanted_of hf rfl rfl rfl) (.value (x_move (hf.eval rfl) _) ?_); clear hf a; intro a hf
      refine s_do hf (wanted_of hf rfl rfl rfl) (.value (x_bin (hf.eval rfl) (hf.eval rfl) (r_ne _ _ _ _) _) ?_); clear hf a; intro a hf
      refine s_v hf (x_pick_f (hf.eval rfl) (hf.eval rfl)) ?_; clear hf a; intro a hf
      refine s_m hf rfl ?_; clear hf a; intro a hf
      replace hf := hf.now (k := 89) (v' := .bool false) rfl (congrArg Value.bool (by simp))
      refine s_do hf (wanted_of hf rfl rfl rfl) (.value (x_move (hf.eval rfl) _) ?_); clear hf a; intro a hf
      replace hs := hs.take (A := bufA 83 5 p2 d2 (((encs its).length : Int) - 1) b2) (by first | exact .here _ | exact .there _ (.here _) | exact .there _ (.there _ (.here _)) | exact .there _ (.there _ (.there _ (.here _))) | exact .there _ (.there _ (.there _ (.there _ (.here _)))) | exact .there _ (.there _ (.there _ (.there _ (.there _ (.here _))))) | exact .there _ (.there _ (.there _ (.there _ (.there _ (.there _ (.here _)))))) | exact .there _ (.there _ (.there _ (.there _ (.there _ (.there _ (.there _ (.here _))))))))
      refine s_do hf (wanted_of hf rfl rfl rfl) (y_call (hf.eval rfl) (hf.evals rfl) Try.call38 ((bErr_spec _ _ _ _ _ _ _ hs (fun h => by have := hb2 h; omega) (by omega) (by omega)).mono ?_))
      rintro e w1 ⟨rfl, hs⟩
      refine ⟨_, rfl, ?_⟩; clear hf a; intro a hf
      refine s_do hf (wanted_of hf rfl rfl rfl) (y_call (hf.eval rfl) (hf.evals rfl) Try.call14 ((num_spec _ _).mono ?_))
      rintro e w1 ⟨rfl, rfl⟩
      refine ⟨_, rfl, ?_⟩; clear hf a; intro a hf
      refine s_do hf (wanted_of hf rfl rfl rfl) (.value (x_bin (hf.eval rfl) (hf.eval rfl) (r_eq _ _ _ _) _) ?_); clear hf a; intro a hf
      refine s_v hf (x_pick_f (hf.eval rfl) (hf.eval rfl)) ?_; clear hf a; intro a hf
      refine s_nil ?_
      refine then_n ?_
      refine c_cond_f hf rfl (by simp; intro h9; have := hb2 h9; omega) ?_
      refine wp_skip ?_
      refine then_n ?_
      refine wp_seq ?_
      refine wp_seq ?_
      refine wp_region_lit ?_
      refine s_a hf rfl ?_; clear hf a; intro a hf
      refine s_nil ?_
      refine then_n ?_
      refine wp_block ?_
      replace hs := hs.take (A := curA 79 5 p3 (encs its) 0 0) (by first | exact .here _ | exact .there _ (.here _) | exact .there _ (.there _ (.here _)) | exact .there _ (.there _ (.there _ (.here _))) | exact .there _ (.there _ (.there _ (.there _ (.here _)))) | exact .there _ (.there _ (.there _ (.there _ (.there _ (.here _))))) | exact .there _ (.there _ (.there _ (.there _ (.there _ (.there _ (.here _)))))) | exact .there _ (.there _ (.there _ (.there _ (.there _ (.there _ (.there _ (.here _))))))))
      refine c_loop (L0 := [(0, _), (3, _), (4, _), (5, _), (6, _), (7, _), (8, _), (9, _), (12, _), (13, _), (14, _), (15, _), (42, _), (43, _), (44, _), (45, _), (46, _), (47, _), (48, _), (49, _), (50, _), (51, _), (52, _), (53, _), (54, _), (55, _), (56, _), (71, _), (72, _), (73, _), (74, _), (75, _), (76, _), (77, _), (78, _), (79, _), (80, _), (81, _), (82, _), (83, _), (84, _), (85, _), (86, _), (87, _), (88, _), (89, _), (90, _), (91, _), (92, _), (93, _), (94, _)]) (fun M w m => ∃ (i : Nat) (Rr : List Asrt), M = [(10, .int .i64 (i : Int))] ∧ its.length - i = m ∧ i ≤ its.length ∧ St ⟨w0, None_⟩ w (curA 79 5 p3 (encs its) (encs (its.take i)).length 0 :: Rr)) (M0 := [(10, .int .i64 0)]) (⟨0, _, rfl, rfl, Nat.zero_le _, hs⟩) (hf.sub ⟨rfl, rfl, rfl, rfl, rfl, rfl, rfl, rfl, rfl, rfl, rfl, rfl, rfl, rfl, rfl, rfl, rfl, rfl, rfl, rfl, rfl, rfl, rfl, rfl, rfl, rfl, rfl, rfl, rfl, rfl, rfl, rfl, rfl, rfl, rfl, rfl, rfl, rfl, rfl, rfl, rfl, rfl, rfl, rfl, rfl, rfl, rfl, rfl, rfl, rfl, rfl, rfl, trivial⟩) ?_
      clear hf hs a
      rintro M m a w ⟨i, Rr, rfl, rfl, hi, hs⟩ hf
      refine wp_seq ?_
      refine wp_seq ?_
      refine wp_region_lit ?_
      refine s_m hf rfl ?_; clear hf a; intro a hf
      refine s_m hf rfl ?_; clear hf a; intro a hf
      refine s_v hf (x_len Try.underlying61 (hf.eval rfl)) ?_; clear hf a; intro a hf
      refine s_v hf (x_bin (hf.eval rfl) (hf.eval rfl) (r_lt _ _ _ _)) ?_; clear hf a; intro a hf
      refine s_nil ?_
      refine then_n ?_
      refine c_cond hf rfl (fun hi7 => ?_) (fun hi7 => ?_)
      · simp only [decide_eq_true_eq, decide_eq_false_iff_not, Bool.not_eq_true', Bool.not_eq_false', Bool.not_eq_true, Int.not_lt, Int.not_le] at hi7
        have hlt : i < its.length := by omega
        obtain ⟨aa, rfl⟩ := hro.some (by omega)
        have hte := encs_at hlt
        have htl := encs_le its i
        refine wp_skip ?_
        refine then_n ?_
        refine wp_seq ?_
        refine wp_block ?_
        refine wp_seq ?_
        refine wp_region_lit ?_
        refine s_m hf rfl ?_; clear hf a; intro a hf
        refine s_m hf rfl ?_; clear hf a; intro a hf
        refine s_m hf rfl ?_; clear hf a; intro a hf
        refine s_v hf (x_indexAddr sl61 (hf.eval rfl) (hf.eval rfl) (by omega) (by omega)) ?_; clear hf a; intro a hf
        refine s_r hf (x_loadS ag63 (fun _ => rfl) (hs.old hro) (hf.eval rfl) (by simpa using hlt)) ?_; clear hf a; intro a hf
        refine s_do hf rfl (y_call (hf.eval rfl) (hf.evals rfl) Try.call41 ((got_spec _ _ _ p3 (encs its) (encs (its.take i)).length its[i] hs hte.1 hte.2 (by omega) (h0 _ (List.getElem_mem _)) (h1 _ (List.getElem_mem _)) (hsl _ (List.getElem_mem _))).mono ?_))
        rintro e w1 ⟨rfl, hs⟩
        rw [← List.length_append, ← encs_succ hlt] at hs
        refine ⟨_, rfl, ?_⟩; clear hf a; intro a hf
        refine s_a hf rfl ?_; clear hf a; intro a hf
        refine s_nil ?_
        refine then_n ?_
        refine wp_seq ?_
        refine wp_region_lit ?_
        refine s_m hf rfl ?_; clear hf a; intro a hf
        refine s_v hf (x_not (hf.eval rfl)) ?_; clear hf a; intro a hf
        refine s_nil ?_
        refine then_n ?_
        refine c_cond_f hf rfl rfl ?_
        refine wp_skip ?_
        refine blk_n ?_
        refine then_n ?_
        refine wp_region_lit ?_
        refine s_m hf rfl ?_; clear hf a; intro a hf
        refine s_v hf (x_bin (hf.eval rfl) (hf.eval rfl) (r_addi _ (by omega) (by omega))) ?_; clear hf a; intro a hf
        refine s_a hf rfl ?_; clear hf a; intro a hf
        refine s_nil ?_
        exact ⟨_, _, ⟨i + 1, _, rfl, rfl, by omega, hs⟩, by omega, hf.sub ⟨rfl, rfl, rfl, rfl, rfl, rfl, rfl, rfl, rfl, rfl, rfl, rfl, rfl, rfl, rfl, rfl, rfl, rfl, rfl, rfl, rfl, rfl, rfl, rfl, rfl, rfl, rfl, rfl, rfl, rfl, rfl, rfl, rfl, rfl, rfl, rfl, rfl, rfl, rfl, rfl, rfl, rfl, rfl, rfl, rfl, rfl, rfl, rfl, rfl, rfl, rfl, rfl, trivial⟩⟩
      · simp only [decide_eq_true_eq, decide_eq_false_iff_not, Bool.not_eq_true', Bool.not_eq_false', Bool.not_eq_true, Int.not_lt, Int.not_le] at hi7
        refine wp_exit ?_
        refine then_x ?_
        refine then_x ?_
        refine blk_x ?_
        refine then_n ?_
        refine wp_seq ?_
        refine wp_region_lit ?_
        have hi9 : i = its.length := by omega
        subst hi9
        rw [List.take_length] at hs
        refine s_m hf rfl ?_; clear hf a; intro a hf
        refine s_do hf rfl (y_call (hf.eval rfl) (hf.evals rfl) Try.call23 ((left_spec _ _ _ p3 (encs its) _ 0 hs (Nat.le_refl _) (by omega)).mono ?_))
        rintro e w1 ⟨rfl, hs⟩
        refine ⟨_, rfl, ?_⟩; clear hf a; intro a hf
        refine s_v hf (x_bin (hf.eval rfl) (hf.eval rfl) (r_eq _ _ _ _)) ?_; clear hf a; intro a hf
        refine s_m hf rfl ?_; clear hf a; intro a hf
        replace hf := hf.now (k := 112) (v' := .bool true) rfl (congrArg Value.bool (by simp))
        refine s_do hf (wanted_of hf rfl rfl rfl) (.value (x_move (hf.eval rfl) _) ?_); clear hf a; intro a hf
        refine s_do hf (wanted_of hf rfl rfl rfl) (y_call (hf.eval rfl) (hf.evals rfl) Try.call25 ((err_spec _ _ _ p3 (encs its) _ 0 hs (Nat.le_refl _) (by omega)).mono ?_))
        rintro e w1 ⟨rfl, hs⟩
        refine ⟨_, rfl, ?_⟩; clear hf a; intro a hf
        refine s_do hf (wanted_of hf rfl rfl rfl) (y_call (hf.eval rfl) (hf.evals rfl) Try.call14 ((num_spec _ _).mono ?_))
        rintro e w1 ⟨rfl, rfl⟩
        refine ⟨_, rfl, ?_⟩; clear hf a; intro a hf
        refine s_do hf (wanted_of hf rfl rfl rfl) (.value (x_bin (hf.eval rfl) (hf.eval rfl) (r_eq _ _ _ _) _) ?_); clear hf a; intro a hf
        refine s_v hf (x_pick_t (hf.eval rfl) (hf.eval rfl)) ?_; clear hf a; intro a hf
        refine s_a hf rfl ?_; clear hf a; intro a hf
        refine s_nil ?_
        refine then_n ?_
        refine wp_ret ?_
        refine r_1 hf Try.results10 rfl ?_
        exact ⟨by simp, hs.kept⟩

end Go.Proofs.Ytfcmklmeinchhaa
