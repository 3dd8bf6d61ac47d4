/- The statement JournalSealBack. -/
import Derived.Test.YtehakfbfjpolfaaDoorVW
import Derived.Test.YtehakfbfjpolfaaDoorSec
import Derived.Test.YtehakfbfjpolfaaDoorProg
import Derived.Test.YtehakfbfjpolfaaDoorFacts
set_option maxRecDepth 100000
set_option linter.all false
namespace Go.Proofs.YtehakfbfjpolfaaDoor
open Go Vw
theorem linField_spec (w : World) (v : Int) : Calls Tryd.prog 19 #[.int .i64 v] w fun e w' => e = .returned (.bool (inF v)) ∧ w' = w := by
  refine c_enter (N := 9) Tryd.func19 rfl Tryd.ntmps19 (by simp) ?_
  intro a hf
  refine wp_seq ?_
  refine wp_region_lit ?_
  refine s_a hf rfl ?_; clear hf a; intro a hf
  refine s_nil ?_
  refine then_n ?_
  refine wp_seq ?_
  refine wp_region_lit ?_
  refine s_m hf rfl ?_; clear hf a; intro a hf
  refine s_v hf (x_bin (hf.eval rfl) (hf.eval rfl) (r_ge _ _ _ _)) ?_; clear hf a; intro a hf
  refine s_m hf rfl ?_; clear hf a; intro a hf
  refine s_bool hf (k := 5) rfl (fun hg1_2 hf' => ?_) (fun hg1_2 hf' => ?_)
  · clear hf
    have hf := hf'
    clear hf'
    simp only [decide_eq_true_eq, decide_eq_false_iff_not, Bool.not_eq_true', Bool.not_eq_false', Bool.not_eq_true, Int.not_lt, Int.not_le] at hg1_2
    refine s_do hf (wanted_of hf rfl rfl rfl) (.value (x_move (hf.eval rfl) _) ?_); clear hf a; intro a hf
    refine s_do hf (wanted_of hf rfl rfl rfl) (.value (x_bin (hf.eval rfl) (hf.eval rfl) (r_le _ _ _ _) _) ?_); clear hf a; intro a hf
    refine s_v hf (x_pick_t (hf.eval rfl) (hf.eval rfl)) ?_; clear hf a; intro a hf
    refine s_a hf rfl ?_; clear hf a; intro a hf
    refine s_nil ?_
    refine then_n ?_
    refine wp_ret ?_
    refine r_1 hf Tryd.results19 rfl ?_
    exact ⟨by unfold inF; congr 2; simp; omega, rfl⟩
  · clear hf
    have hf := hf'
    clear hf'
    simp only [decide_eq_true_eq, decide_eq_false_iff_not, Bool.not_eq_true', Bool.not_eq_false', Bool.not_eq_true, Int.not_lt, Int.not_le] at hg1_2
    refine s_pass hf rfl rfl ?_; clear hf a; intro a hf
    refine s_pass hf rfl rfl ?_; clear hf a; intro a hf
    refine s_v hf (x_pick_f (hf.eval rfl) (hf.eval rfl)) ?_; clear hf a; intro a hf
    refine s_a hf rfl ?_; clear hf a; intro a hf
    refine s_nil ?_
    refine then_n ?_
    refine wp_ret ?_
    refine r_1 hf Tryd.results19 rfl ?_
    exact ⟨by unfold inF; congr 2; simp; omega, rfl⟩

theorem sealBack_spec (w0 : World) (hT : Tab 0 (hp w0)) (s : Sl) (hsu : s.2.2.2.2.2.2 < 4294967296) (at_ : Int) (x : UInt8) : Calls Tryd.prog 5 #[.agg (slF s).toArray, .int .i64 at_, u8v x] w0 fun e w' => e = .returned (.bool true) ∧ Kept w0 w' None_ := by
  have hs := St.start w0 None_
  refine c_enter (N := 121) Tryd.func5 rfl Tryd.ntmps5 (by simp) ?_
  intro a hf
  refine wp_seq ?_
  refine wp_region_lit ?_
  refine s_do hf rfl (y_box hs (hf.eval rfl) ?_); clear hf hs a; intro b3 w hs a hf
  replace hs : St _ w (cb b3 24 (slF s) :: _) := hs
  refine s_a hf rfl ?_; clear hf a; intro a hf
  refine s_nil ?_
  refine then_n ?_
  refine wp_seq ?_
  refine wp_seq ?_
  refine wp_region_lit ?_
  refine s_v hf (x_fieldAddr fo24_0 (hf.eval rfl)) ?_; clear hf a; intro a hf
  refine s_r hf (x_load sc3 (hf.eval rfl) (by first | exact hs.cell (.here _) rfl | exact hs.cell (.there _ (.here _)) rfl | exact hs.cell (.there _ (.there _ (.here _))) rfl | exact hs.cell (.there _ (.there _ (.there _ (.here _)))) rfl | exact hs.cell (.there _ (.there _ (.there _ (.there _ (.here _))))) rfl | exact hs.cell (.there _ (.there _ (.there _ (.there _ (.there _ (.here _)))))) rfl | exact hs.cell (.there _ (.there _ (.there _ (.there _ (.there _ (.there _ (.here _))))))) rfl | exact hs.cell (.there _ (.there _ (.there _ (.there _ (.there _ (.there _ (.there _ (.here _)))))))) rfl)) ?_; clear hf a; intro a hf
  refine s_v hf (x_bin (hf.eval rfl) (hf.eval rfl) (r_lt _ _ _ _)) ?_; clear hf a; intro a hf
  refine s_m hf rfl ?_; clear hf a; intro a hf
  refine s_bool hf (k := 16) rfl (fun hg1_3 hf' => ?_) (fun hg1_3 hf' => ?_)
  · clear hf
    have hf := hf'
    clear hf'
    first | simp only [decide_eq_true_eq, decide_eq_false_iff_not, Bool.not_eq_true', Bool.not_eq_false'] at hg1_3 | skip
    refine s_pass hf rfl rfl ?_; clear hf a; intro a hf
    refine s_pass hf rfl rfl ?_; clear hf a; intro a hf
    refine s_pass hf rfl rfl ?_; clear hf a; intro a hf
    refine s_v hf (x_pick_t (hf.eval rfl) (hf.eval rfl)) ?_; clear hf a; intro a hf
    refine s_m hf rfl ?_; clear hf a; intro a hf
    refine s_pass hf rfl rfl ?_; clear hf a; intro a hf
    refine s_pass hf rfl rfl ?_; clear hf a; intro a hf
    refine s_pass hf rfl rfl ?_; clear hf a; intro a hf
    refine s_pass hf rfl rfl ?_; clear hf a; intro a hf
    refine s_v hf (x_pick_t (hf.eval rfl) (hf.eval rfl)) ?_; clear hf a; intro a hf
    refine s_m hf rfl ?_; clear hf a; intro a hf
    refine s_pass hf rfl rfl ?_; clear hf a; intro a hf
    refine s_pass hf rfl rfl ?_; clear hf a; intro a hf
    refine s_pass hf rfl rfl ?_; clear hf a; intro a hf
    refine s_pass hf rfl rfl ?_; clear hf a; intro a hf
    refine s_v hf (x_pick_t (hf.eval rfl) (hf.eval rfl)) ?_; clear hf a; intro a hf
    refine s_m hf rfl ?_; clear hf a; intro a hf
    refine s_pass hf rfl rfl ?_; clear hf a; intro a hf
    refine s_pass hf rfl rfl ?_; clear hf a; intro a hf
    refine s_pass hf rfl rfl ?_; clear hf a; intro a hf
    refine s_pass hf rfl rfl ?_; clear hf a; intro a hf
    refine s_v hf (x_pick_t (hf.eval rfl) (hf.eval rfl)) ?_; clear hf a; intro a hf
    refine s_m hf rfl ?_; clear hf a; intro a hf
    refine s_pass hf rfl rfl ?_; clear hf a; intro a hf
    refine s_pass hf rfl rfl ?_; clear hf a; intro a hf
    refine s_pass hf rfl rfl ?_; clear hf a; intro a hf
    refine s_pass hf rfl rfl ?_; clear hf a; intro a hf
    refine s_v hf (x_pick_t (hf.eval rfl) (hf.eval rfl)) ?_; clear hf a; intro a hf
    refine s_m hf rfl ?_; clear hf a; intro a hf
    refine s_pass hf rfl rfl ?_; clear hf a; intro a hf
    refine s_pass hf rfl rfl ?_; clear hf a; intro a hf
    refine s_pass hf rfl rfl ?_; clear hf a; intro a hf
    refine s_pass hf rfl rfl ?_; clear hf a; intro a hf
    refine s_v hf (x_pick_t (hf.eval rfl) (hf.eval rfl)) ?_; clear hf a; intro a hf
    refine s_nil ?_
    refine then_n ?_
    refine c_cond_t hf rfl rfl ?_
    refine wp_seq ?_
    refine wp_region_lit ?_
    have hno : slOk s = false := by first | exact no_st (s := s) (by omega) | (unfold slOk; rw [hg1_14]; simp; done) | (unfold slOk; rw [hg1_20]; simp; done) | (unfold slOk; rw [hg1_26]; simp; done) | (unfold slOk; rw [hg1_32]; simp; done) | (unfold slOk; rw [hi0]; simp; done)
    obtain ⟨hE, hV⟩ := enc_no hno
    refine s_r hf (x_loadBlk hs ag24 (hf.eval rfl) rfl (by first | exact .here _ | exact .there _ (.here _) | exact .there _ (.there _ (.here _)) | exact .there _ (.there _ (.there _ (.here _))) | exact .there _ (.there _ (.there _ (.there _ (.here _)))) | exact .there _ (.there _ (.there _ (.there _ (.there _ (.here _))))) | exact .there _ (.there _ (.there _ (.there _ (.there _ (.there _ (.here _)))))) | exact .there _ (.there _ (.there _ (.there _ (.there _ (.there _ (.there _ (.here _))))))) | exact .there _ (.there _ (.there _ (.there _ (.there _ (.there _ (.there _ (.there _ (.here _)))))))) | exact .there _ (.there _ (.there _ (.there _ (.there _ (.there _ (.there _ (.there _ (.there _ (.here _))))))))))) ?_; clear hf a; intro a hf
    refine s_do hf rfl (y_call (hf.eval rfl) (hf.evals rfl) Tryd.call10 ((encode_spec _ (hT.kept hs.kept) s hsu).mono ?_))
    rintro e w1 ⟨g1, cg1, rfl, hj⟩
    replace hs := hs.join hj
    simp only [List.cons_append, List.nil_append] at hs
    rw [hV] at hs ⊢
    rw [hE]
    refine ⟨_, rfl, ?_⟩; clear hf a; intro a hf
    refine s_m hf rfl ?_; clear hf a; intro a hf
    refine s_v hf (x_extract (hf.eval rfl) rfl) ?_; clear hf a; intro a hf
    refine s_v hf (x_extract (hf.eval rfl) rfl) ?_; clear hf a; intro a hf
    refine s_a hf rfl ?_; clear hf a; intro a hf
    refine s_a hf rfl ?_; clear hf a; intro a hf
    refine s_nil ?_
    refine then_n ?_
    refine wp_seq ?_
    refine wp_region_lit ?_
    refine s_m hf rfl ?_; clear hf a; intro a hf
    refine s_do hf rfl (y_call (hf.eval rfl) (hf.evals rfl) Tryd.call13 ((num_spec _ _).mono ?_))
    rintro e w1 ⟨rfl, hw⟩
    subst hw
    refine ⟨_, rfl, ?_⟩; clear hf a; intro a hf
    refine s_v hf (x_bin (hf.eval rfl) (hf.eval rfl) (r_eq _ _ _ _)) ?_; clear hf a; intro a hf
    refine s_m hf rfl ?_; clear hf a; intro a hf
    replace hf := hf.now (k := 59) (v' := .bool true) rfl (congrArg Value.bool (by simp))
    refine s_do hf (wanted_of hf rfl rfl rfl) (.value (x_move (hf.eval rfl) _) ?_); clear hf a; intro a hf
    refine s_do hf (wanted_of hf rfl rfl rfl) (.value (x_len Tryd.underlying25 (hf.eval rfl) _) ?_); clear hf a; intro a hf
    refine s_do hf (wanted_of hf rfl rfl rfl) (.value (x_bin (hf.eval rfl) (hf.eval rfl) (r_eq _ _ _ _) _) ?_); clear hf a; intro a hf
    refine s_v hf (x_pick_t (hf.eval rfl) (hf.eval rfl)) ?_; clear hf a; intro a hf
    refine s_a hf rfl ?_; clear hf a; intro a hf
    refine s_nil ?_
    refine then_n ?_
    refine wp_ret ?_
    refine then_r ?_
    refine r_1 hf Tryd.results5 rfl ?_
    exact ⟨by simp, hs.kept⟩
  · clear hf
    have hf := hf'
    clear hf'
    first | simp only [decide_eq_true_eq, decide_eq_false_iff_not, Bool.not_eq_true', Bool.not_eq_false'] at hg1_3 | skip
    refine s_do hf (wanted_of hf rfl rfl rfl) (.value (x_fieldAddr fo24_0 (hf.eval rfl) _) ?_); clear hf a; intro a hf
    refine s_do hf (wanted_of hf rfl rfl rfl) (.value (x_load sc3 (hf.eval rfl) (by first | exact hs.cell (.here _) rfl | exact hs.cell (.there _ (.here _)) rfl | exact hs.cell (.there _ (.there _ (.here _))) rfl | exact hs.cell (.there _ (.there _ (.there _ (.here _)))) rfl | exact hs.cell (.there _ (.there _ (.there _ (.there _ (.here _))))) rfl | exact hs.cell (.there _ (.there _ (.there _ (.there _ (.there _ (.here _)))))) rfl | exact hs.cell (.there _ (.there _ (.there _ (.there _ (.there _ (.there _ (.here _))))))) rfl | exact hs.cell (.there _ (.there _ (.there _ (.there _ (.there _ (.there _ (.there _ (.here _)))))))) rfl)) ?_); clear hf a; intro a hf
    refine s_do hf (wanted_of hf rfl rfl rfl) (.value (x_bin (hf.eval rfl) (hf.eval rfl) (r_gt _ _ _ _) _) ?_); clear hf a; intro a hf
    refine s_v hf (x_pick_f (hf.eval rfl) (hf.eval rfl)) ?_; clear hf a; intro a hf
    refine s_m hf rfl ?_; clear hf a; intro a hf
    refine s_bool hf (k := 21) rfl (fun hg1_8 hf' => ?_) (fun hg1_8 hf' => ?_)
    · clear hf
      have hf := hf'
      clear hf'
      first | simp only [decide_eq_true_eq, decide_eq_false_iff_not, Bool.not_eq_true', Bool.not_eq_false'] at hg1_8 | skip
      refine s_pass hf rfl rfl ?_; clear hf a; intro a hf
      refine s_pass hf rfl rfl ?_; clear hf a; intro a hf
      refine s_pass hf rfl rfl ?_; clear hf a; intro a hf
      refine s_pass hf rfl rfl ?_; clear hf a; intro a hf
      refine s_v hf (x_pick_t (hf.eval rfl) (hf.eval rfl)) ?_; clear hf a; intro a hf
      refine s_m hf rfl ?_; clear hf a; intro a hf
      refine s_pass hf rfl rfl ?_; clear hf a; intro a hf
      refine s_pass hf rfl rfl ?_; clear hf a; intro a hf
      refine s_pass hf rfl rfl ?_; clear hf a; intro a hf
      refine s_pass hf rfl rfl ?_; clear hf a; intro a hf
      refine s_v hf (x_pick_t (hf.eval rfl) (hf.eval rfl)) ?_; clear hf a; intro a hf
      refine s_m hf rfl ?_; clear hf a; intro a hf
      refine s_pass hf rfl rfl ?_; clear hf a; intro a hf
      refine s_pass hf rfl rfl ?_; clear hf a; intro a hf
      refine s_pass hf rfl rfl ?_; clear hf a; intro a hf
      refine s_pass hf rfl rfl ?_; clear hf a; intro a hf
      refine s_v hf (x_pick_t (hf.eval rfl) (hf.eval rfl)) ?_; clear hf a; intro a hf
      refine s_m hf rfl ?_; clear hf a; intro a hf
      refine s_pass hf rfl rfl ?_; clear hf a; intro a hf
      refine s_pass hf rfl rfl ?_; clear hf a; intro a hf
      refine s_pass hf rfl rfl ?_; clear hf a; intro a hf
      refine s_pass hf rfl rfl ?_; clear hf a; intro a hf
      refine s_v hf (x_pick_t (hf.eval rfl) (hf.eval rfl)) ?_; clear hf a; intro a hf
      refine s_m hf rfl ?_; clear hf a; intro a hf
      refine s_pass hf rfl rfl ?_; clear hf a; intro a hf
      refine s_pass hf rfl rfl ?_; clear hf a; intro a hf
      refine s_pass hf rfl rfl ?_; clear hf a; intro a hf
      refine s_pass hf rfl rfl ?_; clear hf a; intro a hf
      refine s_v hf (x_pick_t (hf.eval rfl) (hf.eval rfl)) ?_; clear hf a; intro a hf
      refine s_nil ?_
      refine then_n ?_
      refine c_cond_t hf rfl rfl ?_
      refine wp_seq ?_
      refine wp_region_lit ?_
      have hno : slOk s = false := by first | exact no_st (s := s) (by omega) | (unfold slOk; rw [hg1_14]; simp; done) | (unfold slOk; rw [hg1_20]; simp; done) | (unfold slOk; rw [hg1_26]; simp; done) | (unfold slOk; rw [hg1_32]; simp; done) | (unfold slOk; rw [hi0]; simp; done)
      obtain ⟨hE, hV⟩ := enc_no hno
      refine s_r hf (x_loadBlk hs ag24 (hf.eval rfl) rfl (by first | exact .here _ | exact .there _ (.here _) | exact .there _ (.there _ (.here _)) | exact .there _ (.there _ (.there _ (.here _))) | exact .there _ (.there _ (.there _ (.there _ (.here _)))) | exact .there _ (.there _ (.there _ (.there _ (.there _ (.here _))))) | exact .there _ (.there _ (.there _ (.there _ (.there _ (.there _ (.here _)))))) | exact .there _ (.there _ (.there _ (.there _ (.there _ (.there _ (.there _ (.here _))))))) | exact .there _ (.there _ (.there _ (.there _ (.there _ (.there _ (.there _ (.there _ (.here _)))))))) | exact .there _ (.there _ (.there _ (.there _ (.there _ (.there _ (.there _ (.there _ (.there _ (.here _))))))))))) ?_; clear hf a; intro a hf
      refine s_do hf rfl (y_call (hf.eval rfl) (hf.evals rfl) Tryd.call10 ((encode_spec _ (hT.kept hs.kept) s hsu).mono ?_))
      rintro e w1 ⟨g1, cg1, rfl, hj⟩
      replace hs := hs.join hj
      simp only [List.cons_append, List.nil_append] at hs
      rw [hV] at hs ⊢
      rw [hE]
      refine ⟨_, rfl, ?_⟩; clear hf a; intro a hf
      refine s_m hf rfl ?_; clear hf a; intro a hf
      refine s_v hf (x_extract (hf.eval rfl) rfl) ?_; clear hf a; intro a hf
      refine s_v hf (x_extract (hf.eval rfl) rfl) ?_; clear hf a; intro a hf
      refine s_a hf rfl ?_; clear hf a; intro a hf
      refine s_a hf rfl ?_; clear hf a; intro a hf
      refine s_nil ?_
      refine then_n ?_
      refine wp_seq ?_
      refine wp_region_lit ?_
      refine s_m hf rfl ?_; clear hf a; intro a hf
      refine s_do hf rfl (y_call (hf.eval rfl) (hf.evals rfl) Tryd.call13 ((num_spec _ _).mono ?_))
      rintro e w1 ⟨rfl, hw⟩
      subst hw
      refine ⟨_, rfl, ?_⟩; clear hf a; intro a hf
      refine s_v hf (x_bin (hf.eval rfl) (hf.eval rfl) (r_eq _ _ _ _)) ?_; clear hf a; intro a hf
      refine s_m hf rfl ?_; clear hf a; intro a hf
      replace hf := hf.now (k := 59) (v' := .bool true) rfl (congrArg Value.bool (by simp))
      refine s_do hf (wanted_of hf rfl rfl rfl) (.value (x_move (hf.eval rfl) _) ?_); clear hf a; intro a hf
      refine s_do hf (wanted_of hf rfl rfl rfl) (.value (x_len Tryd.underlying25 (hf.eval rfl) _) ?_); clear hf a; intro a hf
      refine s_do hf (wanted_of hf rfl rfl rfl) (.value (x_bin (hf.eval rfl) (hf.eval rfl) (r_eq _ _ _ _) _) ?_); clear hf a; intro a hf
      refine s_v hf (x_pick_t (hf.eval rfl) (hf.eval rfl)) ?_; clear hf a; intro a hf
      refine s_a hf rfl ?_; clear hf a; intro a hf
      refine s_nil ?_
      refine then_n ?_
      refine wp_ret ?_
      refine then_r ?_
      refine r_1 hf Tryd.results5 rfl ?_
      exact ⟨by simp, hs.kept⟩
    · clear hf
      have hf := hf'
      clear hf'
      first | simp only [decide_eq_true_eq, decide_eq_false_iff_not, Bool.not_eq_true', Bool.not_eq_false'] at hg1_8 | skip
      refine s_do hf (wanted_of hf rfl rfl rfl) (.value (x_fieldAddr fo24_1 (hf.eval rfl) _) ?_); clear hf a; intro a hf
      refine s_do hf (wanted_of hf rfl rfl rfl) (.value (x_load sc3 (hf.eval rfl) (by first | exact hs.cell (.here _) rfl | exact hs.cell (.there _ (.here _)) rfl | exact hs.cell (.there _ (.there _ (.here _))) rfl | exact hs.cell (.there _ (.there _ (.there _ (.here _)))) rfl | exact hs.cell (.there _ (.there _ (.there _ (.there _ (.here _))))) rfl | exact hs.cell (.there _ (.there _ (.there _ (.there _ (.there _ (.here _)))))) rfl | exact hs.cell (.there _ (.there _ (.there _ (.there _ (.there _ (.there _ (.here _))))))) rfl | exact hs.cell (.there _ (.there _ (.there _ (.there _ (.there _ (.there _ (.there _ (.here _)))))))) rfl)) ?_); clear hf a; intro a hf
      refine s_do hf (wanted_of hf rfl rfl rfl) (y_call (hf.eval rfl) (hf.evals rfl) Tryd.call19 ((linField_spec _ _).mono ?_))
      rintro e w1 ⟨rfl, hw9⟩
      rw [hw9]
      clear hw9 w1
      refine ⟨_, rfl, ?_⟩; clear hf a; intro a hf
      refine s_do hf (wanted_of hf rfl rfl rfl) (.value (x_not (hf.eval rfl) _) ?_); clear hf a; intro a hf
      refine s_v hf (x_pick_f (hf.eval rfl) (hf.eval rfl)) ?_; clear hf a; intro a hf
      refine s_m hf rfl ?_; clear hf a; intro a hf
      refine s_bool hf (k := 27) rfl (fun hg1_14 hf' => ?_) (fun hg1_14 hf' => ?_)
      · clear hf
        have hf := hf'
        clear hf'
        first | simp only [decide_eq_true_eq, decide_eq_false_iff_not, Bool.not_eq_true', Bool.not_eq_false'] at hg1_14 | skip
        refine s_pass hf rfl rfl ?_; clear hf a; intro a hf
        refine s_pass hf rfl rfl ?_; clear hf a; intro a hf
        refine s_pass hf rfl rfl ?_; clear hf a; intro a hf
        refine s_pass hf rfl rfl ?_; clear hf a; intro a hf
        refine s_v hf (x_pick_t (hf.eval rfl) (hf.eval rfl)) ?_; clear hf a; intro a hf
        refine s_m hf rfl ?_; clear hf a; intro a hf
        refine s_pass hf rfl rfl ?_; clear hf a; intro a hf
        refine s_pass hf rfl rfl ?_; clear hf a; intro a hf
        refine s_pass hf rfl rfl ?_; clear hf a; intro a hf
        refine s_pass hf rfl rfl ?_; clear hf a; intro a hf
        refine s_v hf (x_pick_t (hf.eval rfl) (hf.eval rfl)) ?_; clear hf a; intro a hf
        refine s_m hf rfl ?_; clear hf a; intro a hf
        refine s_pass hf rfl rfl ?_; clear hf a; intro a hf
        refine s_pass hf rfl rfl ?_; clear hf a; intro a hf
        refine s_pass hf rfl rfl ?_; clear hf a; intro a hf
        refine s_pass hf rfl rfl ?_; clear hf a; intro a hf
        refine s_v hf (x_pick_t (hf.eval rfl) (hf.eval rfl)) ?_; clear hf a; intro a hf
        refine s_m hf rfl ?_; clear hf a; intro a hf
        refine s_pass hf rfl rfl ?_; clear hf a; intro a hf
        refine s_pass hf rfl rfl ?_; clear hf a; intro a hf
        refine s_pass hf rfl rfl ?_; clear hf a; intro a hf
        refine s_pass hf rfl rfl ?_; clear hf a; intro a hf
        refine s_v hf (x_pick_t (hf.eval rfl) (hf.eval rfl)) ?_; clear hf a; intro a hf
        refine s_nil ?_
        refine then_n ?_
        refine c_cond_t hf rfl rfl ?_
        refine wp_seq ?_
        refine wp_region_lit ?_
        have hno : slOk s = false := by first | exact no_st (s := s) (by omega) | (unfold slOk; rw [hg1_14]; simp; done) | (unfold slOk; rw [hg1_20]; simp; done) | (unfold slOk; rw [hg1_26]; simp; done) | (unfold slOk; rw [hg1_32]; simp; done) | (unfold slOk; rw [hi0]; simp; done)
        obtain ⟨hE, hV⟩ := enc_no hno
        refine s_r hf (x_loadBlk hs ag24 (hf.eval rfl) rfl (by first | exact .here _ | exact .there _ (.here _) | exact .there _ (.there _ (.here _)) | exact .there _ (.there _ (.there _ (.here _))) | exact .there _ (.there _ (.there _ (.there _ (.here _)))) | exact .there _ (.there _ (.there _ (.there _ (.there _ (.here _))))) | exact .there _ (.there _ (.there _ (.there _ (.there _ (.there _ (.here _)))))) | exact .there _ (.there _ (.there _ (.there _ (.there _ (.there _ (.there _ (.here _))))))) | exact .there _ (.there _ (.there _ (.there _ (.there _ (.there _ (.there _ (.there _ (.here _)))))))) | exact .there _ (.there _ (.there _ (.there _ (.there _ (.there _ (.there _ (.there _ (.there _ (.here _))))))))))) ?_; clear hf a; intro a hf
        refine s_do hf rfl (y_call (hf.eval rfl) (hf.evals rfl) Tryd.call10 ((encode_spec _ (hT.kept hs.kept) s hsu).mono ?_))
        rintro e w1 ⟨g1, cg1, rfl, hj⟩
        replace hs := hs.join hj
        simp only [List.cons_append, List.nil_append] at hs
        rw [hV] at hs ⊢
        rw [hE]
        refine ⟨_, rfl, ?_⟩; clear hf a; intro a hf
        refine s_m hf rfl ?_; clear hf a; intro a hf
        refine s_v hf (x_extract (hf.eval rfl) rfl) ?_; clear hf a; intro a hf
        refine s_v hf (x_extract (hf.eval rfl) rfl) ?_; clear hf a; intro a hf
        refine s_a hf rfl ?_; clear hf a; intro a hf
        refine s_a hf rfl ?_; clear hf a; intro a hf
        refine s_nil ?_
        refine then_n ?_
        refine wp_seq ?_
        refine wp_region_lit ?_
        refine s_m hf rfl ?_; clear hf a; intro a hf
        refine s_do hf rfl (y_call (hf.eval rfl) (hf.evals rfl) Tryd.call13 ((num_spec _ _).mono ?_))
        rintro e w1 ⟨rfl, hw⟩
        subst hw
        refine ⟨_, rfl, ?_⟩; clear hf a; intro a hf
        refine s_v hf (x_bin (hf.eval rfl) (hf.eval rfl) (r_eq _ _ _ _)) ?_; clear hf a; intro a hf
        refine s_m hf rfl ?_; clear hf a; intro a hf
        replace hf := hf.now (k := 59) (v' := .bool true) rfl (congrArg Value.bool (by simp))
        refine s_do hf (wanted_of hf rfl rfl rfl) (.value (x_move (hf.eval rfl) _) ?_); clear hf a; intro a hf
        refine s_do hf (wanted_of hf rfl rfl rfl) (.value (x_len Tryd.underlying25 (hf.eval rfl) _) ?_); clear hf a; intro a hf
        refine s_do hf (wanted_of hf rfl rfl rfl) (.value (x_bin (hf.eval rfl) (hf.eval rfl) (r_eq _ _ _ _) _) ?_); clear hf a; intro a hf
        refine s_v hf (x_pick_t (hf.eval rfl) (hf.eval rfl)) ?_; clear hf a; intro a hf
        refine s_a hf rfl ?_; clear hf a; intro a hf
        refine s_nil ?_
        refine then_n ?_
        refine wp_ret ?_
        refine then_r ?_
        refine r_1 hf Tryd.results5 rfl ?_
        exact ⟨by simp, hs.kept⟩
      · clear hf
        have hf := hf'
        clear hf'
        first | simp only [decide_eq_true_eq, decide_eq_false_iff_not, Bool.not_eq_true', Bool.not_eq_false'] at hg1_14 | skip
        refine s_do hf (wanted_of hf rfl rfl rfl) (.value (x_fieldAddr fo24_2 (hf.eval rfl) _) ?_); clear hf a; intro a hf
        refine s_do hf (wanted_of hf rfl rfl rfl) (.value (x_load sc3 (hf.eval rfl) (by first | exact hs.cell (.here _) rfl | exact hs.cell (.there _ (.here _)) rfl | exact hs.cell (.there _ (.there _ (.here _))) rfl | exact hs.cell (.there _ (.there _ (.there _ (.here _)))) rfl | exact hs.cell (.there _ (.there _ (.there _ (.there _ (.here _))))) rfl | exact hs.cell (.there _ (.there _ (.there _ (.there _ (.there _ (.here _)))))) rfl | exact hs.cell (.there _ (.there _ (.there _ (.there _ (.there _ (.there _ (.here _))))))) rfl | exact hs.cell (.there _ (.there _ (.there _ (.there _ (.there _ (.there _ (.there _ (.here _)))))))) rfl)) ?_); clear hf a; intro a hf
        refine s_do hf (wanted_of hf rfl rfl rfl) (y_call (hf.eval rfl) (hf.evals rfl) Tryd.call19 ((linField_spec _ _).mono ?_))
        rintro e w1 ⟨rfl, hw9⟩
        rw [hw9]
        clear hw9 w1
        refine ⟨_, rfl, ?_⟩; clear hf a; intro a hf
        refine s_do hf (wanted_of hf rfl rfl rfl) (.value (x_not (hf.eval rfl) _) ?_); clear hf a; intro a hf
        refine s_v hf (x_pick_f (hf.eval rfl) (hf.eval rfl)) ?_; clear hf a; intro a hf
        refine s_m hf rfl ?_; clear hf a; intro a hf
        refine s_bool hf (k := 33) rfl (fun hg1_20 hf' => ?_) (fun hg1_20 hf' => ?_)
        · clear hf
          have hf := hf'
          clear hf'
          first | simp only [decide_eq_true_eq, decide_eq_false_iff_not, Bool.not_eq_true', Bool.not_eq_false'] at hg1_20 | skip
          refine s_pass hf rfl rfl ?_; clear hf a; intro a hf
          refine s_pass hf rfl rfl ?_; clear hf a; intro a hf
          refine s_pass hf rfl rfl ?_; clear hf a; intro a hf
          refine s_pass hf rfl rfl ?_; clear hf a; intro a hf
          refine s_v hf (x_pick_t (hf.eval rfl) (hf.eval rfl)) ?_; clear hf a; intro a hf
          refine s_m hf rfl ?_; clear hf a; intro a hf
          refine s_pass hf rfl rfl ?_; clear hf a; intro a hf
          refine s_pass hf rfl rfl ?_; clear hf a; intro a hf
          refine s_pass hf rfl rfl ?_; clear hf a; intro a hf
          refine s_pass hf rfl rfl ?_; clear hf a; intro a hf
          refine s_v hf (x_pick_t (hf.eval rfl) (hf.eval rfl)) ?_; clear hf a; intro a hf
          refine s_m hf rfl ?_; clear hf a; intro a hf
          refine s_pass hf rfl rfl ?_; clear hf a; intro a hf
          refine s_pass hf rfl rfl ?_; clear hf a; intro a hf
          refine s_pass hf rfl rfl ?_; clear hf a; intro a hf
          refine s_pass hf rfl rfl ?_; clear hf a; intro a hf
          refine s_v hf (x_pick_t (hf.eval rfl) (hf.eval rfl)) ?_; clear hf a; intro a hf
          refine s_nil ?_
          refine then_n ?_
          refine c_cond_t hf rfl rfl ?_
          refine wp_seq ?_
          refine wp_region_lit ?_
          have hno : slOk s = false := by first | exact no_st (s := s) (by omega) | (unfold slOk; rw [hg1_14]; simp; done) | (unfold slOk; rw [hg1_20]; simp; done) | (unfold slOk; rw [hg1_26]; simp; done) | (unfold slOk; rw [hg1_32]; simp; done) | (unfold slOk; rw [hi0]; simp; done)
          obtain ⟨hE, hV⟩ := enc_no hno
          refine s_r hf (x_loadBlk hs ag24 (hf.eval rfl) rfl (by first | exact .here _ | exact .there _ (.here _) | exact .there _ (.there _ (.here _)) | exact .there _ (.there _ (.there _ (.here _))) | exact .there _ (.there _ (.there _ (.there _ (.here _)))) | exact .there _ (.there _ (.there _ (.there _ (.there _ (.here _))))) | exact .there _ (.there _ (.there _ (.there _ (.there _ (.there _ (.here _)))))) | exact .there _ (.there _ (.there _ (.there _ (.there _ (.there _ (.there _ (.here _))))))) | exact .there _ (.there _ (.there _ (.there _ (.there _ (.there _ (.there _ (.there _ (.here _)))))))) | exact .there _ (.there _ (.there _ (.there _ (.there _ (.there _ (.there _ (.there _ (.there _ (.here _))))))))))) ?_; clear hf a; intro a hf
          refine s_do hf rfl (y_call (hf.eval rfl) (hf.evals rfl) Tryd.call10 ((encode_spec _ (hT.kept hs.kept) s hsu).mono ?_))
          rintro e w1 ⟨g1, cg1, rfl, hj⟩
          replace hs := hs.join hj
          simp only [List.cons_append, List.nil_append] at hs
          rw [hV] at hs ⊢
          rw [hE]
          refine ⟨_, rfl, ?_⟩; clear hf a; intro a hf
          refine s_m hf rfl ?_; clear hf a; intro a hf
          refine s_v hf (x_extract (hf.eval rfl) rfl) ?_; clear hf a; intro a hf
          refine s_v hf (x_extract (hf.eval rfl) rfl) ?_; clear hf a; intro a hf
          refine s_a hf rfl ?_; clear hf a; intro a hf
          refine s_a hf rfl ?_; clear hf a; intro a hf
          refine s_nil ?_
          refine then_n ?_
          refine wp_seq ?_
          refine wp_region_lit ?_
          refine s_m hf rfl ?_; clear hf a; intro a hf
          refine s_do hf rfl (y_call (hf.eval rfl) (hf.evals rfl) Tryd.call13 ((num_spec _ _).mono ?_))
          rintro e w1 ⟨rfl, hw⟩
          subst hw
          refine ⟨_, rfl, ?_⟩; clear hf a; intro a hf
          refine s_v hf (x_bin (hf.eval rfl) (hf.eval rfl) (r_eq _ _ _ _)) ?_; clear hf a; intro a hf
          refine s_m hf rfl ?_; clear hf a; intro a hf
          replace hf := hf.now (k := 59) (v' := .bool true) rfl (congrArg Value.bool (by simp))
          refine s_do hf (wanted_of hf rfl rfl rfl) (.value (x_move (hf.eval rfl) _) ?_); clear hf a; intro a hf
          refine s_do hf (wanted_of hf rfl rfl rfl) (.value (x_len Tryd.underlying25 (hf.eval rfl) _) ?_); clear hf a; intro a hf
          refine s_do hf (wanted_of hf rfl rfl rfl) (.value (x_bin (hf.eval rfl) (hf.eval rfl) (r_eq _ _ _ _) _) ?_); clear hf a; intro a hf
          refine s_v hf (x_pick_t (hf.eval rfl) (hf.eval rfl)) ?_; clear hf a; intro a hf
          refine s_a hf rfl ?_; clear hf a; intro a hf
          refine s_nil ?_
          refine then_n ?_
          refine wp_ret ?_
          refine then_r ?_
          refine r_1 hf Tryd.results5 rfl ?_
          exact ⟨by simp, hs.kept⟩
        · clear hf
          have hf := hf'
          clear hf'
          first | simp only [decide_eq_true_eq, decide_eq_false_iff_not, Bool.not_eq_true', Bool.not_eq_false'] at hg1_20 | skip
          refine s_do hf (wanted_of hf rfl rfl rfl) (.value (x_fieldAddr fo24_3 (hf.eval rfl) _) ?_); clear hf a; intro a hf
          refine s_do hf (wanted_of hf rfl rfl rfl) (.value (x_load sc3 (hf.eval rfl) (by first | exact hs.cell (.here _) rfl | exact hs.cell (.there _ (.here _)) rfl | exact hs.cell (.there _ (.there _ (.here _))) rfl | exact hs.cell (.there _ (.there _ (.there _ (.here _)))) rfl | exact hs.cell (.there _ (.there _ (.there _ (.there _ (.here _))))) rfl | exact hs.cell (.there _ (.there _ (.there _ (.there _ (.there _ (.here _)))))) rfl | exact hs.cell (.there _ (.there _ (.there _ (.there _ (.there _ (.there _ (.here _))))))) rfl | exact hs.cell (.there _ (.there _ (.there _ (.there _ (.there _ (.there _ (.there _ (.here _)))))))) rfl)) ?_); clear hf a; intro a hf
          refine s_do hf (wanted_of hf rfl rfl rfl) (y_call (hf.eval rfl) (hf.evals rfl) Tryd.call19 ((linField_spec _ _).mono ?_))
          rintro e w1 ⟨rfl, hw9⟩
          rw [hw9]
          clear hw9 w1
          refine ⟨_, rfl, ?_⟩; clear hf a; intro a hf
          refine s_do hf (wanted_of hf rfl rfl rfl) (.value (x_not (hf.eval rfl) _) ?_); clear hf a; intro a hf
          refine s_v hf (x_pick_f (hf.eval rfl) (hf.eval rfl)) ?_; clear hf a; intro a hf
          refine s_m hf rfl ?_; clear hf a; intro a hf
          refine s_bool hf (k := 39) rfl (fun hg1_26 hf' => ?_) (fun hg1_26 hf' => ?_)
          · clear hf
            have hf := hf'
            clear hf'
            first | simp only [decide_eq_true_eq, decide_eq_false_iff_not, Bool.not_eq_true', Bool.not_eq_false'] at hg1_26 | skip
            refine s_pass hf rfl rfl ?_; clear hf a; intro a hf
            refine s_pass hf rfl rfl ?_; clear hf a; intro a hf
            refine s_pass hf rfl rfl ?_; clear hf a; intro a hf
            refine s_pass hf rfl rfl ?_; clear hf a; intro a hf
            refine s_v hf (x_pick_t (hf.eval rfl) (hf.eval rfl)) ?_; clear hf a; intro a hf
            refine s_m hf rfl ?_; clear hf a; intro a hf
            refine s_pass hf rfl rfl ?_; clear hf a; intro a hf
            refine s_pass hf rfl rfl ?_; clear hf a; intro a hf
            refine s_pass hf rfl rfl ?_; clear hf a; intro a hf
            refine s_pass hf rfl rfl ?_; clear hf a; intro a hf
            refine s_v hf (x_pick_t (hf.eval rfl) (hf.eval rfl)) ?_; clear hf a; intro a hf
            refine s_nil ?_
            refine then_n ?_
            refine c_cond_t hf rfl rfl ?_
            refine wp_seq ?_
            refine wp_region_lit ?_
            have hno : slOk s = false := by first | exact no_st (s := s) (by omega) | (unfold slOk; rw [hg1_14]; simp; done) | (unfold slOk; rw [hg1_20]; simp; done) | (unfold slOk; rw [hg1_26]; simp; done) | (unfold slOk; rw [hg1_32]; simp; done) | (unfold slOk; rw [hi0]; simp; done)
            obtain ⟨hE, hV⟩ := enc_no hno
            refine s_r hf (x_loadBlk hs ag24 (hf.eval rfl) rfl (by first | exact .here _ | exact .there _ (.here _) | exact .there _ (.there _ (.here _)) | exact .there _ (.there _ (.there _ (.here _))) | exact .there _ (.there _ (.there _ (.there _ (.here _)))) | exact .there _ (.there _ (.there _ (.there _ (.there _ (.here _))))) | exact .there _ (.there _ (.there _ (.there _ (.there _ (.there _ (.here _)))))) | exact .there _ (.there _ (.there _ (.there _ (.there _ (.there _ (.there _ (.here _))))))) | exact .there _ (.there _ (.there _ (.there _ (.there _ (.there _ (.there _ (.there _ (.here _)))))))) | exact .there _ (.there _ (.there _ (.there _ (.there _ (.there _ (.there _ (.there _ (.there _ (.here _))))))))))) ?_; clear hf a; intro a hf
            refine s_do hf rfl (y_call (hf.eval rfl) (hf.evals rfl) Tryd.call10 ((encode_spec _ (hT.kept hs.kept) s hsu).mono ?_))
            rintro e w1 ⟨g1, cg1, rfl, hj⟩
            replace hs := hs.join hj
            simp only [List.cons_append, List.nil_append] at hs
            rw [hV] at hs ⊢
            rw [hE]
            refine ⟨_, rfl, ?_⟩; clear hf a; intro a hf
            refine s_m hf rfl ?_; clear hf a; intro a hf
            refine s_v hf (x_extract (hf.eval rfl) rfl) ?_; clear hf a; intro a hf
            refine s_v hf (x_extract (hf.eval rfl) rfl) ?_; clear hf a; intro a hf
            refine s_a hf rfl ?_; clear hf a; intro a hf
            refine s_a hf rfl ?_; clear hf a; intro a hf
            refine s_nil ?_
            refine then_n ?_
            refine wp_seq ?_
            refine wp_region_lit ?_
            refine s_m hf rfl ?_; clear hf a; intro a hf
            refine s_do hf rfl (y_call (hf.eval rfl) (hf.evals rfl) Tryd.call13 ((num_spec _ _).mono ?_))
            rintro e w1 ⟨rfl, hw⟩
            subst hw
            refine ⟨_, rfl, ?_⟩; clear hf a; intro a hf
            refine s_v hf (x_bin (hf.eval rfl) (hf.eval rfl) (r_eq _ _ _ _)) ?_; clear hf a; intro a hf
            refine s_m hf rfl ?_; clear hf a; intro a hf
            replace hf := hf.now (k := 59) (v' := .bool true) rfl (congrArg Value.bool (by simp))
            refine s_do hf (wanted_of hf rfl rfl rfl) (.value (x_move (hf.eval rfl) _) ?_); clear hf a; intro a hf
            refine s_do hf (wanted_of hf rfl rfl rfl) (.value (x_len Tryd.underlying25 (hf.eval rfl) _) ?_); clear hf a; intro a hf
            refine s_do hf (wanted_of hf rfl rfl rfl) (.value (x_bin (hf.eval rfl) (hf.eval rfl) (r_eq _ _ _ _) _) ?_); clear hf a; intro a hf
            refine s_v hf (x_pick_t (hf.eval rfl) (hf.eval rfl)) ?_; clear hf a; intro a hf
            refine s_a hf rfl ?_; clear hf a; intro a hf
            refine s_nil ?_
            refine then_n ?_
            refine wp_ret ?_
            refine then_r ?_
            refine r_1 hf Tryd.results5 rfl ?_
            exact ⟨by simp, hs.kept⟩
          · clear hf
            have hf := hf'
            clear hf'
            first | simp only [decide_eq_true_eq, decide_eq_false_iff_not, Bool.not_eq_true', Bool.not_eq_false'] at hg1_26 | skip
            refine s_do hf (wanted_of hf rfl rfl rfl) (.value (x_fieldAddr fo24_4 (hf.eval rfl) _) ?_); clear hf a; intro a hf
            refine s_do hf (wanted_of hf rfl rfl rfl) (.value (x_load sc3 (hf.eval rfl) (by first | exact hs.cell (.here _) rfl | exact hs.cell (.there _ (.here _)) rfl | exact hs.cell (.there _ (.there _ (.here _))) rfl | exact hs.cell (.there _ (.there _ (.there _ (.here _)))) rfl | exact hs.cell (.there _ (.there _ (.there _ (.there _ (.here _))))) rfl | exact hs.cell (.there _ (.there _ (.there _ (.there _ (.there _ (.here _)))))) rfl | exact hs.cell (.there _ (.there _ (.there _ (.there _ (.there _ (.there _ (.here _))))))) rfl | exact hs.cell (.there _ (.there _ (.there _ (.there _ (.there _ (.there _ (.there _ (.here _)))))))) rfl)) ?_); clear hf a; intro a hf
            refine s_do hf (wanted_of hf rfl rfl rfl) (y_call (hf.eval rfl) (hf.evals rfl) Tryd.call19 ((linField_spec _ _).mono ?_))
            rintro e w1 ⟨rfl, hw9⟩
            rw [hw9]
            clear hw9 w1
            refine ⟨_, rfl, ?_⟩; clear hf a; intro a hf
            refine s_do hf (wanted_of hf rfl rfl rfl) (.value (x_not (hf.eval rfl) _) ?_); clear hf a; intro a hf
            refine s_v hf (x_pick_f (hf.eval rfl) (hf.eval rfl)) ?_; clear hf a; intro a hf
            refine s_m hf rfl ?_; clear hf a; intro a hf
            refine s_bool hf (k := 45) rfl (fun hg1_32 hf' => ?_) (fun hg1_32 hf' => ?_)
            · clear hf
              have hf := hf'
              clear hf'
              first | simp only [decide_eq_true_eq, decide_eq_false_iff_not, Bool.not_eq_true', Bool.not_eq_false'] at hg1_32 | skip
              refine s_pass hf rfl rfl ?_; clear hf a; intro a hf
              refine s_pass hf rfl rfl ?_; clear hf a; intro a hf
              refine s_pass hf rfl rfl ?_; clear hf a; intro a hf
              refine s_pass hf rfl rfl ?_; clear hf a; intro a hf
              refine s_v hf (x_pick_t (hf.eval rfl) (hf.eval rfl)) ?_; clear hf a; intro a hf
              refine s_nil ?_
              refine then_n ?_
              refine c_cond_t hf rfl rfl ?_
              refine wp_seq ?_
              refine wp_region_lit ?_
              have hno : slOk s = false := by first | exact no_st (s := s) (by omega) | (unfold slOk; rw [hg1_14]; simp; done) | (unfold slOk; rw [hg1_20]; simp; done) | (unfold slOk; rw [hg1_26]; simp; done) | (unfold slOk; rw [hg1_32]; simp; done) | (unfold slOk; rw [hi0]; simp; done)
              obtain ⟨hE, hV⟩ := enc_no hno
              refine s_r hf (x_loadBlk hs ag24 (hf.eval rfl) rfl (by first | exact .here _ | exact .there _ (.here _) | exact .there _ (.there _ (.here _)) | exact .there _ (.there _ (.there _ (.here _))) | exact .there _ (.there _ (.there _ (.there _ (.here _)))) | exact .there _ (.there _ (.there _ (.there _ (.there _ (.here _))))) | exact .there _ (.there _ (.there _ (.there _ (.there _ (.there _ (.here _)))))) | exact .there _ (.there _ (.there _ (.there _ (.there _ (.there _ (.there _ (.here _))))))) | exact .there _ (.there _ (.there _ (.there _ (.there _ (.there _ (.there _ (.there _ (.here _)))))))) | exact .there _ (.there _ (.there _ (.there _ (.there _ (.there _ (.there _ (.there _ (.there _ (.here _))))))))))) ?_; clear hf a; intro a hf
              refine s_do hf rfl (y_call (hf.eval rfl) (hf.evals rfl) Tryd.call10 ((encode_spec _ (hT.kept hs.kept) s hsu).mono ?_))
              rintro e w1 ⟨g1, cg1, rfl, hj⟩
              replace hs := hs.join hj
              simp only [List.cons_append, List.nil_append] at hs
              rw [hV] at hs ⊢
              rw [hE]
              refine ⟨_, rfl, ?_⟩; clear hf a; intro a hf
              refine s_m hf rfl ?_; clear hf a; intro a hf
              refine s_v hf (x_extract (hf.eval rfl) rfl) ?_; clear hf a; intro a hf
              refine s_v hf (x_extract (hf.eval rfl) rfl) ?_; clear hf a; intro a hf
              refine s_a hf rfl ?_; clear hf a; intro a hf
              refine s_a hf rfl ?_; clear hf a; intro a hf
              refine s_nil ?_
              refine then_n ?_
              refine wp_seq ?_
              refine wp_region_lit ?_
              refine s_m hf rfl ?_; clear hf a; intro a hf
              refine s_do hf rfl (y_call (hf.eval rfl) (hf.evals rfl) Tryd.call13 ((num_spec _ _).mono ?_))
              rintro e w1 ⟨rfl, hw⟩
              subst hw
              refine ⟨_, rfl, ?_⟩; clear hf a; intro a hf
              refine s_v hf (x_bin (hf.eval rfl) (hf.eval rfl) (r_eq _ _ _ _)) ?_; clear hf a; intro a hf
              refine s_m hf rfl ?_; clear hf a; intro a hf
              replace hf := hf.now (k := 59) (v' := .bool true) rfl (congrArg Value.bool (by simp))
              refine s_do hf (wanted_of hf rfl rfl rfl) (.value (x_move (hf.eval rfl) _) ?_); clear hf a; intro a hf
              refine s_do hf (wanted_of hf rfl rfl rfl) (.value (x_len Tryd.underlying25 (hf.eval rfl) _) ?_); clear hf a; intro a hf
              refine s_do hf (wanted_of hf rfl rfl rfl) (.value (x_bin (hf.eval rfl) (hf.eval rfl) (r_eq _ _ _ _) _) ?_); clear hf a; intro a hf
              refine s_v hf (x_pick_t (hf.eval rfl) (hf.eval rfl)) ?_; clear hf a; intro a hf
              refine s_a hf rfl ?_; clear hf a; intro a hf
              refine s_nil ?_
              refine then_n ?_
              refine wp_ret ?_
              refine then_r ?_
              refine r_1 hf Tryd.results5 rfl ?_
              exact ⟨by simp, hs.kept⟩
            · clear hf
              have hf := hf'
              clear hf'
              first | simp only [decide_eq_true_eq, decide_eq_false_iff_not, Bool.not_eq_true', Bool.not_eq_false'] at hg1_32 | skip
              refine s_do hf (wanted_of hf rfl rfl rfl) (.value (x_fieldAddr fo24_5 (hf.eval rfl) _) ?_); clear hf a; intro a hf
              refine s_do hf (wanted_of hf rfl rfl rfl) (.value (x_load sc3 (hf.eval rfl) (by first | exact hs.cell (.here _) rfl | exact hs.cell (.there _ (.here _)) rfl | exact hs.cell (.there _ (.there _ (.here _))) rfl | exact hs.cell (.there _ (.there _ (.there _ (.here _)))) rfl | exact hs.cell (.there _ (.there _ (.there _ (.there _ (.here _))))) rfl | exact hs.cell (.there _ (.there _ (.there _ (.there _ (.there _ (.here _)))))) rfl | exact hs.cell (.there _ (.there _ (.there _ (.there _ (.there _ (.there _ (.here _))))))) rfl | exact hs.cell (.there _ (.there _ (.there _ (.there _ (.there _ (.there _ (.there _ (.here _)))))))) rfl)) ?_); clear hf a; intro a hf
              refine s_do hf (wanted_of hf rfl rfl rfl) (y_call (hf.eval rfl) (hf.evals rfl) Tryd.call19 ((linField_spec _ _).mono ?_))
              rintro e w1 ⟨rfl, hw9⟩
              rw [hw9]
              clear hw9 w1
              refine ⟨_, rfl, ?_⟩; clear hf a; intro a hf
              refine s_do hf (wanted_of hf rfl rfl rfl) (.value (x_not (hf.eval rfl) _) ?_); clear hf a; intro a hf
              refine s_v hf (x_pick_f (hf.eval rfl) (hf.eval rfl)) ?_; clear hf a; intro a hf
              refine s_nil ?_
              refine then_n ?_
              refine c_cond hf rfl (fun hi0 => ?_) (fun hi0 => ?_)
              · first | simp only [decide_eq_true_eq, decide_eq_false_iff_not, Bool.not_eq_true', Bool.not_eq_false'] at hi0 | skip
                refine wp_seq ?_
                refine wp_region_lit ?_
                have hno : slOk s = false := by first | exact no_st (s := s) (by omega) | (unfold slOk; rw [hg1_14]; simp; done) | (unfold slOk; rw [hg1_20]; simp; done) | (unfold slOk; rw [hg1_26]; simp; done) | (unfold slOk; rw [hg1_32]; simp; done) | (unfold slOk; rw [hi0]; simp; done)
                obtain ⟨hE, hV⟩ := enc_no hno
                refine s_r hf (x_loadBlk hs ag24 (hf.eval rfl) rfl (by first | exact .here _ | exact .there _ (.here _) | exact .there _ (.there _ (.here _)) | exact .there _ (.there _ (.there _ (.here _))) | exact .there _ (.there _ (.there _ (.there _ (.here _)))) | exact .there _ (.there _ (.there _ (.there _ (.there _ (.here _))))) | exact .there _ (.there _ (.there _ (.there _ (.there _ (.there _ (.here _)))))) | exact .there _ (.there _ (.there _ (.there _ (.there _ (.there _ (.there _ (.here _))))))) | exact .there _ (.there _ (.there _ (.there _ (.there _ (.there _ (.there _ (.there _ (.here _)))))))) | exact .there _ (.there _ (.there _ (.there _ (.there _ (.there _ (.there _ (.there _ (.there _ (.here _))))))))))) ?_; clear hf a; intro a hf
                refine s_do hf rfl (y_call (hf.eval rfl) (hf.evals rfl) Tryd.call10 ((encode_spec _ (hT.kept hs.kept) s hsu).mono ?_))
                rintro e w1 ⟨g1, cg1, rfl, hj⟩
                replace hs := hs.join hj
                simp only [List.cons_append, List.nil_append] at hs
                rw [hV] at hs ⊢
                rw [hE]
                refine ⟨_, rfl, ?_⟩; clear hf a; intro a hf
                refine s_m hf rfl ?_; clear hf a; intro a hf
                refine s_v hf (x_extract (hf.eval rfl) rfl) ?_; clear hf a; intro a hf
                refine s_v hf (x_extract (hf.eval rfl) rfl) ?_; clear hf a; intro a hf
                refine s_a hf rfl ?_; clear hf a; intro a hf
                refine s_a hf rfl ?_; clear hf a; intro a hf
                refine s_nil ?_
                refine then_n ?_
                refine wp_seq ?_
                refine wp_region_lit ?_
                refine s_m hf rfl ?_; clear hf a; intro a hf
                refine s_do hf rfl (y_call (hf.eval rfl) (hf.evals rfl) Tryd.call13 ((num_spec _ _).mono ?_))
                rintro e w1 ⟨rfl, hw⟩
                subst hw
                refine ⟨_, rfl, ?_⟩; clear hf a; intro a hf
                refine s_v hf (x_bin (hf.eval rfl) (hf.eval rfl) (r_eq _ _ _ _)) ?_; clear hf a; intro a hf
                refine s_m hf rfl ?_; clear hf a; intro a hf
                replace hf := hf.now (k := 59) (v' := .bool true) rfl (congrArg Value.bool (by simp))
                refine s_do hf (wanted_of hf rfl rfl rfl) (.value (x_move (hf.eval rfl) _) ?_); clear hf a; intro a hf
                refine s_do hf (wanted_of hf rfl rfl rfl) (.value (x_len Tryd.underlying25 (hf.eval rfl) _) ?_); clear hf a; intro a hf
                refine s_do hf (wanted_of hf rfl rfl rfl) (.value (x_bin (hf.eval rfl) (hf.eval rfl) (r_eq _ _ _ _) _) ?_); clear hf a; intro a hf
                refine s_v hf (x_pick_t (hf.eval rfl) (hf.eval rfl)) ?_; clear hf a; intro a hf
                refine s_a hf rfl ?_; clear hf a; intro a hf
                refine s_nil ?_
                refine then_n ?_
                refine wp_ret ?_
                refine then_r ?_
                refine r_1 hf Tryd.results5 rfl ?_
                exact ⟨by simp, hs.kept⟩
              · first | simp only [decide_eq_true_eq, decide_eq_false_iff_not, Bool.not_eq_true', Bool.not_eq_false'] at hi0 | skip
                have hok : slOk s = true := by unfold slOk; simp [*]; omega
                obtain ⟨hE, hV⟩ := enc_ok hok
                obtain ⟨hb1, hb2⟩ := seal_back hok hsu
                have hl5 := secS_len s
                refine wp_skip ?_
                refine then_n ?_
                refine wp_seq ?_
                refine wp_region_lit ?_
                refine s_r hf (x_loadBlk hs ag24 (hf.eval rfl) rfl (by first | exact .here _ | exact .there _ (.here _) | exact .there _ (.there _ (.here _)) | exact .there _ (.there _ (.there _ (.here _))) | exact .there _ (.there _ (.there _ (.there _ (.here _)))) | exact .there _ (.there _ (.there _ (.there _ (.there _ (.here _))))) | exact .there _ (.there _ (.there _ (.there _ (.there _ (.there _ (.here _)))))) | exact .there _ (.there _ (.there _ (.there _ (.there _ (.there _ (.there _ (.here _))))))) | exact .there _ (.there _ (.there _ (.there _ (.there _ (.there _ (.there _ (.there _ (.here _)))))))) | exact .there _ (.there _ (.there _ (.there _ (.there _ (.there _ (.there _ (.there _ (.there _ (.here _))))))))))) ?_; clear hf a; intro a hf
                refine s_do hf rfl (y_call (hf.eval rfl) (hf.evals rfl) Tryd.call10 ((encode_spec _ (hT.kept hs.kept) s hsu).mono ?_))
                rintro e w1 ⟨g1, cg1, rfl, hj⟩
                replace hs := hs.join hj
                simp only [List.cons_append, List.nil_append] at hs
                rw [hV] at hs ⊢
                rw [hE]
                refine ⟨_, rfl, ?_⟩; clear hf a; intro a hf
                refine s_m hf rfl ?_; clear hf a; intro a hf
                refine s_v hf (x_extract (hf.eval rfl) rfl) ?_; clear hf a; intro a hf
                refine s_v hf (x_extract (hf.eval rfl) rfl) ?_; clear hf a; intro a hf
                refine s_a hf rfl ?_; clear hf a; intro a hf
                refine s_a hf rfl ?_; clear hf a; intro a hf
                refine s_nil ?_
                refine then_n ?_
                refine wp_seq ?_
                refine wp_seq ?_
                refine wp_region_lit ?_
                refine s_m hf rfl ?_; clear hf a; intro a hf
                refine s_do hf rfl (y_call (hf.eval rfl) (hf.evals rfl) Tryd.call13 ((num_spec _ _).mono ?_))
                rintro e w1 ⟨rfl, hw⟩
                subst hw
                refine ⟨_, rfl, ?_⟩; clear hf a; intro a hf
                refine s_v hf (x_bin (hf.eval rfl) (hf.eval rfl) (r_ne _ _ _ _)) ?_; clear hf a; intro a hf
                refine s_m hf rfl ?_; clear hf a; intro a hf
                replace hf := hf.now (k := 72) (v' := .bool false) rfl (congrArg Value.bool (by simp))
                refine s_do hf (wanted_of hf rfl rfl rfl) (.value (x_move (hf.eval rfl) _) ?_); clear hf a; intro a hf
                refine s_do hf (wanted_of hf rfl rfl rfl) (.value (x_len Tryd.underlying25 (hf.eval rfl) _) ?_); clear hf a; intro a hf
                refine s_do hf (wanted_of hf rfl rfl rfl) (.value (x_bin (hf.eval rfl) (hf.eval rfl) (r_ne _ _ _ _) _) ?_); clear hf a; intro a hf
                refine s_v hf (x_pick_f (hf.eval rfl) (hf.eval rfl)) ?_; clear hf a; intro a hf
                refine s_nil ?_
                refine then_n ?_
                refine c_cond_f hf rfl (by simp [hl5]) ?_
                refine wp_skip ?_
                refine then_n ?_
                refine wp_seq ?_
                refine wp_region_lit ?_
                refine s_m hf rfl ?_; clear hf a; intro a hf
                replace hs := hs.take (A := slB 5 (.slice g1 (secS s).length cg1) (secS s)) (by first | exact .here _ | exact .there _ (.here _) | exact .there _ (.there _ (.here _)) | exact .there _ (.there _ (.there _ (.here _))) | exact .there _ (.there _ (.there _ (.there _ (.here _)))) | exact .there _ (.there _ (.there _ (.there _ (.there _ (.here _))))) | exact .there _ (.there _ (.there _ (.there _ (.there _ (.there _ (.here _)))))) | exact .there _ (.there _ (.there _ (.there _ (.there _ (.there _ (.there _ (.here _))))))) | exact .there _ (.there _ (.there _ (.there _ (.there _ (.there _ (.there _ (.there _ (.here _)))))))) | exact .there _ (.there _ (.there _ (.there _ (.there _ (.there _ (.there _ (.there _ (.there _ (.here _))))))))) | exact .there _ (.there _ (.there _ (.there _ (.there _ (.there _ (.there _ (.there _ (.there _ (.there _ (.here _)))))))))) | exact .there _ (.there _ (.there _ (.there _ (.there _ (.there _ (.there _ (.there _ (.there _ (.there _ (.there _ (.here _))))))))))))
                refine s_do hf rfl (y_call (hf.eval rfl) (hf.evals rfl) Tryd.call16 ((decode_spec _ (hT.kept hs.kept) g1 cg1 (secS s) (hs.rdB (.here _) fun h => slB_rd) (by omega)).mono ?_))
                rintro e w1 ⟨rfl, hk⟩
                replace hs := hs.ext hk
                rw [hb1, hb2]
                refine ⟨_, rfl, ?_⟩; clear hf a; intro a hf
                refine s_m hf rfl ?_; clear hf a; intro a hf
                refine s_v hf (x_extract (hf.eval rfl) rfl) ?_; clear hf a; intro a hf
                refine s_v hf (x_extract (hf.eval rfl) rfl) ?_; clear hf a; intro a hf
                refine s_do hf rfl (y_alloc hs Tryd.zeroValue24 ?_); clear hf hs a; intro b11 w hs a hf
                change St _ _ (cb b11 24 (slF zSl) :: _) at hs
                refine s_do0 hf rfl (y_storeAgg (cs := slF s) hs (n := 7) (by kernel_rfl) (hf.eval rfl) (hf.eval rfl) (by simp [Value.oneCell', slF]) rfl rfl (.here _) ?_); clear hf hs a; intro w hs a hf
                refine s_a hf rfl ?_; clear hf a; intro a hf
                refine s_nil ?_
                refine then_n ?_
                refine wp_seq ?_
                refine wp_seq ?_
                refine wp_region_lit ?_
                refine s_m hf rfl ?_; clear hf a; intro a hf
                refine s_do hf rfl (y_call (hf.eval rfl) (hf.evals rfl) Tryd.call13 ((num_spec _ _).mono ?_))
                rintro e w1 ⟨rfl, hw⟩
                subst hw
                refine ⟨_, rfl, ?_⟩; clear hf a; intro a hf
                refine s_v hf (x_bin (hf.eval rfl) (hf.eval rfl) (r_ne _ _ _ _)) ?_; clear hf a; intro a hf
                refine s_m hf rfl ?_; clear hf a; intro a hf
                replace hf := hf.now (k := 85) (v' := .bool false) rfl (congrArg Value.bool (by simp))
                replace hs := hs.take (A := cb b11 24 (slF s)) (by first | exact .here _ | exact .there _ (.here _) | exact .there _ (.there _ (.here _)) | exact .there _ (.there _ (.there _ (.here _))) | exact .there _ (.there _ (.there _ (.there _ (.here _)))) | exact .there _ (.there _ (.there _ (.there _ (.there _ (.here _))))) | exact .there _ (.there _ (.there _ (.there _ (.there _ (.there _ (.here _)))))) | exact .there _ (.there _ (.there _ (.there _ (.there _ (.there _ (.there _ (.here _))))))) | exact .there _ (.there _ (.there _ (.there _ (.there _ (.there _ (.there _ (.there _ (.here _)))))))) | exact .there _ (.there _ (.there _ (.there _ (.there _ (.there _ (.there _ (.there _ (.there _ (.here _))))))))) | exact .there _ (.there _ (.there _ (.there _ (.there _ (.there _ (.there _ (.there _ (.there _ (.there _ (.here _)))))))))) | exact .there _ (.there _ (.there _ (.there _ (.there _ (.there _ (.there _ (.there _ (.there _ (.there _ (.there _ (.here _))))))))))))
                refine s_do hf (wanted_of hf rfl rfl rfl) (.value (x_loadBlk hs ag24 (hf.eval rfl) rfl (by first | exact .here _ | exact .there _ (.here _) | exact .there _ (.there _ (.here _)) | exact .there _ (.there _ (.there _ (.here _))) | exact .there _ (.there _ (.there _ (.there _ (.here _)))) | exact .there _ (.there _ (.there _ (.there _ (.there _ (.here _))))) | exact .there _ (.there _ (.there _ (.there _ (.there _ (.there _ (.here _)))))) | exact .there _ (.there _ (.there _ (.there _ (.there _ (.there _ (.there _ (.here _))))))) | exact .there _ (.there _ (.there _ (.there _ (.there _ (.there _ (.there _ (.there _ (.here _)))))))) | exact .there _ (.there _ (.there _ (.there _ (.there _ (.there _ (.there _ (.there _ (.there _ (.here _))))))))))) ?_); clear hf a; intro a hf
                replace hs := hs.take (A := cb b3 24 (slF s)) (by first | exact .here _ | exact .there _ (.here _) | exact .there _ (.there _ (.here _)) | exact .there _ (.there _ (.there _ (.here _))) | exact .there _ (.there _ (.there _ (.there _ (.here _)))) | exact .there _ (.there _ (.there _ (.there _ (.there _ (.here _))))) | exact .there _ (.there _ (.there _ (.there _ (.there _ (.there _ (.here _)))))) | exact .there _ (.there _ (.there _ (.there _ (.there _ (.there _ (.there _ (.here _))))))) | exact .there _ (.there _ (.there _ (.there _ (.there _ (.there _ (.there _ (.there _ (.here _)))))))) | exact .there _ (.there _ (.there _ (.there _ (.there _ (.there _ (.there _ (.there _ (.there _ (.here _))))))))) | exact .there _ (.there _ (.there _ (.there _ (.there _ (.there _ (.there _ (.there _ (.there _ (.there _ (.here _)))))))))) | exact .there _ (.there _ (.there _ (.there _ (.there _ (.there _ (.there _ (.there _ (.there _ (.there _ (.there _ (.here _))))))))))))
                refine s_do hf (wanted_of hf rfl rfl rfl) (.value (x_loadBlk hs ag24 (hf.eval rfl) rfl (by first | exact .here _ | exact .there _ (.here _) | exact .there _ (.there _ (.here _)) | exact .there _ (.there _ (.there _ (.here _))) | exact .there _ (.there _ (.there _ (.there _ (.here _)))) | exact .there _ (.there _ (.there _ (.there _ (.there _ (.here _))))) | exact .there _ (.there _ (.there _ (.there _ (.there _ (.there _ (.here _)))))) | exact .there _ (.there _ (.there _ (.there _ (.there _ (.there _ (.there _ (.here _))))))) | exact .there _ (.there _ (.there _ (.there _ (.there _ (.there _ (.there _ (.there _ (.here _)))))))) | exact .there _ (.there _ (.there _ (.there _ (.there _ (.there _ (.there _ (.there _ (.there _ (.here _))))))))))) ?_); clear hf a; intro a hf
                refine s_do hf (wanted_of hf rfl rfl rfl) (.value (x_sealNe (s := s) (t := s) (hf.eval rfl) (hf.eval rfl) rfl _) ?_); clear hf a; intro a hf
                refine s_v hf (x_pick_f (hf.eval rfl) (hf.eval rfl)) ?_; clear hf a; intro a hf
                refine s_nil ?_
                refine then_n ?_
                refine c_cond_f hf rfl (by simp) ?_
                refine wp_skip ?_
                refine then_n ?_
                refine wp_seq ?_
                refine wp_seq ?_
                refine wp_region_lit ?_
                refine s_m hf rfl ?_; clear hf a; intro a hf
                refine s_v hf (x_bin (hf.eval rfl) (hf.eval rfl) (r_lt _ _ _ _)) ?_; clear hf a; intro a hf
                refine s_m hf rfl ?_; clear hf a; intro a hf
                refine s_bool hf (k := 92) rfl (fun hg10_2 hf' => ?_) (fun hg10_2 hf' => ?_)
                · clear hf
                  have hf := hf'
                  clear hf'
                  first | simp only [decide_eq_true_eq, decide_eq_false_iff_not, Bool.not_eq_true', Bool.not_eq_false'] at hg10_2 | skip
                  refine s_pass hf rfl rfl ?_; clear hf a; intro a hf
                  refine s_pass hf rfl rfl ?_; clear hf a; intro a hf
                  refine s_v hf (x_pick_t (hf.eval rfl) (hf.eval rfl)) ?_; clear hf a; intro a hf
                  refine s_m hf rfl ?_; clear hf a; intro a hf
                  refine s_pass hf rfl rfl ?_; clear hf a; intro a hf
                  refine s_pass hf rfl rfl ?_; clear hf a; intro a hf
                  refine s_pass hf rfl rfl ?_; clear hf a; intro a hf
                  refine s_pass hf rfl rfl ?_; clear hf a; intro a hf
                  refine s_pass hf rfl rfl ?_; clear hf a; intro a hf
                  refine s_pass hf rfl rfl ?_; clear hf a; intro a hf
                  refine s_v hf (x_pick_t (hf.eval rfl) (hf.eval rfl)) ?_; clear hf a; intro a hf
                  refine s_nil ?_
                  refine then_n ?_
                  refine c_cond_t hf rfl rfl ?_
                  refine wp_seq ?_
                  refine wp_region_lit ?_
                  refine s_a hf rfl ?_; clear hf a; intro a hf
                  refine s_nil ?_
                  refine then_n ?_
                  refine wp_ret ?_
                  refine then_r ?_
                  refine r_1 hf Tryd.results5 rfl ?_
                  exact ⟨by simp, hs.kept⟩
                · clear hf
                  have hf := hf'
                  clear hf'
                  first | simp only [decide_eq_true_eq, decide_eq_false_iff_not, Bool.not_eq_true', Bool.not_eq_false'] at hg10_2 | skip
                  refine s_do hf (wanted_of hf rfl rfl rfl) (.value (x_move (hf.eval rfl) _) ?_); clear hf a; intro a hf
                  refine s_do hf (wanted_of hf rfl rfl rfl) (.value (x_bin (hf.eval rfl) (hf.eval rfl) (r_ge _ _ _ _) _) ?_); clear hf a; intro a hf
                  refine s_v hf (x_pick_f (hf.eval rfl) (hf.eval rfl)) ?_; clear hf a; intro a hf
                  refine s_m hf rfl ?_; clear hf a; intro a hf
                  refine s_bool hf (k := 96) rfl (fun hg10_6 hf' => ?_) (fun hg10_6 hf' => ?_)
                  · clear hf
                    have hf := hf'
                    clear hf'
                    first | simp only [decide_eq_true_eq, decide_eq_false_iff_not, Bool.not_eq_true', Bool.not_eq_false'] at hg10_6 | skip
                    refine s_pass hf rfl rfl ?_; clear hf a; intro a hf
                    refine s_pass hf rfl rfl ?_; clear hf a; intro a hf
                    refine s_pass hf rfl rfl ?_; clear hf a; intro a hf
                    refine s_pass hf rfl rfl ?_; clear hf a; intro a hf
                    refine s_pass hf rfl rfl ?_; clear hf a; intro a hf
                    refine s_pass hf rfl rfl ?_; clear hf a; intro a hf
                    refine s_v hf (x_pick_t (hf.eval rfl) (hf.eval rfl)) ?_; clear hf a; intro a hf
                    refine s_nil ?_
                    refine then_n ?_
                    refine c_cond_t hf rfl rfl ?_
                    refine wp_seq ?_
                    refine wp_region_lit ?_
                    refine s_a hf rfl ?_; clear hf a; intro a hf
                    refine s_nil ?_
                    refine then_n ?_
                    refine wp_ret ?_
                    refine then_r ?_
                    refine r_1 hf Tryd.results5 rfl ?_
                    exact ⟨by simp, hs.kept⟩
                  · clear hf
                    have hf := hf'
                    clear hf'
                    first | simp only [decide_eq_true_eq, decide_eq_false_iff_not, Bool.not_eq_true', Bool.not_eq_false'] at hg10_6 | skip
                    obtain ⟨k, rfl⟩ := Int.eq_ofNat_of_zero_le (show 0 ≤ at_ by omega)
                    have hk : k < (secS s).length := by omega
                    replace hs := hs.take (A := slB 5 (.slice g1 (secS s).length cg1) (secS s)) (by first | exact .here _ | exact .there _ (.here _) | exact .there _ (.there _ (.here _)) | exact .there _ (.there _ (.there _ (.here _))) | exact .there _ (.there _ (.there _ (.there _ (.here _)))) | exact .there _ (.there _ (.there _ (.there _ (.there _ (.here _))))) | exact .there _ (.there _ (.there _ (.there _ (.there _ (.there _ (.here _)))))) | exact .there _ (.there _ (.there _ (.there _ (.there _ (.there _ (.there _ (.here _))))))) | exact .there _ (.there _ (.there _ (.there _ (.there _ (.there _ (.there _ (.there _ (.here _)))))))) | exact .there _ (.there _ (.there _ (.there _ (.there _ (.there _ (.there _ (.there _ (.there _ (.here _))))))))) | exact .there _ (.there _ (.there _ (.there _ (.there _ (.there _ (.there _ (.there _ (.there _ (.there _ (.here _)))))))))) | exact .there _ (.there _ (.there _ (.there _ (.there _ (.there _ (.there _ (.there _ (.there _ (.there _ (.there _ (.here _))))))))))))
                    obtain ⟨g1, rfl⟩ := (hs.rdB (.here _) fun h => slB_rd).some (by omega)
                    refine s_do hf (wanted_of hf rfl rfl rfl) (.value (x_move (hf.eval rfl) _) ?_); clear hf a; intro a hf
                    refine s_do hf (wanted_of hf rfl rfl rfl) (.value (x_move (hf.eval rfl) _) ?_); clear hf a; intro a hf
                    refine s_do hf (wanted_of hf rfl rfl rfl) (.value (x_indexAddr sl25 (hf.eval rfl) (hf.eval rfl) (by omega) (by omega) _) ?_); clear hf a; intro a hf
                    refine s_do hf (wanted_of hf rfl rfl rfl) (.value (x_loadB (i := (k : Int)) sc5 (hs.rdB (.here _) fun h => slB_rd) (hf.eval rfl) (by rw [Int.toNat_natCast]; exact hk)) ?_); clear hf a; intro a hf
                    replace hf := hf.now (k := 100) (v' := u8v (secS s)[k]) rfl (rfl)
                    refine s_do hf (wanted_of hf rfl rfl rfl) (.value (x_move (hf.eval rfl) _) ?_); clear hf a; intro a hf
                    refine s_do hf (wanted_of hf rfl rfl rfl) (.value (x_bin (hf.eval rfl) (hf.eval rfl) (r_eq _ _ _ _) _) ?_); clear hf a; intro a hf
                    refine s_v hf (x_pick_f (hf.eval rfl) (hf.eval rfl)) ?_; clear hf a; intro a hf
                    refine s_nil ?_
                    refine then_n ?_
                    refine c_cond hf rfl (fun hi3 => ?_) (fun hi3 => ?_)
                    · first | simp only [decide_eq_true_eq, decide_eq_false_iff_not, Bool.not_eq_true', Bool.not_eq_false'] at hi3 | skip
                      refine wp_seq ?_
                      refine wp_region_lit ?_
                      refine s_a hf rfl ?_; clear hf a; intro a hf
                      refine s_nil ?_
                      refine then_n ?_
                      refine wp_ret ?_
                      refine then_r ?_
                      refine r_1 hf Tryd.results5 rfl ?_
                      exact ⟨by simp, hs.kept⟩
                    · first | simp only [decide_eq_true_eq, decide_eq_false_iff_not, Bool.not_eq_true', Bool.not_eq_false'] at hi3 | skip
                      have hx : x ≠ (secS s)[k] := fun h9 => hi3 (by rw [h9])
                      have hno2 := seal_turn hk hx
                      refine wp_skip ?_
                      refine then_n ?_
                      refine wp_seq ?_
                      refine wp_region_lit ?_
                      refine s_m hf rfl ?_; clear hf a; intro a hf
                      refine s_m hf rfl ?_; clear hf a; intro a hf
                      refine s_m hf rfl ?_; clear hf a; intro a hf
                      refine s_v hf (x_indexAddr sl25 (hf.eval rfl) (hf.eval rfl) (by omega) (by omega)) ?_; clear hf a; intro a hf
                      replace hs := hs.take (A := slB 5 (.slice (some g1) (secS s).length cg1) (secS s)) (by first | exact .here _ | exact .there _ (.here _) | exact .there _ (.there _ (.here _)) | exact .there _ (.there _ (.there _ (.here _))) | exact .there _ (.there _ (.there _ (.there _ (.here _)))) | exact .there _ (.there _ (.there _ (.there _ (.there _ (.here _))))) | exact .there _ (.there _ (.there _ (.there _ (.there _ (.there _ (.here _)))))) | exact .there _ (.there _ (.there _ (.there _ (.there _ (.there _ (.there _ (.here _))))))) | exact .there _ (.there _ (.there _ (.there _ (.there _ (.there _ (.there _ (.there _ (.here _)))))))) | exact .there _ (.there _ (.there _ (.there _ (.there _ (.there _ (.there _ (.there _ (.there _ (.here _))))))))) | exact .there _ (.there _ (.there _ (.there _ (.there _ (.there _ (.there _ (.there _ (.there _ (.there _ (.here _)))))))))) | exact .there _ (.there _ (.there _ (.there _ (.there _ (.there _ (.there _ (.there _ (.there _ (.there _ (.there _ (.here _))))))))))))
                      unfold slB at hs
                      refine s_do0 hf rfl (y_storeSl (i := k) hs sc5 (hf.eval rfl) (hf.eval rfl) rfl (.here _) (by omega) ?_); clear hf hs a; intro w hs a hf
                      have hl9 : ((secS s).set k x).length = (secS s).length := List.length_set
                      rw [← List.map_set, ← hl9] at hs
                      replace hs : St _ _ (slB 5 (.slice (some g1) ((secS s).set k x).length cg1) ((secS s).set k x) :: _) := hs
                      replace hf := hf.now (k := 9) (v' := .slice (some g1) ((secS s).set k x).length cg1) rfl (by rw [List.length_set]; rfl)
                      refine s_nil ?_
                      refine then_n ?_
                      refine wp_seq ?_
                      refine wp_region_lit ?_
                      refine s_m hf rfl ?_; clear hf a; intro a hf
                      refine s_do hf rfl (y_call (hf.eval rfl) (hf.evals rfl) Tryd.call16 ((decode_spec _ (hT.kept hs.kept) (some g1) cg1 ((secS s).set k x) (hs.rdB (.here _) fun h => slB_rd) (by rw [List.length_set]; omega)).mono ?_))
                      rintro e w1 ⟨rfl, hk9⟩
                      replace hs := hs.ext hk9
                      rw [(dec_no hno2).1, (dec_no hno2).2]
                      refine ⟨_, rfl, ?_⟩; clear hf a; intro a hf
                      refine s_m hf rfl ?_; clear hf a; intro a hf
                      refine s_v hf (x_extract (hf.eval rfl) rfl) ?_; clear hf a; intro a hf
                      refine s_v hf (x_extract (hf.eval rfl) rfl) ?_; clear hf a; intro a hf
                      replace hs := hs.take (A := cb b11 24 (slF s)) (by first | exact .here _ | exact .there _ (.here _) | exact .there _ (.there _ (.here _)) | exact .there _ (.there _ (.there _ (.here _))) | exact .there _ (.there _ (.there _ (.there _ (.here _)))) | exact .there _ (.there _ (.there _ (.there _ (.there _ (.here _))))) | exact .there _ (.there _ (.there _ (.there _ (.there _ (.there _ (.here _)))))) | exact .there _ (.there _ (.there _ (.there _ (.there _ (.there _ (.there _ (.here _))))))) | exact .there _ (.there _ (.there _ (.there _ (.there _ (.there _ (.there _ (.there _ (.here _)))))))) | exact .there _ (.there _ (.there _ (.there _ (.there _ (.there _ (.there _ (.there _ (.there _ (.here _))))))))) | exact .there _ (.there _ (.there _ (.there _ (.there _ (.there _ (.there _ (.there _ (.there _ (.there _ (.here _)))))))))) | exact .there _ (.there _ (.there _ (.there _ (.there _ (.there _ (.there _ (.there _ (.there _ (.there _ (.there _ (.here _))))))))))))
                      refine s_do0 hf rfl (y_storeAgg (cs := slF zSl) hs (n := 7) (by kernel_rfl) (hf.eval rfl) (hf.eval rfl) (by simp [Value.oneCell', slF]) rfl rfl (.here _) ?_); clear hf hs a; intro w hs a hf
                      refine s_a hf rfl ?_; clear hf a; intro a hf
                      refine s_nil ?_
                      refine then_n ?_
                      refine wp_seq ?_
                      refine wp_region_lit ?_
                      refine s_m hf rfl ?_; clear hf a; intro a hf
                      refine s_do hf rfl (y_call (hf.eval rfl) (hf.evals rfl) Tryd.call13 ((num_spec _ _).mono ?_))
                      rintro e w1 ⟨rfl, hw⟩
                      subst hw
                      refine ⟨_, rfl, ?_⟩; clear hf a; intro a hf
                      refine s_v hf (x_bin (hf.eval rfl) (hf.eval rfl) (r_eq _ _ _ _)) ?_; clear hf a; intro a hf
                      refine s_m hf rfl ?_; clear hf a; intro a hf
                      replace hf := hf.now (k := 116) (v' := .bool true) rfl (congrArg Value.bool (by simp))
                      replace hs := hs.take (A := cb b11 24 (slF zSl)) (by first | exact .here _ | exact .there _ (.here _) | exact .there _ (.there _ (.here _)) | exact .there _ (.there _ (.there _ (.here _))) | exact .there _ (.there _ (.there _ (.there _ (.here _)))) | exact .there _ (.there _ (.there _ (.there _ (.there _ (.here _))))) | exact .there _ (.there _ (.there _ (.there _ (.there _ (.there _ (.here _)))))) | exact .there _ (.there _ (.there _ (.there _ (.there _ (.there _ (.there _ (.here _))))))) | exact .there _ (.there _ (.there _ (.there _ (.there _ (.there _ (.there _ (.there _ (.here _)))))))) | exact .there _ (.there _ (.there _ (.there _ (.there _ (.there _ (.there _ (.there _ (.there _ (.here _))))))))) | exact .there _ (.there _ (.there _ (.there _ (.there _ (.there _ (.there _ (.there _ (.there _ (.there _ (.here _)))))))))) | exact .there _ (.there _ (.there _ (.there _ (.there _ (.there _ (.there _ (.there _ (.there _ (.there _ (.there _ (.here _))))))))))))
                      refine s_do hf (wanted_of hf rfl rfl rfl) (.value (x_loadBlk hs ag24 (hf.eval rfl) rfl (by first | exact .here _ | exact .there _ (.here _) | exact .there _ (.there _ (.here _)) | exact .there _ (.there _ (.there _ (.here _))) | exact .there _ (.there _ (.there _ (.there _ (.here _)))) | exact .there _ (.there _ (.there _ (.there _ (.there _ (.here _))))) | exact .there _ (.there _ (.there _ (.there _ (.there _ (.there _ (.here _)))))) | exact .there _ (.there _ (.there _ (.there _ (.there _ (.there _ (.there _ (.here _))))))) | exact .there _ (.there _ (.there _ (.there _ (.there _ (.there _ (.there _ (.there _ (.here _)))))))) | exact .there _ (.there _ (.there _ (.there _ (.there _ (.there _ (.there _ (.there _ (.there _ (.here _))))))))))) ?_); clear hf a; intro a hf
                      refine s_do hf (wanted_of hf rfl rfl rfl) (.value (x_build (v := .agg (slF zSl).toArray) (hf.parts rfl) (fun w => by kernel_rfl) _) ?_); clear hf a; intro a hf
                      refine s_do hf (wanted_of hf rfl rfl rfl) (.value (x_sealEq (s := zSl) (t := zSl) (hf.eval rfl) (hf.eval rfl) rfl _) ?_); clear hf a; intro a hf
                      refine s_v hf (x_pick_t (hf.eval rfl) (hf.eval rfl)) ?_; clear hf a; intro a hf
                      refine s_a hf rfl ?_; clear hf a; intro a hf
                      refine s_nil ?_
                      refine then_n ?_
                      refine wp_ret ?_
                      refine r_1 hf Tryd.results5 rfl ?_
                      exact ⟨by simp, hs.kept⟩

end Go.Proofs.YtehakfbfjpolfaaDoor
