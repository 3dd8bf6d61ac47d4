/- The statement DiskReadsBack. -/
import Derived.Test.YtjfnpbeehjhmbaaVQ
import Derived.Test.YtjfnpbeehjhmbaaLc
import Derived.Test.YtjfnpbeehjhmbaaProg
import Derived.Test.YtjfnpbeehjhmbaaFacts
set_option maxRecDepth 100000
set_option linter.all false
namespace Go.Proofs.Ytjfnpbeehjhmbaa
open Go Vw
theorem diskReadsBack_spec (w0 : World) (a1 : Option Addr) (c1 : Nat) (image : List UInt8) (hr1 : RdB (hp w0) (.slice a1 image.length c1) image) (hl1 : image.length ≤ 140737488351232) (cap : Int) (off : Int) (hof : -9223372036854775808 ≤ off ∧ off ≤ 9223372036854775807) (a2 : Option Addr) (c2 : Nat) (data : List UInt8) (hr2 : RdB (hp w0) (.slice a2 data.length c2) data) (hl2 : data.length ≤ 140737488351232) (hdl : data.length ≤ 1048576) : Calls Try.prog 4 #[.slice a1 image.length c1, .int .i64 cap, .int .i64 off, .slice a2 data.length c2] w0 fun e w' => e = .returned (.bool true) ∧ Kept w0 w' None_ := by
  have hs := St.start w0 None_
  refine c_enter (N := 157) Try.func4 rfl Try.ntmps4 (by simp) ?_
  intro a hf
  refine wp_seq ?_
  refine wp_region_lit ?_
  refine s_a hf rfl ?_; clear hf a; intro a hf
  refine s_nil ?_
  refine then_n ?_
  refine wp_seq ?_
  refine wp_seq ?_
  refine wp_region_lit ?_
  refine s_m hf rfl ?_; clear hf a; intro a hf
  refine s_m hf rfl ?_; clear hf a; intro a hf
  refine s_do hf rfl (y_call (hf.eval rfl) (hf.evals rfl) Try.call25 ((fits_spec _ a1 image.length c1 cap).mono ?_))
  rintro e w1 ⟨rfl, hw9⟩
  rw [hw9]
  clear hw9 w1
  refine ⟨_, rfl, ?_⟩; clear hf a; intro a hf
  refine s_v hf (x_not (hf.eval rfl)) ?_; clear hf a; intro a hf
  refine s_nil ?_
  refine then_n ?_
  refine c_cond hf rfl (fun hi0 => ?_) (fun hi0 => ?_)
  · simp only [Bool.not_eq_true', Bool.not_eq_false', decide_eq_true_eq, decide_eq_false_iff_not] at hi0
    refine wp_seq ?_
    refine wp_region_lit ?_
    refine s_a hf rfl ?_; clear hf a; intro a hf
    refine s_nil ?_
    refine then_n ?_
    refine wp_ret ?_
    refine then_r ?_
    refine r_1 hf Try.results4 rfl ?_
    exact ⟨rfl, hs.kept⟩
  · simp only [Bool.not_eq_true', Bool.not_eq_false', decide_eq_true_eq, decide_eq_false_iff_not] at hi0
    obtain ⟨hc1, hc2, hc3⟩ := hi0
    refine wp_skip ?_
    refine then_n ?_
    refine wp_seq ?_
    refine wp_region_lit ?_
    refine s_m hf rfl ?_; clear hf a; intro a hf
    refine s_m hf rfl ?_; clear hf a; intro a hf
    refine s_do hf rfl (y_call (hf.eval rfl) (hf.evals rfl) Try.call26 ((fresh_spec _ a1 c1 image (hs.oldB hr1) hl1 cap hc1 hc2 hc3).mono ?_))
    rintro e w1 ⟨p, rfl, hj⟩
    replace hs := hs.join hj
    simp only [List.cons_append, List.nil_append] at hs
    refine ⟨_, rfl, ?_⟩; clear hf a; intro a hf
    refine s_a hf rfl ?_; clear hf a; intro a hf
    refine s_nil ?_
    refine then_n ?_
    refine wp_seq ?_
    refine wp_seq ?_
    refine wp_region_lit ?_
    refine s_m hf rfl ?_; clear hf a; intro a hf
    refine s_v hf (x_eqNil Try.underlying23 (hf.eval rfl) (hf.eval rfl)) ?_; clear hf a; intro a hf
    replace hf := hf.now (k := 29) (v' := .bool false) rfl rfl
    refine s_nil ?_
    refine then_n ?_
    refine c_cond_f hf rfl rfl ?_
    refine wp_skip ?_
    refine then_n ?_
    refine wp_seq ?_
    refine wp_region_lit ?_
    refine s_m hf rfl ?_; clear hf a; intro a hf
    refine s_m hf rfl ?_; clear hf a; intro a hf
    refine s_m hf rfl ?_; clear hf a; intro a hf
    refine s_do hf rfl (y_call (hf.eval rfl) (hf.evals rfl) Try.call29 ((lclone_spec _ _ _ data (hs.oldB hr2) (by omega)).mono ?_))
    rintro e w1 ⟨e0, fe0, rfl, hj⟩
    replace hs := hs.join hj
    simp only [List.cons_append, List.nil_append] at hs
    refine ⟨_, rfl, ?_⟩; clear hf a; intro a hf
    replace hs := hs.take (A := diskA 78 83 5 3 p (newS image cap)) (by first | exact .here _ | exact .there _ (.here _) | exact .there _ (.there _ (.here _)) | exact .there _ (.there _ (.there _ (.here _))) | exact .there _ (.there _ (.there _ (.there _ (.here _)))) | exact .there _ (.there _ (.there _ (.there _ (.there _ (.here _))))) | exact .there _ (.there _ (.there _ (.there _ (.there _ (.there _ (.here _)))))) | exact .there _ (.there _ (.there _ (.there _ (.there _ (.there _ (.there _ (.here _))))))) | exact .there _ (.there _ (.there _ (.there _ (.there _ (.there _ (.there _ (.there _ (.here _)))))))) | exact .there _ (.there _ (.there _ (.there _ (.there _ (.there _ (.there _ (.there _ (.there _ (.here _))))))))) | exact .there _ (.there _ (.there _ (.there _ (.there _ (.there _ (.there _ (.there _ (.there _ (.there _ (.here _)))))))))) | exact .there _ (.there _ (.there _ (.there _ (.there _ (.there _ (.there _ (.there _ (.there _ (.there _ (.there _ (.here _))))))))))))
    refine s_do hf rfl (y_call (hf.eval rfl) (hf.evals rfl) Try.call28 ((dWrite_spec _ _ _ p (newS image cap) hs off e0 fe0 data (Rdy.own (.here _)) hl2 (newS_ok hc1 hc2 hc3) (by simp [newS]) (by simp [newS]) (by simp [newS])).mono ?_))
    rintro e w1 ⟨rfl, hs⟩
    obtain ⟨s, hse⟩ : ∃ s, s = (wrS (newS image cap) off data).2 := ⟨_, rfl⟩
    obtain ⟨e, hee⟩ : ∃ e, e = (wrS (newS image cap) off data).1 := ⟨_, rfl⟩
    rw [← hee]
    rw [← hse] at hs
    have ho : DOk s := by rw [hse]; exact wrS_ok (newS_ok hc1 hc2 hc3) _ _
    have hn1 := ho.now
    have hn2 := ho.room1
    refine ⟨_, rfl, ?_⟩; clear hf a; intro a hf
    refine s_do hf rfl (y_call (hf.eval rfl) (hf.evals rfl) Try.call27 ((num_spec _ _).mono ?_))
    rintro e w1 ⟨rfl, rfl⟩
    refine ⟨_, rfl, ?_⟩; clear hf a; intro a hf
    refine s_a hf rfl ?_; clear hf a; intro a hf
    refine s_nil ?_
    refine then_n ?_
    refine wp_seq ?_
    refine wp_region_lit ?_
    refine s_m hf rfl ?_; clear hf a; intro a hf
    replace hs := hs.take (A := diskA 78 83 5 3 p s) (by first | exact .here _ | exact .there _ (.here _) | exact .there _ (.there _ (.here _)) | exact .there _ (.there _ (.there _ (.here _))) | exact .there _ (.there _ (.there _ (.there _ (.here _)))) | exact .there _ (.there _ (.there _ (.there _ (.there _ (.here _))))) | exact .there _ (.there _ (.there _ (.there _ (.there _ (.there _ (.here _)))))) | exact .there _ (.there _ (.there _ (.there _ (.there _ (.there _ (.there _ (.here _))))))) | exact .there _ (.there _ (.there _ (.there _ (.there _ (.there _ (.there _ (.there _ (.here _)))))))) | exact .there _ (.there _ (.there _ (.there _ (.there _ (.there _ (.there _ (.there _ (.there _ (.here _))))))))) | exact .there _ (.there _ (.there _ (.there _ (.there _ (.there _ (.there _ (.there _ (.there _ (.there _ (.here _)))))))))) | exact .there _ (.there _ (.there _ (.there _ (.there _ (.there _ (.there _ (.there _ (.there _ (.there _ (.there _ (.here _))))))))))))
    refine s_do hf rfl (y_call (hf.eval rfl) (hf.evals rfl) Try.call19 ((dImage_spec _ _ _ p s hs (by omega)).mono ?_))
    rintro e w1 ⟨e1, fe1, rfl, hs⟩
    refine ⟨_, rfl, ?_⟩; clear hf a; intro a hf
    refine s_a hf rfl ?_; clear hf a; intro a hf
    refine s_nil ?_
    refine then_n ?_
    refine wp_seq ?_
    refine wp_seq ?_
    refine wp_region_lit ?_
    refine s_m hf rfl ?_; clear hf a; intro a hf
    refine s_m hf rfl ?_; clear hf a; intro a hf
    refine s_m hf rfl ?_; clear hf a; intro a hf
    refine s_r hf (x_build (v := .agg (opF (2, off, 0, (a2, c2, data), 0, (none, 0, []), 0)).toArray) (hf.parts rfl) (fun w => by kernel_rfl) _) ?_; clear hf a; intro a hf
    refine s_m hf rfl ?_; clear hf a; intro a hf
    refine s_do hf rfl (y_call (hf.eval rfl) (hf.evals rfl) Try.call30 ((refused_spec _ (2, off, 0, (a2, c2, data), 0, (none, 0, []), 0) cap hc1 hc2 hdl hof.2).mono ?_))
    rintro e w1 ⟨rfl, hk⟩
    replace hs := hs.ext hk
    refine ⟨_, rfl, ?_⟩; clear hf a; intro a hf
    refine s_v hf (x_bin (hf.eval rfl) (hf.eval rfl) (r_ne _ _ _ _)) ?_; clear hf a; intro a hf
    refine s_nil ?_
    refine then_n ?_
    refine c_cond_f hf rfl (by rw [hee, wr_ref (2, off, 0, (a2, c2, data), 0, (none, 0, []), 0) rfl rfl rfl]; simp) ?_
    refine wp_skip ?_
    refine then_n ?_
    refine wp_seq ?_
    refine wp_seq ?_
    refine wp_region_lit ?_
    refine s_m hf rfl ?_; clear hf a; intro a hf
    refine s_v hf (x_bin (hf.eval rfl) (hf.eval rfl) (r_ne _ _ _ _)) ?_; clear hf a; intro a hf
    refine s_m hf rfl ?_; clear hf a; intro a hf
    refine s_bool hf (k := 47) rfl (fun hg10_2 hf' => ?_) (fun hg10_2 hf' => ?_)
    · clear hf
      have hf := hf'
      clear hf'
      simp only [decide_eq_true_eq, decide_eq_false_iff_not, Bool.not_eq_true', Bool.not_eq_false'] at hg10_2
      have hnn : s.now = image := by rw [hse]; exact wr_none (.inl (by rw [← hee]; exact hg10_2))
      refine s_pass hf rfl rfl ?_; clear hf a; intro a hf
      refine s_pass hf rfl rfl ?_; clear hf a; intro a hf
      refine s_pass hf rfl rfl ?_; clear hf a; intro a hf
      refine s_v hf (x_pick_t (hf.eval rfl) (hf.eval rfl)) ?_; clear hf a; intro a hf
      refine s_nil ?_
      refine then_n ?_
      refine c_cond_t hf rfl rfl ?_
      have hnn : s.now = image := by first | exact hnn | (rw [hse]; exact wr_none (.inr (List.eq_nil_of_length_eq_zero (by omega))))
      refine wp_seq ?_
      refine wp_region_lit ?_
      refine s_m hf rfl ?_; clear hf a; intro a hf
      refine s_m hf rfl ?_; clear hf a; intro a hf
      replace hs := hs.take (A := slB 5 (.slice e1 s.now.length fe1) s.now) (by first | exact .here _ | exact .there _ (.here _) | exact .there _ (.there _ (.here _)) | exact .there _ (.there _ (.there _ (.here _))) | exact .there _ (.there _ (.there _ (.there _ (.here _)))) | exact .there _ (.there _ (.there _ (.there _ (.there _ (.here _))))) | exact .there _ (.there _ (.there _ (.there _ (.there _ (.there _ (.here _)))))) | exact .there _ (.there _ (.there _ (.there _ (.there _ (.there _ (.there _ (.here _))))))) | exact .there _ (.there _ (.there _ (.there _ (.there _ (.there _ (.there _ (.there _ (.here _)))))))) | exact .there _ (.there _ (.there _ (.there _ (.there _ (.there _ (.there _ (.there _ (.there _ (.here _))))))))) | exact .there _ (.there _ (.there _ (.there _ (.there _ (.there _ (.there _ (.there _ (.there _ (.there _ (.here _)))))))))) | exact .there _ (.there _ (.there _ (.there _ (.there _ (.there _ (.there _ (.there _ (.there _ (.there _ (.there _ (.here _))))))))))))
      refine s_do hf rfl (y_call (hf.eval rfl) (hf.evals rfl) Try.call24 ((same_spec _ _ _ s.now (hs.rdB (.here _) fun h => slB_rd) _ _ image (hs.oldB hr1) (by omega)).mono ?_))
      rintro e w1 ⟨rfl, hk⟩
      replace hs := hs.ext hk
      refine ⟨_, rfl, ?_⟩; clear hf a; intro a hf
      refine s_m hf rfl ?_; clear hf a; intro a hf
      replace hf := hf.now (k := 55) (v' := .bool true) rfl (congrArg Value.bool (by simp [hnn]))
      refine s_do hf (wanted_of hf rfl rfl rfl) (.value (x_move (hf.eval rfl) _) ?_); clear hf a; intro a hf
      replace hs := hs.take (A := diskA 78 83 5 3 p s) (by first | exact .here _ | exact .there _ (.here _) | exact .there _ (.there _ (.here _)) | exact .there _ (.there _ (.there _ (.here _))) | exact .there _ (.there _ (.there _ (.there _ (.here _)))) | exact .there _ (.there _ (.there _ (.there _ (.there _ (.here _))))) | exact .there _ (.there _ (.there _ (.there _ (.there _ (.there _ (.here _)))))) | exact .there _ (.there _ (.there _ (.there _ (.there _ (.there _ (.there _ (.here _))))))) | exact .there _ (.there _ (.there _ (.there _ (.there _ (.there _ (.there _ (.there _ (.here _)))))))) | exact .there _ (.there _ (.there _ (.there _ (.there _ (.there _ (.there _ (.there _ (.there _ (.here _))))))))) | exact .there _ (.there _ (.there _ (.there _ (.there _ (.there _ (.there _ (.there _ (.there _ (.there _ (.here _)))))))))) | exact .there _ (.there _ (.there _ (.there _ (.there _ (.there _ (.there _ (.there _ (.there _ (.there _ (.there _ (.here _))))))))))))
      refine s_do hf (wanted_of hf rfl rfl rfl) (y_call (hf.eval rfl) (hf.evals rfl) Try.call21 ((dSize_spec _ _ _ p s hs).mono ?_))
      rintro e w1 ⟨rfl, rfl⟩
      refine ⟨_, rfl, ?_⟩; clear hf a; intro a hf
      refine s_do hf (wanted_of hf rfl rfl rfl) (.value (x_move (hf.eval rfl) _) ?_); clear hf a; intro a hf
      refine s_do hf (wanted_of hf rfl rfl rfl) (.value (x_len Try.underlying22 (hf.eval rfl) _) ?_); clear hf a; intro a hf
      refine s_do hf (wanted_of hf rfl rfl rfl) (.value (x_bin (hf.eval rfl) (hf.eval rfl) (r_eq _ _ _ _) _) ?_); clear hf a; intro a hf
      refine s_v hf (x_pick_t (hf.eval rfl) (hf.eval rfl)) ?_; clear hf a; intro a hf
      refine s_a hf rfl ?_; clear hf a; intro a hf
      refine s_nil ?_
      refine then_n ?_
      refine wp_ret ?_
      refine then_r ?_
      refine r_1 hf Try.results4 rfl ?_
      have hln : s.now.length = image.length := congrArg List.length hnn
      exact ⟨by simp [hln], hs.kept⟩
    · clear hf
      have hf := hf'
      clear hf'
      simp only [decide_eq_true_eq, decide_eq_false_iff_not, Bool.not_eq_true', Bool.not_eq_false'] at hg10_2
      refine s_do hf (wanted_of hf rfl rfl rfl) (.value (x_move (hf.eval rfl) _) ?_); clear hf a; intro a hf
      refine s_do hf (wanted_of hf rfl rfl rfl) (.value (x_len Try.underlying22 (hf.eval rfl) _) ?_); clear hf a; intro a hf
      refine s_do hf (wanted_of hf rfl rfl rfl) (.value (x_bin (hf.eval rfl) (hf.eval rfl) (r_eq _ _ _ _) _) ?_); clear hf a; intro a hf
      refine s_v hf (x_pick_f (hf.eval rfl) (hf.eval rfl)) ?_; clear hf a; intro a hf
      refine s_nil ?_
      refine then_n ?_
      refine c_cond hf rfl (fun hi3 => ?_) (fun hi3 => ?_)
      · simp only [decide_eq_true_eq, decide_eq_false_iff_not] at hi3
        have hnn : s.now = image := by first | exact hnn | (rw [hse]; exact wr_none (.inr (List.eq_nil_of_length_eq_zero (by omega))))
        refine wp_seq ?_
        refine wp_region_lit ?_
        refine s_m hf rfl ?_; clear hf a; intro a hf
        refine s_m hf rfl ?_; clear hf a; intro a hf
        replace hs := hs.take (A := slB 5 (.slice e1 s.now.length fe1) s.now) (by first | exact .here _ | exact .there _ (.here _) | exact .there _ (.there _ (.here _)) | exact .there _ (.there _ (.there _ (.here _))) | exact .there _ (.there _ (.there _ (.there _ (.here _)))) | exact .there _ (.there _ (.there _ (.there _ (.there _ (.here _))))) | exact .there _ (.there _ (.there _ (.there _ (.there _ (.there _ (.here _)))))) | exact .there _ (.there _ (.there _ (.there _ (.there _ (.there _ (.there _ (.here _))))))) | exact .there _ (.there _ (.there _ (.there _ (.there _ (.there _ (.there _ (.there _ (.here _)))))))) | exact .there _ (.there _ (.there _ (.there _ (.there _ (.there _ (.there _ (.there _ (.there _ (.here _))))))))) | exact .there _ (.there _ (.there _ (.there _ (.there _ (.there _ (.there _ (.there _ (.there _ (.there _ (.here _)))))))))) | exact .there _ (.there _ (.there _ (.there _ (.there _ (.there _ (.there _ (.there _ (.there _ (.there _ (.there _ (.here _))))))))))))
        refine s_do hf rfl (y_call (hf.eval rfl) (hf.evals rfl) Try.call24 ((same_spec _ _ _ s.now (hs.rdB (.here _) fun h => slB_rd) _ _ image (hs.oldB hr1) (by omega)).mono ?_))
        rintro e w1 ⟨rfl, hk⟩
        replace hs := hs.ext hk
        refine ⟨_, rfl, ?_⟩; clear hf a; intro a hf
        refine s_m hf rfl ?_; clear hf a; intro a hf
        replace hf := hf.now (k := 55) (v' := .bool true) rfl (congrArg Value.bool (by simp [hnn]))
        refine s_do hf (wanted_of hf rfl rfl rfl) (.value (x_move (hf.eval rfl) _) ?_); clear hf a; intro a hf
        replace hs := hs.take (A := diskA 78 83 5 3 p s) (by first | exact .here _ | exact .there _ (.here _) | exact .there _ (.there _ (.here _)) | exact .there _ (.there _ (.there _ (.here _))) | exact .there _ (.there _ (.there _ (.there _ (.here _)))) | exact .there _ (.there _ (.there _ (.there _ (.there _ (.here _))))) | exact .there _ (.there _ (.there _ (.there _ (.there _ (.there _ (.here _)))))) | exact .there _ (.there _ (.there _ (.there _ (.there _ (.there _ (.there _ (.here _))))))) | exact .there _ (.there _ (.there _ (.there _ (.there _ (.there _ (.there _ (.there _ (.here _)))))))) | exact .there _ (.there _ (.there _ (.there _ (.there _ (.there _ (.there _ (.there _ (.there _ (.here _))))))))) | exact .there _ (.there _ (.there _ (.there _ (.there _ (.there _ (.there _ (.there _ (.there _ (.there _ (.here _)))))))))) | exact .there _ (.there _ (.there _ (.there _ (.there _ (.there _ (.there _ (.there _ (.there _ (.there _ (.there _ (.here _))))))))))))
        refine s_do hf (wanted_of hf rfl rfl rfl) (y_call (hf.eval rfl) (hf.evals rfl) Try.call21 ((dSize_spec _ _ _ p s hs).mono ?_))
        rintro e w1 ⟨rfl, rfl⟩
        refine ⟨_, rfl, ?_⟩; clear hf a; intro a hf
        refine s_do hf (wanted_of hf rfl rfl rfl) (.value (x_move (hf.eval rfl) _) ?_); clear hf a; intro a hf
        refine s_do hf (wanted_of hf rfl rfl rfl) (.value (x_len Try.underlying22 (hf.eval rfl) _) ?_); clear hf a; intro a hf
        refine s_do hf (wanted_of hf rfl rfl rfl) (.value (x_bin (hf.eval rfl) (hf.eval rfl) (r_eq _ _ _ _) _) ?_); clear hf a; intro a hf
        refine s_v hf (x_pick_t (hf.eval rfl) (hf.eval rfl)) ?_; clear hf a; intro a hf
        refine s_a hf rfl ?_; clear hf a; intro a hf
        refine s_nil ?_
        refine then_n ?_
        refine wp_ret ?_
        refine then_r ?_
        refine r_1 hf Try.results4 rfl ?_
        have hln : s.now.length = image.length := congrArg List.length hnn
        exact ⟨by simp [hln], hs.kept⟩
      · simp only [decide_eq_true_eq, decide_eq_false_iff_not] at hi3
        have hd : data ≠ [] := by intro h9; subst h9; simp at hi3
        have hee0 : (wrS (newS image cap) off data).1 = 0 := by rw [← hee]; exact hg10_2
        obtain ⟨hy0, hy1⟩ := wr_yes hee0
        obtain ⟨_, hw2, hw3, hw4⟩ := wr_get hc2 hy0 hd hy1 hc3
        obtain ⟨hre, hrv⟩ := wr_read hc2 hy0 hd hy1 hc3
        rw [← hse] at hw2 hw3 hw4 hre hrv
        refine wp_skip ?_
        refine then_n ?_
        refine wp_seq ?_
        refine wp_region_lit ?_
        refine s_m hf rfl ?_; clear hf a; intro a hf
        refine s_v hf (x_len Try.underlying22 (hf.eval rfl)) ?_; clear hf a; intro a hf
        refine s_a hf rfl ?_; clear hf a; intro a hf
        refine s_nil ?_
        refine then_n ?_
        replace hs := hs.take (A := diskA 78 83 5 3 p s) (by first | exact .here _ | exact .there _ (.here _) | exact .there _ (.there _ (.here _)) | exact .there _ (.there _ (.there _ (.here _))) | exact .there _ (.there _ (.there _ (.there _ (.here _)))) | exact .there _ (.there _ (.there _ (.there _ (.there _ (.here _))))) | exact .there _ (.there _ (.there _ (.there _ (.there _ (.there _ (.here _)))))) | exact .there _ (.there _ (.there _ (.there _ (.there _ (.there _ (.there _ (.here _))))))) | exact .there _ (.there _ (.there _ (.there _ (.there _ (.there _ (.there _ (.there _ (.here _)))))))) | exact .there _ (.there _ (.there _ (.there _ (.there _ (.there _ (.there _ (.there _ (.there _ (.here _))))))))) | exact .there _ (.there _ (.there _ (.there _ (.there _ (.there _ (.there _ (.there _ (.there _ (.there _ (.here _)))))))))) | exact .there _ (.there _ (.there _ (.there _ (.there _ (.there _ (.there _ (.there _ (.there _ (.there _ (.there _ (.here _))))))))))))
        replace hs := hs.take (A := slB 5 (.slice e1 s.now.length fe1) s.now) (by first | exact .here _ | exact .there _ (.here _) | exact .there _ (.there _ (.here _)) | exact .there _ (.there _ (.there _ (.here _))) | exact .there _ (.there _ (.there _ (.there _ (.here _)))) | exact .there _ (.there _ (.there _ (.there _ (.there _ (.here _))))) | exact .there _ (.there _ (.there _ (.there _ (.there _ (.there _ (.here _)))))) | exact .there _ (.there _ (.there _ (.there _ (.there _ (.there _ (.there _ (.here _))))))) | exact .there _ (.there _ (.there _ (.there _ (.there _ (.there _ (.there _ (.there _ (.here _)))))))) | exact .there _ (.there _ (.there _ (.there _ (.there _ (.there _ (.there _ (.there _ (.there _ (.here _))))))))) | exact .there _ (.there _ (.there _ (.there _ (.there _ (.there _ (.there _ (.there _ (.there _ (.there _ (.here _)))))))))) | exact .there _ (.there _ (.there _ (.there _ (.there _ (.there _ (.there _ (.there _ (.there _ (.there _ (.there _ (.here _))))))))))))
        replace hs := only2c hs
        refine c_join (N := 157) (L0 := [(0, _), (2, _), (3, _), (8, _), (9, _), (11, _)]) (fun M w => M = [(12, .int .i64 (s.now.length : Int))] ∧ St ⟨w0, None_⟩ w [slB 5 (.slice e1 s.now.length fe1) s.now, diskA 78 83 5 3 p s]) (hf.sub ⟨rfl, rfl, rfl, rfl, rfl, rfl, trivial⟩) ?_ ?_
        · refine wp_seq ?_
          refine wp_region_lit ?_
          refine s_m hf rfl ?_; clear hf a; intro a hf
          refine s_m hf rfl ?_; clear hf a; intro a hf
          refine s_v hf (x_len Try.underlying22 (hf.eval rfl)) ?_; clear hf a; intro a hf
          refine s_v hf (x_bin (hf.eval rfl) (hf.eval rfl) (r_addi _ (by omega) (by omega))) ?_; clear hf a; intro a hf
          refine s_m hf rfl ?_; clear hf a; intro a hf
          refine s_v hf (x_bin (hf.eval rfl) (hf.eval rfl) (r_gt _ _ _ _)) ?_; clear hf a; intro a hf
          refine s_nil ?_
          refine then_n ?_
          refine c_cond hf rfl (fun hi4 => ?_) (fun hi4 => ?_)
          · simp only [decide_eq_true_eq, decide_eq_false_iff_not, Bool.not_eq_true', Bool.not_eq_false', Bool.not_eq_true, Int.not_lt, Int.not_le] at hi4
            refine wp_region_lit ?_
            refine s_m hf rfl ?_; clear hf a; intro a hf
            refine s_m hf rfl ?_; clear hf a; intro a hf
            refine s_v hf (x_len Try.underlying22 (hf.eval rfl)) ?_; clear hf a; intro a hf
            refine s_v hf (x_bin (hf.eval rfl) (hf.eval rfl) (r_addi _ (by omega) (by omega))) ?_; clear hf a; intro a hf
            refine s_a hf rfl ?_; clear hf a; intro a hf
            replace hf := hf.now (k := 12) (v' := .int .i64 (s.now.length : Int)) rfl (by rw [hw2]; congr 1; omega)
            refine s_nil ?_
            refine then_n ?_
            exact ⟨_, ⟨rfl, hs⟩, hf.sub ⟨rfl, rfl, rfl, rfl, rfl, rfl, rfl, trivial⟩⟩
          · simp only [decide_eq_true_eq, decide_eq_false_iff_not, Bool.not_eq_true', Bool.not_eq_false', Bool.not_eq_true, Int.not_lt, Int.not_le] at hi4
            replace hf := hf.now (k := 12) (v' := .int .i64 (s.now.length : Int)) rfl (by rw [hw2]; congr 1; omega)
            refine wp_skip ?_
            refine then_n ?_
            exact ⟨_, ⟨rfl, hs⟩, hf.sub ⟨rfl, rfl, rfl, rfl, rfl, rfl, rfl, trivial⟩⟩
        · clear hf hs a
          rintro M a w ⟨rfl, hs⟩ hf
          refine wp_seq ?_
          refine wp_region_lit ?_
          refine s_m hf rfl ?_; clear hf a; intro a hf
          refine s_m hf rfl ?_; clear hf a; intro a hf
          refine s_m hf rfl ?_; clear hf a; intro a hf
          refine s_v hf (x_len Try.underlying22 (hf.eval rfl)) ?_; clear hf a; intro a hf
          replace hs := hs.take (A := diskA 78 83 5 3 p s) (by first | exact .here _ | exact .there _ (.here _) | exact .there _ (.there _ (.here _)) | exact .there _ (.there _ (.there _ (.here _))) | exact .there _ (.there _ (.there _ (.there _ (.here _)))) | exact .there _ (.there _ (.there _ (.there _ (.there _ (.here _))))) | exact .there _ (.there _ (.there _ (.there _ (.there _ (.there _ (.here _)))))) | exact .there _ (.there _ (.there _ (.there _ (.there _ (.there _ (.there _ (.here _))))))) | exact .there _ (.there _ (.there _ (.there _ (.there _ (.there _ (.there _ (.there _ (.here _)))))))) | exact .there _ (.there _ (.there _ (.there _ (.there _ (.there _ (.there _ (.there _ (.there _ (.here _))))))))) | exact .there _ (.there _ (.there _ (.there _ (.there _ (.there _ (.there _ (.there _ (.there _ (.there _ (.here _)))))))))) | exact .there _ (.there _ (.there _ (.there _ (.there _ (.there _ (.there _ (.there _ (.there _ (.there _ (.there _ (.here _))))))))))))
          refine s_do hf rfl (y_call (hf.eval rfl) (hf.evals rfl) Try.call31 ((dRead_spec _ _ _ p s hs off data.length (by omega)).mono ?_))
          rintro e w1 ⟨e2, fe2, rfl, hs⟩
          rw [hrv] at hs ⊢
          rw [hre]
          refine ⟨_, rfl, ?_⟩; clear hf a; intro a hf
          refine s_m hf rfl ?_; clear hf a; intro a hf
          refine s_v hf (x_extract (hf.eval rfl) rfl) ?_; clear hf a; intro a hf
          refine s_v hf (x_extract (hf.eval rfl) rfl) ?_; clear hf a; intro a hf
          refine s_a hf rfl ?_; clear hf a; intro a hf
          refine s_a hf rfl ?_; clear hf a; intro a hf
          refine s_nil ?_
          refine then_n ?_
          refine wp_seq ?_
          refine wp_seq ?_
          refine wp_region_lit ?_
          refine s_m hf rfl ?_; clear hf a; intro a hf
          refine s_v hf (x_bin (hf.eval rfl) (hf.eval rfl) (r_ne _ _ _ _)) ?_; clear hf a; intro a hf
          refine s_m hf rfl ?_; clear hf a; intro a hf
          replace hf := hf.now (k := 84) (v' := .bool false) rfl (congrArg Value.bool rfl)
          refine s_do hf (wanted_of hf rfl rfl rfl) (.value (x_move (hf.eval rfl) _) ?_); clear hf a; intro a hf
          refine s_do hf (wanted_of hf rfl rfl rfl) (.value (x_move (hf.eval rfl) _) ?_); clear hf a; intro a hf
          replace hs := hs.take (A := slB 5 (.slice e2 data.length fe2) data) (by first | exact .here _ | exact .there _ (.here _) | exact .there _ (.there _ (.here _)) | exact .there _ (.there _ (.there _ (.here _))) | exact .there _ (.there _ (.there _ (.there _ (.here _)))) | exact .there _ (.there _ (.there _ (.there _ (.there _ (.here _))))) | exact .there _ (.there _ (.there _ (.there _ (.there _ (.there _ (.here _)))))) | exact .there _ (.there _ (.there _ (.there _ (.there _ (.there _ (.there _ (.here _))))))) | exact .there _ (.there _ (.there _ (.there _ (.there _ (.there _ (.there _ (.there _ (.here _)))))))) | exact .there _ (.there _ (.there _ (.there _ (.there _ (.there _ (.there _ (.there _ (.there _ (.here _))))))))) | exact .there _ (.there _ (.there _ (.there _ (.there _ (.there _ (.there _ (.there _ (.there _ (.there _ (.here _)))))))))) | exact .there _ (.there _ (.there _ (.there _ (.there _ (.there _ (.there _ (.there _ (.there _ (.there _ (.there _ (.here _))))))))))))
          refine s_do hf (wanted_of hf rfl rfl rfl) (y_call (hf.eval rfl) (hf.evals rfl) Try.call24 ((same_spec _ _ _ data (hs.rdB (.here _) fun h => slB_rd) _ _ data (hs.oldB hr2) (by omega)).mono ?_))
          rintro e w1 ⟨rfl, hk⟩
          replace hs := hs.ext hk
          refine ⟨_, rfl, ?_⟩; clear hf a; intro a hf
          refine s_do hf (wanted_of hf rfl rfl rfl) (.value (x_not (hf.eval rfl) _) ?_); clear hf a; intro a hf
          refine s_v hf (x_pick_f (hf.eval rfl) (hf.eval rfl)) ?_; clear hf a; intro a hf
          refine s_m hf rfl ?_; clear hf a; intro a hf
          replace hf := hf.now (k := 90) (v' := .bool false) rfl (congrArg Value.bool (by simp))
          refine s_do hf (wanted_of hf rfl rfl rfl) (.value (x_move (hf.eval rfl) _) ?_); clear hf a; intro a hf
          refine s_do hf (wanted_of hf rfl rfl rfl) (.value (x_len Try.underlying22 (hf.eval rfl) _) ?_); clear hf a; intro a hf
          refine s_do hf (wanted_of hf rfl rfl rfl) (.value (x_move (hf.eval rfl) _) ?_); clear hf a; intro a hf
          refine s_do hf (wanted_of hf rfl rfl rfl) (.value (x_bin (hf.eval rfl) (hf.eval rfl) (r_ne _ _ _ _) _) ?_); clear hf a; intro a hf
          refine s_v hf (x_pick_f (hf.eval rfl) (hf.eval rfl)) ?_; clear hf a; intro a hf
          refine s_m hf rfl ?_; clear hf a; intro a hf
          replace hf := hf.now (k := 96) (v' := .bool false) rfl (congrArg Value.bool (by simp))
          refine s_do hf (wanted_of hf rfl rfl rfl) (.value (x_move (hf.eval rfl) _) ?_); clear hf a; intro a hf
          replace hs := hs.take (A := diskA 78 83 5 3 p s) (by first | exact .here _ | exact .there _ (.here _) | exact .there _ (.there _ (.here _)) | exact .there _ (.there _ (.there _ (.here _))) | exact .there _ (.there _ (.there _ (.there _ (.here _)))) | exact .there _ (.there _ (.there _ (.there _ (.there _ (.here _))))) | exact .there _ (.there _ (.there _ (.there _ (.there _ (.there _ (.here _)))))) | exact .there _ (.there _ (.there _ (.there _ (.there _ (.there _ (.there _ (.here _))))))) | exact .there _ (.there _ (.there _ (.there _ (.there _ (.there _ (.there _ (.there _ (.here _)))))))) | exact .there _ (.there _ (.there _ (.there _ (.there _ (.there _ (.there _ (.there _ (.there _ (.here _))))))))) | exact .there _ (.there _ (.there _ (.there _ (.there _ (.there _ (.there _ (.there _ (.there _ (.there _ (.here _)))))))))) | exact .there _ (.there _ (.there _ (.there _ (.there _ (.there _ (.there _ (.there _ (.there _ (.there _ (.there _ (.here _))))))))))))
          refine s_do hf (wanted_of hf rfl rfl rfl) (y_call (hf.eval rfl) (hf.evals rfl) Try.call21 ((dSize_spec _ _ _ p s hs).mono ?_))
          rintro e w1 ⟨rfl, rfl⟩
          refine ⟨_, rfl, ?_⟩; clear hf a; intro a hf
          refine s_do hf (wanted_of hf rfl rfl rfl) (.value (x_move (hf.eval rfl) _) ?_); clear hf a; intro a hf
          refine s_do hf (wanted_of hf rfl rfl rfl) (.value (x_bin (hf.eval rfl) (hf.eval rfl) (r_ne _ _ _ _) _) ?_); clear hf a; intro a hf
          refine s_v hf (x_pick_f (hf.eval rfl) (hf.eval rfl)) ?_; clear hf a; intro a hf
          refine s_nil ?_
          refine then_n ?_
          refine c_cond_f hf rfl (by simp) ?_
          refine wp_skip ?_
          refine then_n ?_
          refine wp_seq ?_
          refine wp_seq ?_
          refine wp_region_lit ?_
          refine s_a hf rfl ?_; clear hf a; intro a hf
          refine s_nil ?_
          refine then_n ?_
          refine wp_block ?_
          replace hs := hs.take (A := diskA 78 83 5 3 p s) (by first | exact .here _ | exact .there _ (.here _) | exact .there _ (.there _ (.here _)) | exact .there _ (.there _ (.there _ (.here _))) | exact .there _ (.there _ (.there _ (.there _ (.here _)))) | exact .there _ (.there _ (.there _ (.there _ (.there _ (.here _))))) | exact .there _ (.there _ (.there _ (.there _ (.there _ (.there _ (.here _)))))) | exact .there _ (.there _ (.there _ (.there _ (.there _ (.there _ (.there _ (.here _))))))) | exact .there _ (.there _ (.there _ (.there _ (.there _ (.there _ (.there _ (.there _ (.here _)))))))) | exact .there _ (.there _ (.there _ (.there _ (.there _ (.there _ (.there _ (.there _ (.there _ (.here _))))))))) | exact .there _ (.there _ (.there _ (.there _ (.there _ (.there _ (.there _ (.there _ (.there _ (.there _ (.here _)))))))))) | exact .there _ (.there _ (.there _ (.there _ (.there _ (.there _ (.there _ (.there _ (.there _ (.there _ (.there _ (.here _))))))))))))
          replace hs := hs.take (A := slB 5 (.slice e1 s.now.length fe1) s.now) (by first | exact .here _ | exact .there _ (.here _) | exact .there _ (.there _ (.here _)) | exact .there _ (.there _ (.there _ (.here _))) | exact .there _ (.there _ (.there _ (.there _ (.here _)))) | exact .there _ (.there _ (.there _ (.there _ (.there _ (.here _))))) | exact .there _ (.there _ (.there _ (.there _ (.there _ (.there _ (.here _)))))) | exact .there _ (.there _ (.there _ (.there _ (.there _ (.there _ (.there _ (.here _))))))) | exact .there _ (.there _ (.there _ (.there _ (.there _ (.there _ (.there _ (.there _ (.here _)))))))) | exact .there _ (.there _ (.there _ (.there _ (.there _ (.there _ (.there _ (.there _ (.there _ (.here _))))))))) | exact .there _ (.there _ (.there _ (.there _ (.there _ (.there _ (.there _ (.there _ (.there _ (.there _ (.here _)))))))))) | exact .there _ (.there _ (.there _ (.there _ (.there _ (.there _ (.there _ (.there _ (.there _ (.there _ (.there _ (.here _))))))))))))
          replace hs := only2c hs
          refine c_loop (L0 := [(0, _), (2, _), (3, _), (9, _), (11, _), (12, _)]) (fun M w m => ∃ i : Nat, M = [(15, .int .i64 (i : Int))] ∧ s.now.length - i = m ∧ i ≤ s.now.length ∧ St ⟨w0, None_⟩ w [slB 5 (.slice e1 s.now.length fe1) s.now, diskA 78 83 5 3 p s]) (M0 := [(15, .int .i64 0)]) (⟨0, rfl, rfl, Nat.zero_le _, hs⟩) (hf.sub ⟨rfl, rfl, rfl, rfl, rfl, rfl, rfl, trivial⟩) ?_
          clear hf hs a
          rintro M m a w ⟨i, rfl, rfl, hi, hs⟩ hf
          refine wp_seq ?_
          refine wp_seq ?_
          refine wp_region_lit ?_
          refine s_m hf rfl ?_; clear hf a; intro a hf
          refine s_m hf rfl ?_; clear hf a; intro a hf
          refine s_v hf (x_bin (hf.eval rfl) (hf.eval rfl) (r_lt _ _ _ _)) ?_; clear hf a; intro a hf
          refine s_nil ?_
          refine then_n ?_
          refine c_cond hf rfl (fun hi6 => ?_) (fun hi6 => ?_)
          · simp only [decide_eq_true_eq, decide_eq_false_iff_not, Bool.not_eq_true', Bool.not_eq_false', Bool.not_eq_true, Int.not_lt, Int.not_le] at hi6
            have hlt : i < s.now.length := by omega
            have hwi := hw4 i
            rw [getD_get hlt] at hwi
            obtain ⟨e1, rfl⟩ := (hs.rdB (.here _) fun h => slB_rd).some (by omega)
            refine wp_skip ?_
            refine then_n ?_
            refine wp_seq ?_
            refine wp_block ?_
            refine wp_seq ?_
            refine wp_region_lit ?_
            refine s_a hf rfl ?_; clear hf a; intro a hf
            refine s_nil ?_
            refine then_n ?_
            refine c_join (N := 157) (L0 := [(0, _), (2, _), (3, _), (9, _), (11, _), (12, _), (15, _), (102, _), (103, _), (104, _)]) (fun M w => M = [(16, u8v s.now[i])] ∧ St ⟨w0, None_⟩ w [slB 5 (.slice (some e1) s.now.length fe1) s.now, diskA 78 83 5 3 p s]) (hf.sub ⟨rfl, rfl, rfl, rfl, rfl, rfl, rfl, rfl, rfl, rfl, trivial⟩) ?_ ?_
            · refine wp_seq ?_
              refine wp_region_lit ?_
              refine s_m hf rfl ?_; clear hf a; intro a hf
              refine s_m hf rfl ?_; clear hf a; intro a hf
              refine s_v hf (x_bin (hf.eval rfl) (hf.eval rfl) (r_ge _ _ _ _)) ?_; clear hf a; intro a hf
              refine s_m hf rfl ?_; clear hf a; intro a hf
              refine s_bool hf (k := 110) rfl (fun hg22_3 hf' => ?_) (fun hg22_3 hf' => ?_)
              · clear hf
                have hf := hf'
                clear hf'
                simp only [decide_eq_true_eq, decide_eq_false_iff_not] at hg22_3
                refine s_do hf (wanted_of hf rfl rfl rfl) (.value (x_move (hf.eval rfl) _) ?_); clear hf a; intro a hf
                refine s_do hf (wanted_of hf rfl rfl rfl) (.value (x_move (hf.eval rfl) _) ?_); clear hf a; intro a hf
                refine s_do hf (wanted_of hf rfl rfl rfl) (.value (x_move (hf.eval rfl) _) ?_); clear hf a; intro a hf
                refine s_do hf (wanted_of hf rfl rfl rfl) (.value (x_len Try.underlying22 (hf.eval rfl) _) ?_); clear hf a; intro a hf
                refine s_do hf (wanted_of hf rfl rfl rfl) (.value (x_bin (hf.eval rfl) (hf.eval rfl) (r_addi _ (by omega) (by omega)) _) ?_); clear hf a; intro a hf
                refine s_do hf (wanted_of hf rfl rfl rfl) (.value (x_bin (hf.eval rfl) (hf.eval rfl) (r_lt _ _ _ _) _) ?_); clear hf a; intro a hf
                refine s_v hf (x_pick_t (hf.eval rfl) (hf.eval rfl)) ?_; clear hf a; intro a hf
                refine s_nil ?_
                refine then_n ?_
                refine c_cond hf rfl (fun hi7 => ?_) (fun hi7 => ?_)
                · simp only [decide_eq_true_eq, decide_eq_false_iff_not, Bool.not_eq_true', Bool.not_eq_false', Bool.not_eq_true, Int.not_lt, Int.not_le] at hi7
                  rw [if_pos (by omega)] at hwi
                  obtain ⟨a2, rfl⟩ := hr2.some (by omega)
                  have hl9 : i - off.toNat < data.length := by omega
                  rw [getD_get hl9] at hwi
                  refine wp_region_lit ?_
                  refine s_m hf rfl ?_; clear hf a; intro a hf
                  refine s_m hf rfl ?_; clear hf a; intro a hf
                  refine s_m hf rfl ?_; clear hf a; intro a hf
                  refine s_v hf (x_bin (hf.eval rfl) (hf.eval rfl) (r_subi _ (by omega) (by omega))) ?_; clear hf a; intro a hf
                  replace hf := hf.now (k := 121) (v' := .int .i64 ((i - off.toNat : Nat) : Int)) rfl (by congr 1; omega)
                  refine s_v hf (x_indexAddr sl22 (hf.eval rfl) (hf.eval rfl) (by omega) (by omega)) ?_; clear hf a; intro a hf
                  refine s_r hf (x_loadB (i := ((i - off.toNat : Nat) : Int)) sc5 (hs.oldB hr2) (hf.eval rfl) (by simpa using hl9)) ?_; clear hf a; intro a hf
                  replace hf := hf.now (k := 123) (v' := u8v s.now[i]) rfl (by rw [hwi]; rfl)
                  refine s_a hf rfl ?_; clear hf a; intro a hf
                  refine s_nil ?_
                  refine then_n ?_
                  exact ⟨_, ⟨rfl, hs⟩, hf.sub ⟨rfl, rfl, rfl, rfl, rfl, rfl, rfl, rfl, rfl, rfl, rfl, trivial⟩⟩
                · simp only [decide_eq_true_eq, decide_eq_false_iff_not, Bool.not_eq_true', Bool.not_eq_false', Bool.not_eq_true, Int.not_lt, Int.not_le] at hi7
                  rw [if_neg (by omega)] at hwi
                  refine wp_seq ?_
                  refine wp_region_lit ?_
                  refine s_m hf rfl ?_; clear hf a; intro a hf
                  refine s_m hf rfl ?_; clear hf a; intro a hf
                  refine s_v hf (x_len Try.underlying22 (hf.eval rfl)) ?_; clear hf a; intro a hf
                  refine s_v hf (x_bin (hf.eval rfl) (hf.eval rfl) (r_lt _ _ _ _)) ?_; clear hf a; intro a hf
                  refine s_nil ?_
                  refine then_n ?_
                  refine c_cond hf rfl (fun hi8 => ?_) (fun hi8 => ?_)
                  · simp only [decide_eq_true_eq, decide_eq_false_iff_not, Bool.not_eq_true', Bool.not_eq_false', Bool.not_eq_true, Int.not_lt, Int.not_le] at hi8
                    have hl9 : i < image.length := by omega
                    obtain ⟨a1, rfl⟩ := hr1.some (by omega)
                    rw [getD_get hl9] at hwi
                    refine wp_region_lit ?_
                    refine s_m hf rfl ?_; clear hf a; intro a hf
                    refine s_m hf rfl ?_; clear hf a; intro a hf
                    refine s_v hf (x_indexAddr sl22 (hf.eval rfl) (hf.eval rfl) (by omega) (by omega)) ?_; clear hf a; intro a hf
                    refine s_r hf (x_loadB (i := (i : Int)) sc5 (hs.oldB hr1) (hf.eval rfl) (by simpa using hl9)) ?_; clear hf a; intro a hf
                    replace hf := hf.now (k := 131) (v' := u8v s.now[i]) rfl (by rw [hwi]; rfl)
                    refine s_a hf rfl ?_; clear hf a; intro a hf
                    refine s_nil ?_
                    refine then_n ?_
                    exact ⟨_, ⟨rfl, hs⟩, hf.sub ⟨rfl, rfl, rfl, rfl, rfl, rfl, rfl, rfl, rfl, rfl, rfl, trivial⟩⟩
                  · simp only [decide_eq_true_eq, decide_eq_false_iff_not, Bool.not_eq_true', Bool.not_eq_false', Bool.not_eq_true, Int.not_lt, Int.not_le] at hi8
                    replace hf := hf.now (k := 16) (v' := u8v s.now[i]) rfl (by rw [hwi, List.getD_eq_getElem?_getD, List.getElem?_eq_none (by omega)]; rfl)
                    refine wp_skip ?_
                    refine then_n ?_
                    exact ⟨_, ⟨rfl, hs⟩, hf.sub ⟨rfl, rfl, rfl, rfl, rfl, rfl, rfl, rfl, rfl, rfl, rfl, trivial⟩⟩
              · clear hf
                have hf := hf'
                clear hf'
                simp only [decide_eq_true_eq, decide_eq_false_iff_not] at hg22_3
                refine s_pass hf rfl rfl ?_; clear hf a; intro a hf
                refine s_pass hf rfl rfl ?_; clear hf a; intro a hf
                refine s_pass hf rfl rfl ?_; clear hf a; intro a hf
                refine s_pass hf rfl rfl ?_; clear hf a; intro a hf
                refine s_pass hf rfl rfl ?_; clear hf a; intro a hf
                refine s_pass hf rfl rfl ?_; clear hf a; intro a hf
                refine s_v hf (x_pick_f (hf.eval rfl) (hf.eval rfl)) ?_; clear hf a; intro a hf
                refine s_nil ?_
                refine then_n ?_
                refine c_cond_f hf rfl rfl ?_
                rw [if_neg (by omega)] at hwi
                refine wp_seq ?_
                refine wp_region_lit ?_
                refine s_m hf rfl ?_; clear hf a; intro a hf
                refine s_m hf rfl ?_; clear hf a; intro a hf
                refine s_v hf (x_len Try.underlying22 (hf.eval rfl)) ?_; clear hf a; intro a hf
                refine s_v hf (x_bin (hf.eval rfl) (hf.eval rfl) (r_lt _ _ _ _)) ?_; clear hf a; intro a hf
                refine s_nil ?_
                refine then_n ?_
                refine c_cond hf rfl (fun hi8 => ?_) (fun hi8 => ?_)
                · simp only [decide_eq_true_eq, decide_eq_false_iff_not, Bool.not_eq_true', Bool.not_eq_false', Bool.not_eq_true, Int.not_lt, Int.not_le] at hi8
                  have hl9 : i < image.length := by omega
                  obtain ⟨a1, rfl⟩ := hr1.some (by omega)
                  rw [getD_get hl9] at hwi
                  refine wp_region_lit ?_
                  refine s_m hf rfl ?_; clear hf a; intro a hf
                  refine s_m hf rfl ?_; clear hf a; intro a hf
                  refine s_v hf (x_indexAddr sl22 (hf.eval rfl) (hf.eval rfl) (by omega) (by omega)) ?_; clear hf a; intro a hf
                  refine s_r hf (x_loadB (i := (i : Int)) sc5 (hs.oldB hr1) (hf.eval rfl) (by simpa using hl9)) ?_; clear hf a; intro a hf
                  replace hf := hf.now (k := 131) (v' := u8v s.now[i]) rfl (by rw [hwi]; rfl)
                  refine s_a hf rfl ?_; clear hf a; intro a hf
                  refine s_nil ?_
                  refine then_n ?_
                  exact ⟨_, ⟨rfl, hs⟩, hf.sub ⟨rfl, rfl, rfl, rfl, rfl, rfl, rfl, rfl, rfl, rfl, rfl, trivial⟩⟩
                · simp only [decide_eq_true_eq, decide_eq_false_iff_not, Bool.not_eq_true', Bool.not_eq_false', Bool.not_eq_true, Int.not_lt, Int.not_le] at hi8
                  replace hf := hf.now (k := 16) (v' := u8v s.now[i]) rfl (by rw [hwi, List.getD_eq_getElem?_getD, List.getElem?_eq_none (by omega)]; rfl)
                  refine wp_skip ?_
                  refine then_n ?_
                  exact ⟨_, ⟨rfl, hs⟩, hf.sub ⟨rfl, rfl, rfl, rfl, rfl, rfl, rfl, rfl, rfl, rfl, rfl, trivial⟩⟩
            · clear hf hs a
              rintro M a w ⟨rfl, hs⟩ hf
              refine wp_seq ?_
              refine wp_region_lit ?_
              refine s_m hf rfl ?_; clear hf a; intro a hf
              refine s_m hf rfl ?_; clear hf a; intro a hf
              refine s_v hf (x_indexAddr sl22 (hf.eval rfl) (hf.eval rfl) (by omega) (by omega)) ?_; clear hf a; intro a hf
              refine s_r hf (x_loadB (i := (i : Int)) sc5 (hs.rdB (.here _) fun h => slB_rd) (hf.eval rfl) (by simpa using hlt)) ?_; clear hf a; intro a hf
              replace hf := hf.now (k := 135) (v' := u8v s.now[i]) rfl (rfl)
              refine s_m hf rfl ?_; clear hf a; intro a hf
              refine s_v hf (x_bin (hf.eval rfl) (hf.eval rfl) (r_ne _ _ _ _)) ?_; clear hf a; intro a hf
              refine s_nil ?_
              refine then_n ?_
              refine c_cond_f hf rfl (by simp) ?_
              refine wp_skip ?_
              refine blk_n ?_
              refine then_n ?_
              refine wp_region_lit ?_
              refine s_m hf rfl ?_; clear hf a; intro a hf
              refine s_v hf (x_bin (hf.eval rfl) (hf.eval rfl) (r_addi _ (by omega) (by omega))) ?_; clear hf a; intro a hf
              refine s_a hf rfl ?_; clear hf a; intro a hf
              refine s_nil ?_
              exact ⟨_, _, ⟨i + 1, rfl, rfl, by omega, hs⟩, by omega, hf.sub ⟨rfl, rfl, rfl, rfl, rfl, rfl, rfl, trivial⟩⟩
          · simp only [decide_eq_true_eq, decide_eq_false_iff_not, Bool.not_eq_true', Bool.not_eq_false', Bool.not_eq_true, Int.not_lt, Int.not_le] at hi6
            refine wp_exit ?_
            refine then_x ?_
            refine then_x ?_
            refine blk_x ?_
            refine then_n ?_
            refine wp_seq ?_
            refine wp_region_lit ?_
            refine s_m hf rfl ?_; clear hf a; intro a hf
            refine s_m hf rfl ?_; clear hf a; intro a hf
            replace hs := hs.take (A := diskA 78 83 5 3 p s) (by first | exact .here _ | exact .there _ (.here _) | exact .there _ (.there _ (.here _)) | exact .there _ (.there _ (.there _ (.here _))) | exact .there _ (.there _ (.there _ (.there _ (.here _)))) | exact .there _ (.there _ (.there _ (.there _ (.there _ (.here _))))) | exact .there _ (.there _ (.there _ (.there _ (.there _ (.there _ (.here _)))))) | exact .there _ (.there _ (.there _ (.there _ (.there _ (.there _ (.there _ (.here _))))))) | exact .there _ (.there _ (.there _ (.there _ (.there _ (.there _ (.there _ (.there _ (.here _)))))))) | exact .there _ (.there _ (.there _ (.there _ (.there _ (.there _ (.there _ (.there _ (.there _ (.here _))))))))) | exact .there _ (.there _ (.there _ (.there _ (.there _ (.there _ (.there _ (.there _ (.there _ (.there _ (.here _)))))))))) | exact .there _ (.there _ (.there _ (.there _ (.there _ (.there _ (.there _ (.there _ (.there _ (.there _ (.there _ (.here _))))))))))))
            refine s_do hf rfl (y_call (hf.eval rfl) (hf.evals rfl) Try.call31 ((dRead_spec _ _ _ p s hs s.now.length 1 (by omega)).mono ?_))
            rintro e w1 ⟨e3, fe3, rfl, hs⟩
            rw [show rdE s s.now.length 1 = 11 by unfold rdE; rw [if_neg (by simp [hw3]), if_neg (by omega), if_pos (by omega)]]
            refine ⟨_, rfl, ?_⟩; clear hf a; intro a hf
            refine s_m hf rfl ?_; clear hf a; intro a hf
            refine s_v hf (x_extract (hf.eval rfl) rfl) ?_; clear hf a; intro a hf
            refine s_v hf (x_extract (hf.eval rfl) rfl) ?_; clear hf a; intro a hf
            refine s_a hf rfl ?_; clear hf a; intro a hf
            refine s_a hf rfl ?_; clear hf a; intro a hf
            refine s_nil ?_
            refine then_n ?_
            refine wp_seq ?_
            refine wp_region_lit ?_
            refine s_m hf rfl ?_; clear hf a; intro a hf
            refine s_m hf rfl ?_; clear hf a; intro a hf
            replace hs := hs.take (A := diskA 78 83 5 3 p s) (by first | exact .here _ | exact .there _ (.here _) | exact .there _ (.there _ (.here _)) | exact .there _ (.there _ (.there _ (.here _))) | exact .there _ (.there _ (.there _ (.there _ (.here _)))) | exact .there _ (.there _ (.there _ (.there _ (.there _ (.here _))))) | exact .there _ (.there _ (.there _ (.there _ (.there _ (.there _ (.here _)))))) | exact .there _ (.there _ (.there _ (.there _ (.there _ (.there _ (.there _ (.here _))))))) | exact .there _ (.there _ (.there _ (.there _ (.there _ (.there _ (.there _ (.there _ (.here _)))))))) | exact .there _ (.there _ (.there _ (.there _ (.there _ (.there _ (.there _ (.there _ (.there _ (.here _))))))))) | exact .there _ (.there _ (.there _ (.there _ (.there _ (.there _ (.there _ (.there _ (.there _ (.there _ (.here _)))))))))) | exact .there _ (.there _ (.there _ (.there _ (.there _ (.there _ (.there _ (.there _ (.there _ (.there _ (.there _ (.here _))))))))))))
            refine s_do hf rfl (y_call (hf.eval rfl) (hf.evals rfl) Try.call31 ((dRead_spec _ _ _ p s hs s.now.length 0 (by omega)).mono ?_))
            rintro e w1 ⟨e4, fe4, rfl, hs⟩
            rw [show rdE s s.now.length 0 = 0 by unfold rdE; rw [if_neg (by simp [hw3]), if_neg (by omega), if_neg (by omega)]]
            refine ⟨_, rfl, ?_⟩; clear hf a; intro a hf
            refine s_m hf rfl ?_; clear hf a; intro a hf
            refine s_v hf (x_extract (hf.eval rfl) rfl) ?_; clear hf a; intro a hf
            refine s_v hf (x_extract (hf.eval rfl) rfl) ?_; clear hf a; intro a hf
            refine s_a hf rfl ?_; clear hf a; intro a hf
            refine s_a hf rfl ?_; clear hf a; intro a hf
            refine s_nil ?_
            refine then_n ?_
            refine wp_seq ?_
            refine wp_region_lit ?_
            refine s_m hf rfl ?_; clear hf a; intro a hf
            refine s_do hf rfl (y_call (hf.eval rfl) (hf.evals rfl) Try.call27 ((num_spec _ _).mono ?_))
            rintro e w1 ⟨rfl, rfl⟩
            refine ⟨_, rfl, ?_⟩; clear hf a; intro a hf
            refine s_v hf (x_bin (hf.eval rfl) (hf.eval rfl) (r_eq _ _ _ _)) ?_; clear hf a; intro a hf
            refine s_m hf rfl ?_; clear hf a; intro a hf
            replace hf := hf.now (k := 153) (v' := .bool true) rfl (congrArg Value.bool rfl)
            refine s_do hf (wanted_of hf rfl rfl rfl) (.value (x_move (hf.eval rfl) _) ?_); clear hf a; intro a hf
            refine s_do hf (wanted_of hf rfl rfl rfl) (.value (x_bin (hf.eval rfl) (hf.eval rfl) (r_eq _ _ _ _) _) ?_); clear hf a; intro a hf
            refine s_v hf (x_pick_t (hf.eval rfl) (hf.eval rfl)) ?_; clear hf a; intro a hf
            refine s_a hf rfl ?_; clear hf a; intro a hf
            refine s_nil ?_
            refine then_n ?_
            refine wp_ret ?_
            refine r_1 hf Try.results4 rfl ?_
            exact ⟨by simp, hs.kept⟩

end Go.Proofs.Ytjfnpbeehjhmbaa
