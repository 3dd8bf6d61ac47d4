/- The disk of the document: every call but Crash, as plain data. -/
import Derived.Test.YtjfnpbeehjhmbaaVO
import Derived.Test.YtjfnpbeehjhmbaaDk
import Derived.Test.YtjfnpbeehjhmbaaProg
import Derived.Test.YtjfnpbeehjhmbaaFacts
set_option maxRecDepth 100000
set_option linter.all false
namespace Go.Proofs.Ytjfnpbeehjhmbaa
open Go Vw
theorem carried_spec (σ : Sig) (w : World) (R : List Asrt) (p : Nat) (s : DS) (hs : St σ w (refA 90 94 5 3 p s :: R)) (hf1 : s.fuse ≤ 9223372036854775807) (hf0 : -1 ≤ s.fuse) (hcl : s.calls ≤ 4611686018427387904) : Calls Try.prog 69 #[.pointer (some ⟨p, 0, none⟩)] w fun e w' => e = .returned (.bool (decide (s.fuse ≠ 0))) ∧ St σ w' (refA 90 94 5 3 p (spent s) :: R) := by
  obtain ⟨⟨v1, v2, v3, v4, ps⟩, hps, hs⟩ := refA_open hs
  dsimp only at hps hs
  obtain ⟨a1, c1, rfl, hc1⟩ := slB_shape (hs.take (.there _ (.here _)))
  obtain ⟨a2, c2, rfl, hc2⟩ := slB_shape (hs.take (.there _ (.there _ (.here _))))
  obtain ⟨a3, c3, rfl⟩ := sl_shape (hs.take (.there _ (.there _ (.there _ (.here _)))))
  obtain ⟨a4, c4, rfl⟩ := sl_shape (hs.take (.there _ (.there _ (.there _ (.there _ (.there _ (.here _)))))))
  refine c_enter (N := 30) Try.func69 rfl Try.ntmps69 (by simp) ?_
  intro a hf
  refine wp_seq ?_
  refine wp_region_lit ?_
  refine s_a hf rfl ?_; clear hf a; intro a hf
  refine s_nil ?_
  refine then_n ?_
  refine wp_seq ?_
  refine wp_seq ?_
  refine wp_region_lit ?_
  refine s_m hf rfl ?_; clear hf a; intro a hf
  refine s_v hf (x_nilCheck (hf.eval rfl)) ?_; clear hf a; intro a hf
  refine s_v hf (x_fieldAddr fo90_6 (hf.eval rfl)) ?_; clear hf a; intro a hf
  refine s_r hf (x_load sc3 (hf.eval rfl) (by first | exact hs.cell (.here _) rfl | exact hs.cell (.there _ (.here _)) rfl | exact hs.cell (.there _ (.there _ (.here _))) rfl | exact hs.cell (.there _ (.there _ (.there _ (.here _)))) rfl | exact hs.cell (.there _ (.there _ (.there _ (.there _ (.here _))))) rfl | exact hs.cell (.there _ (.there _ (.there _ (.there _ (.there _ (.here _)))))) rfl)) ?_; clear hf a; intro a hf
  refine s_v hf (x_bin (hf.eval rfl) (hf.eval rfl) (r_eq _ _ _ _)) ?_; clear hf a; intro a hf
  refine s_nil ?_
  refine then_n ?_
  refine c_cond hf rfl (fun hi0 => ?_) (fun hi0 => ?_)
  · simp only [decide_eq_true_eq, decide_eq_false_iff_not, Bool.not_eq_true', Bool.not_eq_false', Bool.not_eq_true, Int.not_lt, Int.not_le] at hi0
    refine wp_seq ?_
    refine wp_region_lit ?_
    refine s_m hf rfl ?_; clear hf a; intro a hf
    refine s_v hf (x_nilCheck (hf.eval rfl)) ?_; clear hf a; intro a hf
    refine s_v hf (x_fieldAddr fo90_7 (hf.eval rfl)) ?_; clear hf a; intro a hf
    refine s_do0 hf rfl (y_store hs sc4 (hf.eval rfl) (hf.eval rfl) rfl (by first | exact .here _ | exact .there _ (.here _) | exact .there _ (.there _ (.here _)) | exact .there _ (.there _ (.there _ (.here _))) | exact .there _ (.there _ (.there _ (.there _ (.here _)))) | exact .there _ (.there _ (.there _ (.there _ (.there _ (.here _)))))) (by simp) ?_); clear hf hs a; intro w hs a hf
    refine s_nil ?_
    refine then_n ?_
    refine wp_seq ?_
    refine wp_region_lit ?_
    refine s_a hf rfl ?_; clear hf a; intro a hf
    refine s_nil ?_
    refine then_n ?_
    refine wp_ret ?_
    refine then_r ?_
    refine r_1 hf Try.results69 rfl ?_
    have hz : s.fuse = 0 := hi0
    refine ⟨by simp [hz], ?_⟩
    rw [spent_0 hz]
    exact refA_close (x := ⟨.slice a1 s.now.length c1, .slice a2 s.dur.length c2, .slice a3 ps.length c3, .slice a4 s.sizes.length c4, ps⟩) hps hs
  · simp only [decide_eq_true_eq, decide_eq_false_iff_not, Bool.not_eq_true', Bool.not_eq_false', Bool.not_eq_true, Int.not_lt, Int.not_le] at hi0
    refine wp_skip ?_
    refine then_n ?_
    refine wp_seq ?_
    refine wp_seq ?_
    refine wp_region_lit ?_
    refine s_m hf rfl ?_; clear hf a; intro a hf
    refine s_v hf (x_nilCheck (hf.eval rfl)) ?_; clear hf a; intro a hf
    refine s_v hf (x_fieldAddr fo90_6 (hf.eval rfl)) ?_; clear hf a; intro a hf
    refine s_r hf (x_load sc3 (hf.eval rfl) (by first | exact hs.cell (.here _) rfl | exact hs.cell (.there _ (.here _)) rfl | exact hs.cell (.there _ (.there _ (.here _))) rfl | exact hs.cell (.there _ (.there _ (.there _ (.here _)))) rfl | exact hs.cell (.there _ (.there _ (.there _ (.there _ (.here _))))) rfl | exact hs.cell (.there _ (.there _ (.there _ (.there _ (.there _ (.here _)))))) rfl)) ?_; clear hf a; intro a hf
    refine s_v hf (x_bin (hf.eval rfl) (hf.eval rfl) (r_gt _ _ _ _)) ?_; clear hf a; intro a hf
    refine s_nil ?_
    refine then_n ?_
    refine c_cond hf rfl (fun hi1 => ?_) (fun hi1 => ?_)
    · simp only [decide_eq_true_eq, decide_eq_false_iff_not, Bool.not_eq_true', Bool.not_eq_false', Bool.not_eq_true, Int.not_lt, Int.not_le] at hi1
      refine wp_region_lit ?_
      refine s_m hf rfl ?_; clear hf a; intro a hf
      refine s_v hf (x_nilCheck (hf.eval rfl)) ?_; clear hf a; intro a hf
      refine s_v hf (x_fieldAddr fo90_6 (hf.eval rfl)) ?_; clear hf a; intro a hf
      refine s_r hf (x_load sc3 (hf.eval rfl) (by first | exact hs.cell (.here _) rfl | exact hs.cell (.there _ (.here _)) rfl | exact hs.cell (.there _ (.there _ (.here _))) rfl | exact hs.cell (.there _ (.there _ (.there _ (.here _)))) rfl | exact hs.cell (.there _ (.there _ (.there _ (.there _ (.here _))))) rfl | exact hs.cell (.there _ (.there _ (.there _ (.there _ (.there _ (.here _)))))) rfl)) ?_; clear hf a; intro a hf
      refine s_v hf (x_bin (hf.eval rfl) (hf.eval rfl) (r_subi _ (by omega) (by omega))) ?_; clear hf a; intro a hf
      refine s_v hf (x_nilCheck (hf.eval rfl)) ?_; clear hf a; intro a hf
      refine s_v hf (x_fieldAddr fo90_6 (hf.eval rfl)) ?_; clear hf a; intro a hf
      refine s_do0 hf rfl (y_store hs sc3 (hf.eval rfl) (hf.eval rfl) rfl (by first | exact .here _ | exact .there _ (.here _) | exact .there _ (.there _ (.here _)) | exact .there _ (.there _ (.there _ (.here _))) | exact .there _ (.there _ (.there _ (.there _ (.here _)))) | exact .there _ (.there _ (.there _ (.there _ (.there _ (.here _)))))) (by simp) ?_); clear hf hs a; intro w hs a hf
      refine s_nil ?_
      refine then_n ?_
      refine wp_seq ?_
      refine wp_region_lit ?_
      refine s_m hf rfl ?_; clear hf a; intro a hf
      refine s_v hf (x_nilCheck (hf.eval rfl)) ?_; clear hf a; intro a hf
      refine s_v hf (x_fieldAddr fo90_5 (hf.eval rfl)) ?_; clear hf a; intro a hf
      refine s_r hf (x_load sc3 (hf.eval rfl) (by first | exact hs.cell (.here _) rfl | exact hs.cell (.there _ (.here _)) rfl | exact hs.cell (.there _ (.there _ (.here _))) rfl | exact hs.cell (.there _ (.there _ (.there _ (.here _)))) rfl | exact hs.cell (.there _ (.there _ (.there _ (.there _ (.here _))))) rfl | exact hs.cell (.there _ (.there _ (.there _ (.there _ (.there _ (.here _)))))) rfl)) ?_; clear hf a; intro a hf
      refine s_v hf (x_bin (hf.eval rfl) (hf.eval rfl) (r_addi _ (by omega) (by omega))) ?_; clear hf a; intro a hf
      replace hf := hf.now (k := 27) (v' := .int .i64 ((s.calls + 1 : Nat) : Int)) rfl (by push_cast; rfl)
      refine s_v hf (x_nilCheck (hf.eval rfl)) ?_; clear hf a; intro a hf
      refine s_v hf (x_fieldAddr fo90_5 (hf.eval rfl)) ?_; clear hf a; intro a hf
      refine s_do0 hf rfl (y_store hs sc3 (hf.eval rfl) (hf.eval rfl) rfl (by first | exact .here _ | exact .there _ (.here _) | exact .there _ (.there _ (.here _)) | exact .there _ (.there _ (.there _ (.here _))) | exact .there _ (.there _ (.there _ (.there _ (.here _)))) | exact .there _ (.there _ (.there _ (.there _ (.there _ (.here _)))))) (by simp) ?_); clear hf hs a; intro w hs a hf
      refine s_nil ?_
      refine then_n ?_
      refine wp_seq ?_
      refine wp_region_lit ?_
      refine s_a hf rfl ?_; clear hf a; intro a hf
      refine s_nil ?_
      refine then_n ?_
      refine wp_ret ?_
      refine r_1 hf Try.results69 rfl ?_
      refine ⟨by simp; omega, ?_⟩
      first | rw [spent_pos (show 0 < s.fuse by omega)] | rw [spent_neg (show s.fuse < 0 by omega)]
      exact refA_close (x := ⟨.slice a1 s.now.length c1, .slice a2 s.dur.length c2, .slice a3 ps.length c3, .slice a4 s.sizes.length c4, ps⟩) hps hs
    · simp only [decide_eq_true_eq, decide_eq_false_iff_not, Bool.not_eq_true', Bool.not_eq_false', Bool.not_eq_true, Int.not_lt, Int.not_le] at hi1
      refine wp_skip ?_
      refine then_n ?_
      refine wp_seq ?_
      refine wp_region_lit ?_
      refine s_m hf rfl ?_; clear hf a; intro a hf
      refine s_v hf (x_nilCheck (hf.eval rfl)) ?_; clear hf a; intro a hf
      refine s_v hf (x_fieldAddr fo90_5 (hf.eval rfl)) ?_; clear hf a; intro a hf
      refine s_r hf (x_load sc3 (hf.eval rfl) (by first | exact hs.cell (.here _) rfl | exact hs.cell (.there _ (.here _)) rfl | exact hs.cell (.there _ (.there _ (.here _))) rfl | exact hs.cell (.there _ (.there _ (.there _ (.here _)))) rfl | exact hs.cell (.there _ (.there _ (.there _ (.there _ (.here _))))) rfl | exact hs.cell (.there _ (.there _ (.there _ (.there _ (.there _ (.here _)))))) rfl)) ?_; clear hf a; intro a hf
      refine s_v hf (x_bin (hf.eval rfl) (hf.eval rfl) (r_addi _ (by omega) (by omega))) ?_; clear hf a; intro a hf
      replace hf := hf.now (k := 27) (v' := .int .i64 ((s.calls + 1 : Nat) : Int)) rfl (by push_cast; rfl)
      refine s_v hf (x_nilCheck (hf.eval rfl)) ?_; clear hf a; intro a hf
      refine s_v hf (x_fieldAddr fo90_5 (hf.eval rfl)) ?_; clear hf a; intro a hf
      refine s_do0 hf rfl (y_store hs sc3 (hf.eval rfl) (hf.eval rfl) rfl (by first | exact .here _ | exact .there _ (.here _) | exact .there _ (.there _ (.here _)) | exact .there _ (.there _ (.there _ (.here _))) | exact .there _ (.there _ (.there _ (.there _ (.here _)))) | exact .there _ (.there _ (.there _ (.there _ (.there _ (.here _)))))) (by simp) ?_); clear hf hs a; intro w hs a hf
      refine s_nil ?_
      refine then_n ?_
      refine wp_seq ?_
      refine wp_region_lit ?_
      refine s_a hf rfl ?_; clear hf a; intro a hf
      refine s_nil ?_
      refine then_n ?_
      refine wp_ret ?_
      refine r_1 hf Try.results69 rfl ?_
      refine ⟨by simp; omega, ?_⟩
      first | rw [spent_pos (show 0 < s.fuse by omega)] | rw [spent_neg (show s.fuse < 0 by omega)]
      exact refA_close (x := ⟨.slice a1 s.now.length c1, .slice a2 s.dur.length c2, .slice a3 ps.length c3, .slice a4 s.sizes.length c4, ps⟩) hps hs

theorem rFuse_spec (σ : Sig) (w : World) (R : List Asrt) (p : Nat) (s : DS) (hs : St σ w (refA 90 94 5 3 p s :: R)) (n : Int) : Calls Try.prog 61 #[.pointer (some ⟨p, 0, none⟩), .int .i64 n] w fun e w' => e = .returned (.tuple #[]) ∧ St σ w' (refA 90 94 5 3 p (fuS s n) :: R) := by
  obtain ⟨⟨v1, v2, v3, v4, ps⟩, hps, hs⟩ := refA_open hs
  dsimp only at hps hs
  obtain ⟨a1, c1, rfl, hc1⟩ := slB_shape (hs.take (.there _ (.here _)))
  obtain ⟨a2, c2, rfl, hc2⟩ := slB_shape (hs.take (.there _ (.there _ (.here _))))
  obtain ⟨a3, c3, rfl⟩ := sl_shape (hs.take (.there _ (.there _ (.there _ (.here _)))))
  obtain ⟨a4, c4, rfl⟩ := sl_shape (hs.take (.there _ (.there _ (.there _ (.there _ (.there _ (.here _)))))))
  refine c_enter (N := 22) Try.func61 rfl Try.ntmps61 (by simp) ?_
  intro a hf
  refine wp_seq ?_
  refine wp_seq ?_
  refine wp_region_lit ?_
  refine s_m hf rfl ?_; clear hf a; intro a hf
  refine s_v hf (x_eqNil Try.underlying24 (hf.eval rfl) (hf.eval rfl)) ?_; clear hf a; intro a hf
  replace hf := hf.now (k := 5) (v' := .bool false) rfl rfl
  refine s_m hf rfl ?_; clear hf a; intro a hf
  refine s_do hf (wanted_of hf rfl rfl rfl) (.value (x_move (hf.eval rfl) _) ?_); clear hf a; intro a hf
  refine s_do hf (wanted_of hf rfl rfl rfl) (.value (x_nilCheck (hf.eval rfl) _) ?_); clear hf a; intro a hf
  refine s_do hf (wanted_of hf rfl rfl rfl) (.value (x_fieldAddr fo90_7 (hf.eval rfl) _) ?_); clear hf a; intro a hf
  refine s_do hf (wanted_of hf rfl rfl rfl) (.value (x_load sc4 (hf.eval rfl) (by first | exact hs.cell (.here _) rfl | exact hs.cell (.there _ (.here _)) rfl | exact hs.cell (.there _ (.there _ (.here _))) rfl | exact hs.cell (.there _ (.there _ (.there _ (.here _)))) rfl | exact hs.cell (.there _ (.there _ (.there _ (.there _ (.here _))))) rfl | exact hs.cell (.there _ (.there _ (.there _ (.there _ (.there _ (.here _)))))) rfl)) ?_); clear hf a; intro a hf
  refine s_do hf (wanted_of hf rfl rfl rfl) (.value (x_not (hf.eval rfl) _) ?_); clear hf a; intro a hf
  refine s_v hf (x_pick_f (hf.eval rfl) (hf.eval rfl)) ?_; clear hf a; intro a hf
  refine s_nil ?_
  refine then_n ?_
  refine c_cond hf rfl (fun hi0 => ?_) (fun hi0 => ?_)
  · simp only [Bool.not_eq_true', Bool.not_eq_false', Bool.not_not] at hi0
    refine wp_ret ?_
    refine then_r ?_
    refine r_0 hf Try.results61 ?_
    have e : fuS s n = s := by unfold fuS; rw [if_pos hi0]
    rw [e]
    exact ⟨rfl, refA_close (x := ⟨_, _, _, _, ps⟩) hps hs⟩
  · simp only [Bool.not_eq_true', Bool.not_eq_false', Bool.not_not] at hi0
    refine wp_skip ?_
    refine then_n ?_
    refine wp_seq ?_
    refine wp_region_lit ?_
    refine s_m hf rfl ?_; clear hf a; intro a hf
    refine s_m hf rfl ?_; clear hf a; intro a hf
    refine s_v hf (x_nilCheck (hf.eval rfl)) ?_; clear hf a; intro a hf
    refine s_v hf (x_fieldAddr fo90_6 (hf.eval rfl)) ?_; clear hf a; intro a hf
    refine s_do0 hf rfl (y_store hs sc3 (hf.eval rfl) (hf.eval rfl) rfl (by first | exact .here _ | exact .there _ (.here _) | exact .there _ (.there _ (.here _)) | exact .there _ (.there _ (.there _ (.here _))) | exact .there _ (.there _ (.there _ (.there _ (.here _)))) | exact .there _ (.there _ (.there _ (.there _ (.there _ (.here _)))))) (by simp) ?_); clear hf hs a; intro w hs a hf
    refine s_nil ?_
    refine then_n ?_
    refine wp_seq ?_
    refine wp_region_lit ?_
    refine s_m hf rfl ?_; clear hf a; intro a hf
    refine s_v hf (x_bin (hf.eval rfl) (hf.eval rfl) (r_lt _ _ _ _)) ?_; clear hf a; intro a hf
    refine s_nil ?_
    refine then_n ?_
    refine c_cond hf rfl (fun hi1 => ?_) (fun hi1 => ?_)
    · simp only [decide_eq_true_eq, decide_eq_false_iff_not, Bool.not_eq_true', Bool.not_eq_false', Bool.not_eq_true, Int.not_lt, Int.not_le] at hi1
      refine wp_region_lit ?_
      refine s_m hf rfl ?_; clear hf a; intro a hf
      refine s_v hf (x_nilCheck (hf.eval rfl)) ?_; clear hf a; intro a hf
      refine s_v hf (x_fieldAddr fo90_6 (hf.eval rfl)) ?_; clear hf a; intro a hf
      refine s_do0 hf rfl (y_store hs sc3 (hf.eval rfl) (hf.eval rfl) rfl (by first | exact .here _ | exact .there _ (.here _) | exact .there _ (.there _ (.here _)) | exact .there _ (.there _ (.there _ (.here _))) | exact .there _ (.there _ (.there _ (.there _ (.here _)))) | exact .there _ (.there _ (.there _ (.there _ (.there _ (.here _)))))) (by simp) ?_); clear hf hs a; intro w hs a hf
      refine s_nil ?_
      refine r_0n hf Try.results61 ?_
      have e : fuS s n = { s with fuse := max n (-1) } := by unfold fuS; rw [if_neg (by simp [hi0])]
      rw [e]
      first | rw [show max n (-1) = -1 by omega] | rw [show max n (-1) = n by omega]
      exact ⟨rfl, refA_close (x := ⟨.slice a1 s.now.length c1, .slice a2 s.dur.length c2, .slice a3 ps.length c3, .slice a4 s.sizes.length c4, ps⟩) hps hs⟩
    · simp only [decide_eq_true_eq, decide_eq_false_iff_not, Bool.not_eq_true', Bool.not_eq_false', Bool.not_eq_true, Int.not_lt, Int.not_le] at hi1
      refine wp_skip ?_
      refine r_0n hf Try.results61 ?_
      have e : fuS s n = { s with fuse := max n (-1) } := by unfold fuS; rw [if_neg (by simp [hi0])]
      rw [e]
      first | rw [show max n (-1) = -1 by omega] | rw [show max n (-1) = n by omega]
      exact ⟨rfl, refA_close (x := ⟨.slice a1 s.now.length c1, .slice a2 s.dur.length c2, .slice a3 ps.length c3, .slice a4 s.sizes.length c4, ps⟩) hps hs⟩

theorem rSize_spec (σ : Sig) (w : World) (R : List Asrt) (p : Nat) (s : DS) (hs : St σ w (refA 90 94 5 3 p s :: R)) : Calls Try.prog 65 #[.pointer (some ⟨p, 0, none⟩)] w fun e w' => e = .returned (.int .i64 (s.now.length : Int)) ∧ w' = w := by
  obtain ⟨⟨v1, v2, v3, v4, ps⟩, hps, hs⟩ := refA_open hs
  dsimp only at hps hs
  obtain ⟨a1, c1, rfl, hc1⟩ := slB_shape (hs.take (.there _ (.here _)))
  obtain ⟨a2, c2, rfl, hc2⟩ := slB_shape (hs.take (.there _ (.there _ (.here _))))
  obtain ⟨a3, c3, rfl⟩ := sl_shape (hs.take (.there _ (.there _ (.there _ (.here _)))))
  obtain ⟨a4, c4, rfl⟩ := sl_shape (hs.take (.there _ (.there _ (.there _ (.there _ (.there _ (.here _)))))))
  refine c_enter (N := 10) Try.func65 rfl Try.ntmps65 (by simp) ?_
  intro a hf
  refine wp_seq ?_
  refine wp_region_lit ?_
  refine s_a hf rfl ?_; clear hf a; intro a hf
  refine s_nil ?_
  refine then_n ?_
  refine wp_seq ?_
  refine wp_seq ?_
  refine wp_region_lit ?_
  refine s_m hf rfl ?_; clear hf a; intro a hf
  refine s_v hf (x_eqNil Try.underlying24 (hf.eval rfl) (hf.eval rfl)) ?_; clear hf a; intro a hf
  replace hf := hf.now (k := 4) (v' := .bool false) rfl rfl
  refine s_nil ?_
  refine then_n ?_
  refine c_cond_f hf rfl rfl ?_
  refine wp_skip ?_
  refine then_n ?_
  refine wp_seq ?_
  refine wp_region_lit ?_
  refine s_m hf rfl ?_; clear hf a; intro a hf
  refine s_v hf (x_nilCheck (hf.eval rfl)) ?_; clear hf a; intro a hf
  refine s_v hf (x_fieldAddr fo90_1 (hf.eval rfl)) ?_; clear hf a; intro a hf
  refine s_r hf (x_load sc22 (hf.eval rfl) (by first | exact hs.cell (.here _) rfl | exact hs.cell (.there _ (.here _)) rfl | exact hs.cell (.there _ (.there _ (.here _))) rfl | exact hs.cell (.there _ (.there _ (.there _ (.here _)))) rfl | exact hs.cell (.there _ (.there _ (.there _ (.there _ (.here _))))) rfl | exact hs.cell (.there _ (.there _ (.there _ (.there _ (.there _ (.here _)))))) rfl)) ?_; clear hf a; intro a hf
  refine s_v hf (x_len Try.underlying22 (hf.eval rfl)) ?_; clear hf a; intro a hf
  refine s_a hf rfl ?_; clear hf a; intro a hf
  refine s_nil ?_
  refine then_n ?_
  refine wp_ret ?_
  refine r_1 hf Try.results65 rfl ?_
  exact ⟨rfl, rfl⟩

theorem rCapacity_spec (σ : Sig) (w : World) (R : List Asrt) (p : Nat) (s : DS) (hs : St σ w (refA 90 94 5 3 p s :: R)) : Calls Try.prog 66 #[.pointer (some ⟨p, 0, none⟩)] w fun e w' => e = .returned (.int .i64 s.room) ∧ w' = w := by
  obtain ⟨⟨v1, v2, v3, v4, ps⟩, hps, hs⟩ := refA_open hs
  dsimp only at hps hs
  obtain ⟨a1, c1, rfl, hc1⟩ := slB_shape (hs.take (.there _ (.here _)))
  obtain ⟨a2, c2, rfl, hc2⟩ := slB_shape (hs.take (.there _ (.there _ (.here _))))
  obtain ⟨a3, c3, rfl⟩ := sl_shape (hs.take (.there _ (.there _ (.there _ (.here _)))))
  obtain ⟨a4, c4, rfl⟩ := sl_shape (hs.take (.there _ (.there _ (.there _ (.there _ (.there _ (.here _)))))))
  refine c_enter (N := 9) Try.func66 rfl Try.ntmps66 (by simp) ?_
  intro a hf
  refine wp_seq ?_
  refine wp_region_lit ?_
  refine s_a hf rfl ?_; clear hf a; intro a hf
  refine s_nil ?_
  refine then_n ?_
  refine wp_seq ?_
  refine wp_seq ?_
  refine wp_region_lit ?_
  refine s_m hf rfl ?_; clear hf a; intro a hf
  refine s_v hf (x_eqNil Try.underlying24 (hf.eval rfl) (hf.eval rfl)) ?_; clear hf a; intro a hf
  replace hf := hf.now (k := 4) (v' := .bool false) rfl rfl
  refine s_nil ?_
  refine then_n ?_
  refine c_cond_f hf rfl rfl ?_
  refine wp_skip ?_
  refine then_n ?_
  refine wp_seq ?_
  refine wp_region_lit ?_
  refine s_m hf rfl ?_; clear hf a; intro a hf
  refine s_v hf (x_nilCheck (hf.eval rfl)) ?_; clear hf a; intro a hf
  refine s_v hf (x_fieldAddr fo90_0 (hf.eval rfl)) ?_; clear hf a; intro a hf
  refine s_r hf (x_load sc3 (hf.eval rfl) (by first | exact hs.cell (.here _) rfl | exact hs.cell (.there _ (.here _)) rfl | exact hs.cell (.there _ (.there _ (.here _))) rfl | exact hs.cell (.there _ (.there _ (.there _ (.here _)))) rfl | exact hs.cell (.there _ (.there _ (.there _ (.there _ (.here _))))) rfl | exact hs.cell (.there _ (.there _ (.there _ (.there _ (.there _ (.here _)))))) rfl)) ?_; clear hf a; intro a hf
  refine s_a hf rfl ?_; clear hf a; intro a hf
  refine s_nil ?_
  refine then_n ?_
  refine wp_ret ?_
  refine r_1 hf Try.results66 rfl ?_
  exact ⟨rfl, rfl⟩

theorem rCalls_spec (σ : Sig) (w : World) (R : List Asrt) (p : Nat) (s : DS) (hs : St σ w (refA 90 94 5 3 p s :: R)) : Calls Try.prog 67 #[.pointer (some ⟨p, 0, none⟩)] w fun e w' => e = .returned (.int .i64 (s.calls : Int)) ∧ w' = w := by
  obtain ⟨⟨v1, v2, v3, v4, ps⟩, hps, hs⟩ := refA_open hs
  dsimp only at hps hs
  obtain ⟨a1, c1, rfl, hc1⟩ := slB_shape (hs.take (.there _ (.here _)))
  obtain ⟨a2, c2, rfl, hc2⟩ := slB_shape (hs.take (.there _ (.there _ (.here _))))
  obtain ⟨a3, c3, rfl⟩ := sl_shape (hs.take (.there _ (.there _ (.there _ (.here _)))))
  obtain ⟨a4, c4, rfl⟩ := sl_shape (hs.take (.there _ (.there _ (.there _ (.there _ (.there _ (.here _)))))))
  refine c_enter (N := 9) Try.func67 rfl Try.ntmps67 (by simp) ?_
  intro a hf
  refine wp_seq ?_
  refine wp_region_lit ?_
  refine s_a hf rfl ?_; clear hf a; intro a hf
  refine s_nil ?_
  refine then_n ?_
  refine wp_seq ?_
  refine wp_seq ?_
  refine wp_region_lit ?_
  refine s_m hf rfl ?_; clear hf a; intro a hf
  refine s_v hf (x_eqNil Try.underlying24 (hf.eval rfl) (hf.eval rfl)) ?_; clear hf a; intro a hf
  replace hf := hf.now (k := 4) (v' := .bool false) rfl rfl
  refine s_nil ?_
  refine then_n ?_
  refine c_cond_f hf rfl rfl ?_
  refine wp_skip ?_
  refine then_n ?_
  refine wp_seq ?_
  refine wp_region_lit ?_
  refine s_m hf rfl ?_; clear hf a; intro a hf
  refine s_v hf (x_nilCheck (hf.eval rfl)) ?_; clear hf a; intro a hf
  refine s_v hf (x_fieldAddr fo90_5 (hf.eval rfl)) ?_; clear hf a; intro a hf
  refine s_r hf (x_load sc3 (hf.eval rfl) (by first | exact hs.cell (.here _) rfl | exact hs.cell (.there _ (.here _)) rfl | exact hs.cell (.there _ (.there _ (.here _))) rfl | exact hs.cell (.there _ (.there _ (.there _ (.here _)))) rfl | exact hs.cell (.there _ (.there _ (.there _ (.there _ (.here _))))) rfl | exact hs.cell (.there _ (.there _ (.there _ (.there _ (.there _ (.here _)))))) rfl)) ?_; clear hf a; intro a hf
  refine s_a hf rfl ?_; clear hf a; intro a hf
  refine s_nil ?_
  refine then_n ?_
  refine wp_ret ?_
  refine r_1 hf Try.results67 rfl ?_
  exact ⟨rfl, rfl⟩

theorem rAlive_spec (σ : Sig) (w : World) (R : List Asrt) (p : Nat) (s : DS) (hs : St σ w (refA 90 94 5 3 p s :: R)) : Calls Try.prog 68 #[.pointer (some ⟨p, 0, none⟩)] w fun e w' => e = .returned (.bool (!s.dead)) ∧ w' = w := by
  obtain ⟨⟨v1, v2, v3, v4, ps⟩, hps, hs⟩ := refA_open hs
  dsimp only at hps hs
  obtain ⟨a1, c1, rfl, hc1⟩ := slB_shape (hs.take (.there _ (.here _)))
  obtain ⟨a2, c2, rfl, hc2⟩ := slB_shape (hs.take (.there _ (.there _ (.here _))))
  obtain ⟨a3, c3, rfl⟩ := sl_shape (hs.take (.there _ (.there _ (.there _ (.here _)))))
  obtain ⟨a4, c4, rfl⟩ := sl_shape (hs.take (.there _ (.there _ (.there _ (.there _ (.there _ (.here _)))))))
  refine c_enter (N := 11) Try.func68 rfl Try.ntmps68 (by simp) ?_
  intro a hf
  refine wp_seq ?_
  refine wp_region_lit ?_
  refine s_a hf rfl ?_; clear hf a; intro a hf
  refine s_nil ?_
  refine then_n ?_
  refine wp_seq ?_
  refine wp_region_lit ?_
  refine s_m hf rfl ?_; clear hf a; intro a hf
  refine s_v hf (x_neNil Try.underlying24 (hf.eval rfl) (hf.eval rfl)) ?_; clear hf a; intro a hf
  replace hf := hf.now (k := 4) (v' := .bool true) rfl rfl
  refine s_m hf rfl ?_; clear hf a; intro a hf
  refine s_do hf (wanted_of hf rfl rfl rfl) (.value (x_move (hf.eval rfl) _) ?_); clear hf a; intro a hf
  refine s_do hf (wanted_of hf rfl rfl rfl) (.value (x_nilCheck (hf.eval rfl) _) ?_); clear hf a; intro a hf
  refine s_do hf (wanted_of hf rfl rfl rfl) (.value (x_fieldAddr fo90_7 (hf.eval rfl) _) ?_); clear hf a; intro a hf
  refine s_do hf (wanted_of hf rfl rfl rfl) (.value (x_load sc4 (hf.eval rfl) (by first | exact hs.cell (.here _) rfl | exact hs.cell (.there _ (.here _)) rfl | exact hs.cell (.there _ (.there _ (.here _))) rfl | exact hs.cell (.there _ (.there _ (.there _ (.here _)))) rfl | exact hs.cell (.there _ (.there _ (.there _ (.there _ (.here _))))) rfl | exact hs.cell (.there _ (.there _ (.there _ (.there _ (.there _ (.here _)))))) rfl)) ?_); clear hf a; intro a hf
  refine s_v hf (x_pick_t (hf.eval rfl) (hf.eval rfl)) ?_; clear hf a; intro a hf
  refine s_a hf rfl ?_; clear hf a; intro a hf
  refine s_nil ?_
  refine then_n ?_
  refine wp_ret ?_
  refine r_1 hf Try.results68 rfl ?_
  exact ⟨rfl, rfl⟩

theorem rImage_spec (σ : Sig) (w : World) (R : List Asrt) (p : Nat) (s : DS) (hs : St σ w (refA 90 94 5 3 p s :: R)) (hn : s.now.length ≤ 140737488351232) : Calls Try.prog 49 #[.pointer (some ⟨p, 0, none⟩)] w fun e w' => ∃ a c, e = .returned (.slice a s.now.length c) ∧ St σ w' (slB 5 (.slice a s.now.length c) s.now :: refA 90 94 5 3 p s :: R) := by
  obtain ⟨⟨v1, v2, v3, v4, ps⟩, hps, hs⟩ := refA_open hs
  dsimp only at hps hs
  obtain ⟨a1, c1, rfl, hc1⟩ := slB_shape (hs.take (.there _ (.here _)))
  obtain ⟨a2, c2, rfl, hc2⟩ := slB_shape (hs.take (.there _ (.there _ (.here _))))
  obtain ⟨a3, c3, rfl⟩ := sl_shape (hs.take (.there _ (.there _ (.there _ (.here _)))))
  obtain ⟨a4, c4, rfl⟩ := sl_shape (hs.take (.there _ (.there _ (.there _ (.there _ (.there _ (.here _)))))))
  refine c_enter (N := 10) Try.func49 rfl Try.ntmps49 (by simp) ?_
  intro a hf
  refine wp_seq ?_
  refine wp_region_lit ?_
  refine s_a hf rfl ?_; clear hf a; intro a hf
  refine s_nil ?_
  refine then_n ?_
  refine wp_seq ?_
  refine wp_seq ?_
  refine wp_region_lit ?_
  refine s_m hf rfl ?_; clear hf a; intro a hf
  refine s_v hf (x_eqNil Try.underlying24 (hf.eval rfl) (hf.eval rfl)) ?_; clear hf a; intro a hf
  replace hf := hf.now (k := 4) (v' := .bool false) rfl rfl
  refine s_nil ?_
  refine then_n ?_
  refine c_cond_f hf rfl rfl ?_
  refine wp_skip ?_
  refine then_n ?_
  refine wp_seq ?_
  refine wp_region_lit ?_
  refine s_m hf rfl ?_; clear hf a; intro a hf
  refine s_v hf (x_nilCheck (hf.eval rfl)) ?_; clear hf a; intro a hf
  refine s_v hf (x_fieldAddr fo90_1 (hf.eval rfl)) ?_; clear hf a; intro a hf
  refine s_r hf (x_load sc22 (hf.eval rfl) (by first | exact hs.cell (.here _) rfl | exact hs.cell (.there _ (.here _)) rfl | exact hs.cell (.there _ (.there _ (.here _))) rfl | exact hs.cell (.there _ (.there _ (.there _ (.here _)))) rfl | exact hs.cell (.there _ (.there _ (.there _ (.there _ (.here _))))) rfl | exact hs.cell (.there _ (.there _ (.there _ (.there _ (.there _ (.here _)))))) rfl)) ?_; clear hf a; intro a hf
  refine s_do hf rfl (y_call (hf.eval rfl) (hf.evals rfl) Try.call63 ((rclone_spec _ _ _ s.now (hs.rdB (.there _ (.here _)) fun h => slB_rd) (by omega)).mono ?_))
  rintro e w1 ⟨e1, fe1, rfl, hj⟩
  replace hs := hs.join hj
  simp only [List.cons_append, List.nil_append] at hs
  refine ⟨_, rfl, ?_⟩; clear hf a; intro a hf
  refine s_a hf rfl ?_; clear hf a; intro a hf
  refine s_nil ?_
  refine then_n ?_
  refine wp_ret ?_
  refine r_1 hf Try.results49 rfl ?_
  refine ⟨_, _, rfl, ?_⟩
  exact (refA_close (s := s) (x := ⟨_, _, _, _, ps⟩) (R := slB 5 _ s.now :: R) hps (St.give (L := _) hs (.there _ (.there _ (.there _ (.there _ (.there _ (.there _ (.here _))))))))).take (.there _ (.here _))

theorem rRead_spec (σ : Sig) (w : World) (R : List Asrt) (p : Nat) (s : DS) (hs : St σ w (refA 90 94 5 3 p s :: R)) (off n : Int) (hn : s.now.length ≤ 16777216) : Calls Try.prog 64 #[.pointer (some ⟨p, 0, none⟩), .int .i64 off, .int .i64 n] w fun e w' => ∃ a c, e = .returned (.tuple #[.slice a (rdV s off n).length c, .int .i64 (rdE s off n)]) ∧ St σ w' (slB 5 (.slice a (rdV s off n).length c) (rdV s off n) :: refA 90 94 5 3 p s :: R) := by
  obtain ⟨⟨v1, v2, v3, v4, ps⟩, hps, hs⟩ := refA_open hs
  dsimp only at hps hs
  obtain ⟨a1, c1, rfl, hc1⟩ := slB_shape (hs.take (.there _ (.here _)))
  obtain ⟨a2, c2, rfl, hc2⟩ := slB_shape (hs.take (.there _ (.there _ (.here _))))
  obtain ⟨a3, c3, rfl⟩ := sl_shape (hs.take (.there _ (.there _ (.there _ (.here _)))))
  obtain ⟨a4, c4, rfl⟩ := sl_shape (hs.take (.there _ (.there _ (.there _ (.there _ (.there _ (.here _)))))))
  refine c_enter (N := 49) Try.func64 rfl Try.ntmps64 (by simp) ?_
  intro a hf
  refine wp_seq ?_
  refine wp_region_lit ?_
  refine s_a hf rfl ?_; clear hf a; intro a hf
  refine s_a hf rfl ?_; clear hf a; intro a hf
  refine s_nil ?_
  refine then_n ?_
  refine wp_seq ?_
  refine wp_seq ?_
  refine wp_region_lit ?_
  refine s_m hf rfl ?_; clear hf a; intro a hf
  refine s_v hf (x_eqNil Try.underlying24 (hf.eval rfl) (hf.eval rfl)) ?_; clear hf a; intro a hf
  replace hf := hf.now (k := 9) (v' := .bool false) rfl rfl
  refine s_nil ?_
  refine then_n ?_
  refine c_cond_f hf rfl rfl ?_
  refine wp_skip ?_
  refine then_n ?_
  refine wp_seq ?_
  refine wp_seq ?_
  refine wp_region_lit ?_
  refine s_m hf rfl ?_; clear hf a; intro a hf
  refine s_v hf (x_nilCheck (hf.eval rfl)) ?_; clear hf a; intro a hf
  refine s_v hf (x_fieldAddr fo90_7 (hf.eval rfl)) ?_; clear hf a; intro a hf
  refine s_r hf (x_load sc4 (hf.eval rfl) (by first | exact hs.cell (.here _) rfl | exact hs.cell (.there _ (.here _)) rfl | exact hs.cell (.there _ (.there _ (.here _))) rfl | exact hs.cell (.there _ (.there _ (.there _ (.here _)))) rfl | exact hs.cell (.there _ (.there _ (.there _ (.there _ (.here _))))) rfl | exact hs.cell (.there _ (.there _ (.there _ (.there _ (.there _ (.here _)))))) rfl)) ?_; clear hf a; intro a hf
  refine s_v hf (x_not (hf.eval rfl)) ?_; clear hf a; intro a hf
  refine s_nil ?_
  refine then_n ?_
  refine c_cond hf rfl (fun hi1 => ?_) (fun hi1 => ?_)
  · simp only [Bool.not_not] at hi1
    refine wp_seq ?_
    refine wp_region_lit ?_
    refine s_a hf rfl ?_; clear hf a; intro a hf
    refine s_a hf rfl ?_; clear hf a; intro a hf
    refine s_nil ?_
    refine then_n ?_
    refine wp_ret ?_
    refine then_r ?_
    refine r_2 hf Try.results64 rfl rfl ?_
    have hE : rdE s off n = 12 := by unfold rdE; rw [if_pos hi1]
    have hV : rdV s off n = [] := by unfold rdV; rw [if_neg (by rw [hE]; decide)]
    rw [hE, hV]
    exact ⟨none, 0, rfl, (refA_close (x := ⟨_, _, _, _, ps⟩) hps hs).emp (slB_nil _)⟩
  · simp only [Bool.not_not] at hi1
    refine wp_skip ?_
    refine then_n ?_
    refine wp_seq ?_
    refine wp_seq ?_
    refine wp_region_lit ?_
    refine s_m hf rfl ?_; clear hf a; intro a hf
    refine s_v hf (x_bin (hf.eval rfl) (hf.eval rfl) (r_lt _ _ _ _)) ?_; clear hf a; intro a hf
    refine s_m hf rfl ?_; clear hf a; intro a hf
    refine s_bool hf (k := 17) rfl (fun hg5_2 hf' => ?_) (fun hg5_2 hf' => ?_)
    · clear hf
      have hf := hf'
      clear hf'
      simp only [decide_eq_true_eq, decide_eq_false_iff_not] at hg5_2
      refine s_pass hf rfl rfl ?_; clear hf a; intro a hf
      refine s_pass hf rfl rfl ?_; clear hf a; intro a hf
      refine s_v hf (x_pick_t (hf.eval rfl) (hf.eval rfl)) ?_; clear hf a; intro a hf
      refine s_nil ?_
      refine then_n ?_
      refine c_cond_t hf rfl rfl ?_
      refine wp_seq ?_
      refine wp_region_lit ?_
      refine s_a hf rfl ?_; clear hf a; intro a hf
      refine s_a hf rfl ?_; clear hf a; intro a hf
      refine s_nil ?_
      refine then_n ?_
      refine wp_ret ?_
      refine then_r ?_
      refine r_2 hf Try.results64 rfl rfl ?_
      have hE : rdE s off n = 1 := by unfold rdE; rw [if_neg (by simp [hi1]), if_pos (by omega)]
      have hV : rdV s off n = [] := by unfold rdV; rw [if_neg (by rw [hE]; decide)]
      rw [hE, hV]
      exact ⟨none, 0, rfl, (refA_close (x := ⟨_, _, _, _, ps⟩) hps hs).emp (slB_nil _)⟩
    · clear hf
      have hf := hf'
      clear hf'
      simp only [decide_eq_true_eq, decide_eq_false_iff_not] at hg5_2
      refine s_do hf (wanted_of hf rfl rfl rfl) (.value (x_move (hf.eval rfl) _) ?_); clear hf a; intro a hf
      refine s_do hf (wanted_of hf rfl rfl rfl) (.value (x_bin (hf.eval rfl) (hf.eval rfl) (r_lt _ _ _ _) _) ?_); clear hf a; intro a hf
      refine s_v hf (x_pick_f (hf.eval rfl) (hf.eval rfl)) ?_; clear hf a; intro a hf
      refine s_nil ?_
      refine then_n ?_
      refine c_cond hf rfl (fun hi2 => ?_) (fun hi2 => ?_)
      · simp only [decide_eq_true_eq, decide_eq_false_iff_not, Bool.not_eq_true', Bool.not_eq_false', Bool.not_eq_true, Int.not_lt, Int.not_le] at hi2
        refine wp_seq ?_
        refine wp_region_lit ?_
        refine s_a hf rfl ?_; clear hf a; intro a hf
        refine s_a hf rfl ?_; clear hf a; intro a hf
        refine s_nil ?_
        refine then_n ?_
        refine wp_ret ?_
        refine then_r ?_
        refine r_2 hf Try.results64 rfl rfl ?_
        have hE : rdE s off n = 1 := by unfold rdE; rw [if_neg (by simp [hi1]), if_pos (by omega)]
        have hV : rdV s off n = [] := by unfold rdV; rw [if_neg (by rw [hE]; decide)]
        rw [hE, hV]
        exact ⟨none, 0, rfl, (refA_close (x := ⟨_, _, _, _, ps⟩) hps hs).emp (slB_nil _)⟩
      · simp only [decide_eq_true_eq, decide_eq_false_iff_not, Bool.not_eq_true', Bool.not_eq_false', Bool.not_eq_true, Int.not_lt, Int.not_le] at hi2
        refine wp_skip ?_
        refine then_n ?_
        refine wp_seq ?_
        refine wp_seq ?_
        refine wp_region_lit ?_
        refine s_m hf rfl ?_; clear hf a; intro a hf
        refine s_m hf rfl ?_; clear hf a; intro a hf
        refine s_v hf (x_nilCheck (hf.eval rfl)) ?_; clear hf a; intro a hf
        refine s_v hf (x_fieldAddr fo90_1 (hf.eval rfl)) ?_; clear hf a; intro a hf
        refine s_r hf (x_load sc22 (hf.eval rfl) (by first | exact hs.cell (.here _) rfl | exact hs.cell (.there _ (.here _)) rfl | exact hs.cell (.there _ (.there _ (.here _))) rfl | exact hs.cell (.there _ (.there _ (.there _ (.here _)))) rfl | exact hs.cell (.there _ (.there _ (.there _ (.there _ (.here _))))) rfl | exact hs.cell (.there _ (.there _ (.there _ (.there _ (.there _ (.here _)))))) rfl)) ?_; clear hf a; intro a hf
        refine s_v hf (x_len Try.underlying22 (hf.eval rfl)) ?_; clear hf a; intro a hf
        refine s_v hf (x_bin (hf.eval rfl) (hf.eval rfl) (r_gt _ _ _ _)) ?_; clear hf a; intro a hf
        refine s_m hf rfl ?_; clear hf a; intro a hf
        refine s_bool hf (k := 28) rfl (fun hg7_7 hf' => ?_) (fun hg7_7 hf' => ?_)
        · clear hf
          have hf := hf'
          clear hf'
          simp only [decide_eq_true_eq, decide_eq_false_iff_not] at hg7_7
          refine s_pass hf rfl rfl ?_; clear hf a; intro a hf
          refine s_pass hf rfl rfl ?_; clear hf a; intro a hf
          refine s_pass hf rfl rfl ?_; clear hf a; intro a hf
          refine s_pass hf rfl rfl ?_; clear hf a; intro a hf
          refine s_pass hf rfl rfl ?_; clear hf a; intro a hf
          refine s_pass hf rfl rfl ?_; clear hf a; intro a hf
          refine s_pass hf rfl rfl ?_; clear hf a; intro a hf
          refine s_pass hf rfl rfl ?_; clear hf a; intro a hf
          refine s_pass hf rfl rfl ?_; clear hf a; intro a hf
          refine s_v hf (x_pick_t (hf.eval rfl) (hf.eval rfl)) ?_; clear hf a; intro a hf
          refine s_nil ?_
          refine then_n ?_
          refine c_cond_t hf rfl rfl ?_
          refine wp_seq ?_
          refine wp_region_lit ?_
          refine s_a hf rfl ?_; clear hf a; intro a hf
          refine s_a hf rfl ?_; clear hf a; intro a hf
          refine s_nil ?_
          refine then_n ?_
          refine wp_ret ?_
          refine then_r ?_
          refine r_2 hf Try.results64 rfl rfl ?_
          have hE : rdE s off n = 11 := by unfold rdE; rw [if_neg (by simp [hi1]), if_neg (by omega), if_pos (by omega)]
          have hV : rdV s off n = [] := by unfold rdV; rw [if_neg (by rw [hE]; decide)]
          rw [hE, hV]
          exact ⟨none, 0, rfl, (refA_close (x := ⟨_, _, _, _, ps⟩) hps hs).emp (slB_nil _)⟩
        · clear hf
          have hf := hf'
          clear hf'
          simp only [decide_eq_true_eq, decide_eq_false_iff_not] at hg7_7
          refine s_do hf (wanted_of hf rfl rfl rfl) (.value (x_move (hf.eval rfl) _) ?_); clear hf a; intro a hf
          refine s_do hf (wanted_of hf rfl rfl rfl) (.value (x_move (hf.eval rfl) _) ?_); clear hf a; intro a hf
          refine s_do hf (wanted_of hf rfl rfl rfl) (.value (x_nilCheck (hf.eval rfl) _) ?_); clear hf a; intro a hf
          refine s_do hf (wanted_of hf rfl rfl rfl) (.value (x_fieldAddr fo90_1 (hf.eval rfl) _) ?_); clear hf a; intro a hf
          refine s_do hf (wanted_of hf rfl rfl rfl) (.value (x_load sc22 (hf.eval rfl) (by first | exact hs.cell (.here _) rfl | exact hs.cell (.there _ (.here _)) rfl | exact hs.cell (.there _ (.there _ (.here _))) rfl | exact hs.cell (.there _ (.there _ (.there _ (.here _)))) rfl | exact hs.cell (.there _ (.there _ (.there _ (.there _ (.here _))))) rfl | exact hs.cell (.there _ (.there _ (.there _ (.there _ (.there _ (.here _)))))) rfl)) ?_); clear hf a; intro a hf
          refine s_do hf (wanted_of hf rfl rfl rfl) (.value (x_len Try.underlying22 (hf.eval rfl) _) ?_); clear hf a; intro a hf
          refine s_do hf (wanted_of hf rfl rfl rfl) (.value (x_move (hf.eval rfl) _) ?_); clear hf a; intro a hf
          refine s_do hf (wanted_of hf rfl rfl rfl) (.value (x_bin (hf.eval rfl) (hf.eval rfl) (r_subi _ (by omega) (by omega)) _) ?_); clear hf a; intro a hf
          refine s_do hf (wanted_of hf rfl rfl rfl) (.value (x_bin (hf.eval rfl) (hf.eval rfl) (r_gt _ _ _ _) _) ?_); clear hf a; intro a hf
          refine s_v hf (x_pick_f (hf.eval rfl) (hf.eval rfl)) ?_; clear hf a; intro a hf
          refine s_nil ?_
          refine then_n ?_
          refine c_cond hf rfl (fun hi3 => ?_) (fun hi3 => ?_)
          · simp only [decide_eq_true_eq, decide_eq_false_iff_not, Bool.not_eq_true', Bool.not_eq_false', Bool.not_eq_true, Int.not_lt, Int.not_le] at hi3
            refine wp_seq ?_
            refine wp_region_lit ?_
            refine s_a hf rfl ?_; clear hf a; intro a hf
            refine s_a hf rfl ?_; clear hf a; intro a hf
            refine s_nil ?_
            refine then_n ?_
            refine wp_ret ?_
            refine then_r ?_
            refine r_2 hf Try.results64 rfl rfl ?_
            have hE : rdE s off n = 11 := by unfold rdE; rw [if_neg (by simp [hi1]), if_neg (by omega), if_pos (by omega)]
            have hV : rdV s off n = [] := by unfold rdV; rw [if_neg (by rw [hE]; decide)]
            rw [hE, hV]
            exact ⟨none, 0, rfl, (refA_close (x := ⟨_, _, _, _, ps⟩) hps hs).emp (slB_nil _)⟩
          · simp only [decide_eq_true_eq, decide_eq_false_iff_not, Bool.not_eq_true', Bool.not_eq_false', Bool.not_eq_true, Int.not_lt, Int.not_le] at hi3
            refine wp_skip ?_
            refine then_n ?_
            refine wp_seq ?_
            refine wp_region_lit ?_
            refine s_m hf rfl ?_; clear hf a; intro a hf
            refine s_v hf (x_nilCheck (hf.eval rfl)) ?_; clear hf a; intro a hf
            refine s_v hf (x_fieldAddr fo90_1 (hf.eval rfl)) ?_; clear hf a; intro a hf
            refine s_r hf (x_load sc22 (hf.eval rfl) (by first | exact hs.cell (.here _) rfl | exact hs.cell (.there _ (.here _)) rfl | exact hs.cell (.there _ (.there _ (.here _))) rfl | exact hs.cell (.there _ (.there _ (.there _ (.here _)))) rfl | exact hs.cell (.there _ (.there _ (.there _ (.there _ (.here _))))) rfl | exact hs.cell (.there _ (.there _ (.there _ (.there _ (.there _ (.here _)))))) rfl)) ?_; clear hf a; intro a hf
            refine s_m hf rfl ?_; clear hf a; intro a hf
            refine s_m hf rfl ?_; clear hf a; intro a hf
            refine s_m hf rfl ?_; clear hf a; intro a hf
            refine s_v hf (x_bin (hf.eval rfl) (hf.eval rfl) (r_addi _ (by omega) (by omega))) ?_; clear hf a; intro a hf
            refine s_v hf (x_slice sl22 (hf.eval rfl) (hf.eval rfl) (hf.eval rfl)  (by omega) (by omega) (by omega) ) ?_; clear hf a; intro a hf
            have hE : rdE s off n = 0 := by unfold rdE; rw [if_neg (by simp [hi1]), if_neg (by omega), if_neg (by omega)]
            have hV : rdV s off n = (s.now.drop off.toNat).take n.toNat := by unfold rdV; rw [if_pos hE]
            have hVl : (rdV s off n).length = n.toNat := by rw [hV]; simp; omega
            replace hf := hf.now (k := 47) (v' := .slice (subA a1 c1 off.toNat 1) (rdV s off n).length (c1 - off.toNat)) rfl (by rw [hVl]; congr 1; omega)
            refine s_do hf rfl (y_call (hf.eval rfl) (hf.evals rfl) Try.call63 ((rclone_spec _ _ _ (rdV s off n) (by have := RdB.sub (i := off.toNat) (j := off.toNat + n.toNat) (hs.rdB (.there _ (.here _)) fun h => slB_rd) rfl (by omega) (by omega); rw [show off.toNat + n.toNat - off.toNat = n.toNat by omega, ← hV, ← hVl] at this; exact this) (by omega)).mono ?_))
            rintro e w1 ⟨e1, fe1, rfl, hj⟩
            replace hs := hs.join hj
            simp only [List.cons_append, List.nil_append] at hs
            refine ⟨_, rfl, ?_⟩; clear hf a; intro a hf
            refine s_a hf rfl ?_; clear hf a; intro a hf
            refine s_a hf rfl ?_; clear hf a; intro a hf
            refine s_nil ?_
            refine then_n ?_
            refine wp_ret ?_
            refine r_2 hf Try.results64 rfl rfl ?_
            refine ⟨_, _, by rw [hE], ?_⟩
            exact (refA_close (s := s) (x := ⟨_, _, _, _, ps⟩) (R := slB 5 _ (rdV s off n) :: R) hps (St.give (L := _) hs (.there _ (.there _ (.there _ (.there _ (.there _ (.there _ (.here _))))))))).take (.there _ (.here _))

theorem rNew_in (w0 : World) (a1 : Option Addr) (c1 : Nat) (image : List UInt8) (hr1 : RdB (hp w0) (.slice a1 image.length c1) image) (hl1 : image.length ≤ 140737488351232) (cap : Int) (hc1 : 0 ≤ cap) (hc2 : cap ≤ 16777216) (hc3 : image.length ≤ cap) : Calls Try.prog 52 #[.slice a1 image.length c1, .int .i64 cap] w0 fun e w' => ∃ p, e = .returned (.tuple #[.pointer (some ⟨p, 0, none⟩), .int .i64 0]) ∧ St ⟨w0, None_⟩ w' [refA 90 94 5 3 p (newS image cap)] := by
  refine (rNew_ok w0 a1 c1 image hr1 hl1 cap hc1 hc2 hc3).mono fun e w' h => ?_
  obtain ⟨q, u1, u2, rfl, hs⟩ := h
  refine ⟨q, rfl, ?_⟩
  replace hs := St.give (L := _) (hs.emp (A := sl 94 3 (.slice none 0 0) 0 []) (fun _ => ⟨rfl, .inl ⟨rfl, rfl⟩⟩)) (.there _ (.there _ (.there _ (.here _))))
  replace hs := St.give (L := _) (hs.emp (A := datA 5 []) (fun _ => trivial)) (.there _ (.there _ (.there _ (.there _ (.here _)))))
  replace hs := St.give (L := _) (hs.emp (A := sl 3 1 (.slice none 0 0) 0 []) (fun _ => ⟨rfl, .inl ⟨rfl, rfl⟩⟩)) (.there _ (.there _ (.there _ (.there _ (.there _ (.here _))))))
  exact refA_close (s := newS image cap) (x := ⟨u1, u2, .slice none 0 0, .slice none 0 0, []⟩) rfl hs

theorem rlay_spec (σ : Sig) (w : World) (R : List Asrt) (p : Nat) (s : DS) (hs : St σ w (refA 90 94 5 3 p s :: R)) (at_ : Nat) (ad : Option Addr) (cd : Nat) (data : List UInt8) (hr : Rdy σ R (.slice ad data.length cd) data) (hd : data ≠ []) (hat : at_ ≤ s.now.length) (hsz : at_ + data.length ≤ 16777216) (hnow : s.now.length ≤ 16777216) (hpc : s.pcs.length ≤ 1099511627776) : Calls Try.prog 70 #[.pointer (some ⟨p, 0, none⟩), .int .i64 (at_ : Int), .slice ad data.length cd] w fun e w' => e = .returned (.tuple #[]) ∧ St σ w' (refA 90 94 5 3 p (layS s at_ data) :: R) := by
  have hdl : 0 < data.length := List.length_pos_iff.2 hd
  have hcd : data.length ≤ cd := (hr _ [_] hs).cap
  refine c_enter (N := 85) Try.func70 rfl Try.ntmps70 (by simp) ?_
  intro a hf
  refine wp_seq ?_
  refine wp_seq ?_
  refine wp_region_lit ?_
  refine s_a hf rfl ?_; clear hf a; intro a hf
  refine s_nil ?_
  refine then_n ?_
  refine wp_block ?_
  refine c_loop (L0 := [(0, _), (1, _), (2, _)]) (fun M w m => ∃ (k : Nat) (P : List Pc), M = [(6, .int .i64 (k : Int))] ∧ data.length - k = m ∧ k ≤ data.length ∧ P ++ cut (at_ + k) (data.drop k) = s.pcs ++ cut at_ data ∧ St σ w (refA 90 94 5 3 p { s with pcs := P } :: R)) (M0 := [(6, .int .i64 0)]) (⟨0, s.pcs, rfl, rfl, Nat.zero_le _, rfl, hs⟩) (hf.sub ⟨rfl, rfl, rfl, rfl, trivial⟩) ?_
  clear hf hs a
  rintro M m a w ⟨k, P, rfl, rfl, hk, hP, hs⟩ hf
  refine wp_seq ?_
  refine wp_seq ?_
  refine wp_region_lit ?_
  refine s_m hf rfl ?_; clear hf a; intro a hf
  refine s_m hf rfl ?_; clear hf a; intro a hf
  refine s_v hf (x_len Try.underlying22 (hf.eval rfl)) ?_; clear hf a; intro a hf
  refine s_v hf (x_bin (hf.eval rfl) (hf.eval rfl) (r_lt _ _ _ _)) ?_; clear hf a; intro a hf
  refine s_nil ?_
  refine then_n ?_
  refine c_cond hf rfl (fun hi0 => ?_) (fun hi0 => ?_)
  · simp only [decide_eq_true_eq, decide_eq_false_iff_not, Bool.not_eq_true', Bool.not_eq_false', Bool.not_eq_true, Int.not_lt, Int.not_le] at hi0
    have hlt : k < data.length := by omega
    obtain ⟨q, hq⟩ : ∃ q, q = secN (at_ + k) (data.length - k) := ⟨_, rfl⟩
    have hq0 : 0 < q := by rw [hq]; exact secN_pos (by omega)
    have hq1 : q ≤ data.length - k := by rw [hq]; exact secN_le _ _
    have hdk : (data.drop k).length = data.length - k := List.length_drop ..
    have hcq : ((data.drop k).take q).length = q := by rw [List.length_take]; omega
    have hP9 : P.length ≤ 1099511700000 := by have h9 := congrArg List.length hP; simp only [List.length_append] at h9; have := cut_len data.length at_ data (Nat.le_refl _); omega
    have hP2 : P ++ [(at_ + k, (data.drop k).take q)] ++ cut (at_ + (k + q)) (data.drop (k + q)) = s.pcs ++ cut at_ data := by rw [← hP, cut_cons (l := data.drop k) (by intro h9; rw [h9] at hdk; simp at hdk; omega), hdk, ← hq, List.drop_drop, Nat.add_assoc, List.append_assoc]; rfl
    obtain ⟨⟨v1, v2, v3, v4, ps⟩, hps, hs⟩ := refA_open hs
    dsimp only at hps hs
    obtain ⟨a1, c1, rfl, hc1⟩ := slB_shape (hs.take (.there _ (.here _)))
    obtain ⟨a2, c2, rfl, hc2⟩ := slB_shape (hs.take (.there _ (.there _ (.here _))))
    obtain ⟨a3, c3, rfl⟩ := sl_shape (hs.take (.there _ (.there _ (.there _ (.here _)))))
    obtain ⟨a4, c4, rfl⟩ := sl_shape (hs.take (.there _ (.there _ (.there _ (.there _ (.there _ (.here _)))))))
    have hpl : ps.length = P.length := by have h9 := congrArg List.length hps; rw [List.length_map] at h9; exact h9
    refine wp_skip ?_
    refine then_n ?_
    refine wp_block ?_
    refine wp_seq ?_
    refine wp_region_lit ?_
    refine s_m hf rfl ?_; clear hf a; intro a hf
    refine s_m hf rfl ?_; clear hf a; intro a hf
    refine s_v hf (x_bin (hf.eval rfl) (hf.eval rfl) (r_addi _ (by omega) (by omega))) ?_; clear hf a; intro a hf
    refine s_v hf (x_bin (hf.eval rfl) (hf.eval rfl) (r_quon _ (by omega) (by omega) (by omega))) ?_; clear hf a; intro a hf
    replace hf := hf.now (k := 16) (v' := .int .i64 (((at_ + k) / 512 : Nat) : Int)) rfl (rfl)
    refine s_a hf rfl ?_; clear hf a; intro a hf
    refine s_nil ?_
    refine then_n ?_
    refine wp_seq ?_
    refine wp_region_lit ?_
    refine s_m hf rfl ?_; clear hf a; intro a hf
    refine s_v hf (x_bin (hf.eval rfl) (hf.eval rfl) (r_addi _ (by omega) (by omega))) ?_; clear hf a; intro a hf
    refine s_v hf (x_bin (hf.eval rfl) (hf.eval rfl) (r_muli _ (by omega) (by omega))) ?_; clear hf a; intro a hf
    refine s_m hf rfl ?_; clear hf a; intro a hf
    refine s_m hf rfl ?_; clear hf a; intro a hf
    refine s_v hf (x_bin (hf.eval rfl) (hf.eval rfl) (r_addi _ (by omega) (by omega))) ?_; clear hf a; intro a hf
    refine s_v hf (x_bin (hf.eval rfl) (hf.eval rfl) (r_subi _ (by omega) (by omega))) ?_; clear hf a; intro a hf
    refine s_a hf rfl ?_; clear hf a; intro a hf
    refine s_nil ?_
    refine then_n ?_
    refine wp_seq ?_
    refine wp_seq ?_
    refine wp_region_lit ?_
    refine s_m hf rfl ?_; clear hf a; intro a hf
    refine s_m hf rfl ?_; clear hf a; intro a hf
    refine s_v hf (x_len Try.underlying22 (hf.eval rfl)) ?_; clear hf a; intro a hf
    refine s_m hf rfl ?_; clear hf a; intro a hf
    refine s_v hf (x_bin (hf.eval rfl) (hf.eval rfl) (r_subi _ (by omega) (by omega))) ?_; clear hf a; intro a hf
    refine s_v hf (x_bin (hf.eval rfl) (hf.eval rfl) (r_gt _ _ _ _)) ?_; clear hf a; intro a hf
    refine s_nil ?_
    refine then_n ?_
    refine c_cond hf rfl (fun hi1 => ?_) (fun hi1 => ?_)
    · simp only [decide_eq_true_eq, decide_eq_false_iff_not, Bool.not_eq_true', Bool.not_eq_false', Bool.not_eq_true, Int.not_lt, Int.not_le] at hi1
      refine wp_region_lit ?_
      refine s_m hf rfl ?_; clear hf a; intro a hf
      refine s_v hf (x_len Try.underlying22 (hf.eval rfl)) ?_; clear hf a; intro a hf
      refine s_m hf rfl ?_; clear hf a; intro a hf
      refine s_v hf (x_bin (hf.eval rfl) (hf.eval rfl) (r_subi _ (by omega) (by omega))) ?_; clear hf a; intro a hf
      refine s_a hf rfl ?_; clear hf a; intro a hf
      replace hf := hf.now (k := 8) (v' := .int .i64 (q : Int)) rfl (by rw [hq]; unfold secN; congr 1; omega)
      refine s_nil ?_
      refine then_n ?_
      refine wp_seq ?_
      refine c_draw hs (fun w' => w'.cell? ⟨p, 3, none⟩ = some (.slice a3 ps.length c3) ∧ RdB (hp w') (.slice ad data.length cd) data) [.held, .held, .held, .held, .held, .held, .held, .held, .held, .held, .held, .held, .held, .held, .held, .eff, .held, .eff, .eff, .held, .held, .fin] (by kernel_rfl) (by kernel_rfl) (fun w' _ hs => ⟨hs.cell (k := 3) (.here _) rfl, hr _ [_, _, _, _, _, _] hs⟩) ?_
      clear hs; intro w hs hC hw
      refine m_held hf rfl (fun w' _ => x_move (hf.eval rfl) w') ?_; clear hf a; intro a hf
      refine m_held hf rfl (fun w' _ => x_move (hf.eval rfl) w') ?_; clear hf a; intro a hf
      refine m_held hf rfl (fun w' _ => x_nilCheck (hf.eval rfl) w') ?_; clear hf a; intro a hf
      refine m_held hf rfl (fun w' _ => x_fieldAddr fo90_3 (hf.eval rfl) w') ?_; clear hf a; intro a hf
      refine m_held hf rfl (fun w' hc => x_load sc88 (hf.eval rfl) hc.1) ?_; clear hf a; intro a hf
      refine m_held hf rfl (fun w' _ => x_move (hf.eval rfl) w') ?_; clear hf a; intro a hf
      refine m_held hf rfl (fun w' _ => x_move (hf.eval rfl) w') ?_; clear hf a; intro a hf
      refine m_held hf rfl (fun w' _ => x_move (hf.eval rfl) w') ?_; clear hf a; intro a hf
      refine m_held hf rfl (fun w' _ => x_bin (hf.eval rfl) (hf.eval rfl) (r_addi _ (by omega) (by omega)) w') ?_; clear hf a; intro a hf
      replace hf := hf.now (k := 42) (v' := .int .i64 ((at_ + k : Nat) : Int)) rfl (by congr 1)
      refine m_held hf rfl (fun w' _ => x_move (hf.eval rfl) w') ?_; clear hf a; intro a hf
      refine m_held hf rfl (fun w' _ => x_move (hf.eval rfl) w') ?_; clear hf a; intro a hf
      refine m_held hf rfl (fun w' _ => x_move (hf.eval rfl) w') ?_; clear hf a; intro a hf
      refine m_held hf rfl (fun w' _ => x_move (hf.eval rfl) w') ?_; clear hf a; intro a hf
      refine m_held hf rfl (fun w' _ => x_bin (hf.eval rfl) (hf.eval rfl) (r_addi _ (by omega) (by omega)) w') ?_; clear hf a; intro a hf
      refine m_held hf rfl (fun w' _ => x_slice sl22 (hf.eval rfl) (hf.eval rfl) (hf.eval rfl)  (by omega) (by omega) (by omega)  w') ?_; clear hf a; intro a hf
      replace hf := hf.now (k := 48) (v' := .slice (subA ad cd k 1) ((data.drop k).take q).length (cd - k)) rfl (by rw [hcq]; congr 1; omega)
      refine m_eff hf rfl (y_call (hf.eval rfl) (hf.evals rfl) Try.call63 ((rclone_spec _ _ _ ((data.drop k).take q) (by have := RdB.sub (i := k) (j := k + q) hC.2 rfl (by omega) (by omega); rw [show k + q - k = q by omega] at this; rw [hcq]; exact this) (by omega)).mono ?_))
      rintro e w1 ⟨e1, fe1, rfl, hj⟩
      replace hs := hs.join hj
      simp only [List.cons_append, List.nil_append] at hs
      refine ⟨_, rfl, ⟨⟨hs.cell (k := 3) (.there _ (.here _)) rfl, hr _ [_, _, _, _, _, _, _] hs⟩, ?_⟩⟩; clear hf a; intro a hf
      refine m_held hf rfl (fun w' hc => x_build (v := .agg #[.int .i64 (((at_ + k) / 512 : Nat) : Int), .int .i64 ((at_ + k : Nat) : Int), .slice e1 ((data.drop k).take q).length fe1]) (hf.parts rfl) (fun w => by kernel_rfl) _) ?_; clear hf a; intro a hf
      refine m_eff hf rfl (y_lit (xs := [.tmp 50]) hs sl88 (hf.evals rfl) rfl (by simp [Value.cells]) (by decide) ?_); clear hf hs a; intro b2 w hs; refine ⟨⟨hs.cell (k := 3) (.there _ (.there _ (.here _))) rfl, hr _ [_, _, _, _, _, _, _, _] hs⟩, ?_⟩; intro a hf
      refine m_eff hf rfl (y_append (n := ps.length) (m := 1) (ys := [.int .i64 (((at_ + k) / 512 : Nat) : Int), .int .i64 ((at_ + k : Nat) : Int), .slice e1 ((data.drop k).take q).length fe1]) hs sl88 (hf.eval rfl) (hf.eval rfl) (.there _ (.there _ (.there _ (.there _ (.there _ (.here _)))))) (hs.rd (.here _) fun h hb => rd_rows hb rfl) (by simp [Value.oneCell']) (by omega) (by rw [maxLen_eq]; omega) ?_); clear hf hs a; intro v2 w hs hv; refine ⟨⟨hs.cell (k := 3) (.there _ (.there _ (.there _ (.here _)))) rfl, hr _ [_, _, _, _, _, _, _, _] hs⟩, ?_⟩; intro a hf
      obtain ⟨a8, c8, rfl⟩ := sl_shape hs
      obtain ⟨ps2, hps2⟩ : ∃ ps2, ps2 = ps ++ [((at_ + k, .slice e1 ((data.drop k).take q).length fe1, (data.drop k).take q) : Pt)] := ⟨_, rfl⟩
      have hl2 : ps.length + 1 = ps2.length := by rw [hps2]; simp
      have hx2 : ps.flatMap rpF ++ [.int .i64 (((at_ + k) / 512 : Nat) : Int), .int .i64 ((at_ + k : Nat) : Int), .slice e1 ((data.drop k).take q).length fe1] = ps2.flatMap rpF := by rw [hps2]; simp [rpF]
      rw [hl2, hx2] at hs
      replace hf := hf.now (k := 52) (v' := .slice a8 ps2.length c8) rfl (by rw [← hl2])
      refine m_held hf rfl (fun w' _ => x_nilCheck (hf.eval rfl) w') ?_; clear hf a; intro a hf
      refine m_held hf rfl (fun w' _ => x_fieldAddr fo90_3 (hf.eval rfl) w') ?_; clear hf a; intro a hf
      refine m_fin0 hf rfl (y_store hs sc88 (hf.eval rfl) (hf.eval rfl) rfl (by first | exact .here _ | exact .there _ (.here _) | exact .there _ (.there _ (.here _)) | exact .there _ (.there _ (.there _ (.here _))) | exact .there _ (.there _ (.there _ (.there _ (.here _)))) | exact .there _ (.there _ (.there _ (.there _ (.there _ (.here _)))))) (by simp) ?_); clear hf hs a; intro w hs; intro a hf
      replace hs := (((hs.lose (.there _ (.here _))).take (.there _ (.here _))).take (.there _ (.there _ (.there _ (.there _ (.there _ (.here _)))))))
      replace hs := datA_push (p := ((at_ + k, .slice e1 ((data.drop k).take q).length fe1, (data.drop k).take q) : Pt)) hs
      rw [← hps2] at hs
      replace hs := St.give (L := _) (St.give (L := _) hs (.there _ (.there _ (.there _ (.there _ (.here _)))))) (.there _ (.there _ (.there _ (.here _))))
      replace hs := refA_close (s := { s with pcs := P ++ [(at_ + k, (data.drop k).take q)] }) (x := ⟨.slice a1 s.now.length c1, .slice a2 s.dur.length c2, .slice a8 ps2.length c8, .slice a4 s.sizes.length c4, ps2⟩) (by rw [hps2, List.map_append, hps]; rfl) hs
      refine then_n ?_
      refine wp_region_lit ?_
      refine s_m hf rfl ?_; clear hf a; intro a hf
      refine s_m hf rfl ?_; clear hf a; intro a hf
      refine s_v hf (x_bin (hf.eval rfl) (hf.eval rfl) (r_addi _ (by omega) (by omega))) ?_; clear hf a; intro a hf
      replace hf := hf.now (k := 57) (v' := .int .i64 ((k + q : Nat) : Int)) rfl (by push_cast; rfl)
      refine s_a hf rfl ?_; clear hf a; intro a hf
      refine s_nil ?_
      refine blk_n ?_
      exact ⟨_, _, ⟨k + q, P ++ [(at_ + k, (data.drop k).take q)], rfl, rfl, by omega, hP2, hs⟩, by omega, hf.sub ⟨rfl, rfl, rfl, rfl, trivial⟩⟩
    · simp only [decide_eq_true_eq, decide_eq_false_iff_not, Bool.not_eq_true', Bool.not_eq_false', Bool.not_eq_true, Int.not_lt, Int.not_le] at hi1
      replace hf := hf.now (k := 8) (v' := .int .i64 (q : Int)) rfl (by rw [hq]; unfold secN; congr 1; omega)
      refine wp_skip ?_
      refine then_n ?_
      refine wp_seq ?_
      refine c_draw hs (fun w' => w'.cell? ⟨p, 3, none⟩ = some (.slice a3 ps.length c3) ∧ RdB (hp w') (.slice ad data.length cd) data) [.held, .held, .held, .held, .held, .held, .held, .held, .held, .held, .held, .held, .held, .held, .held, .eff, .held, .eff, .eff, .held, .held, .fin] (by kernel_rfl) (by kernel_rfl) (fun w' _ hs => ⟨hs.cell (k := 3) (.here _) rfl, hr _ [_, _, _, _, _, _] hs⟩) ?_
      clear hs; intro w hs hC hw
      refine m_held hf rfl (fun w' _ => x_move (hf.eval rfl) w') ?_; clear hf a; intro a hf
      refine m_held hf rfl (fun w' _ => x_move (hf.eval rfl) w') ?_; clear hf a; intro a hf
      refine m_held hf rfl (fun w' _ => x_nilCheck (hf.eval rfl) w') ?_; clear hf a; intro a hf
      refine m_held hf rfl (fun w' _ => x_fieldAddr fo90_3 (hf.eval rfl) w') ?_; clear hf a; intro a hf
      refine m_held hf rfl (fun w' hc => x_load sc88 (hf.eval rfl) hc.1) ?_; clear hf a; intro a hf
      refine m_held hf rfl (fun w' _ => x_move (hf.eval rfl) w') ?_; clear hf a; intro a hf
      refine m_held hf rfl (fun w' _ => x_move (hf.eval rfl) w') ?_; clear hf a; intro a hf
      refine m_held hf rfl (fun w' _ => x_move (hf.eval rfl) w') ?_; clear hf a; intro a hf
      refine m_held hf rfl (fun w' _ => x_bin (hf.eval rfl) (hf.eval rfl) (r_addi _ (by omega) (by omega)) w') ?_; clear hf a; intro a hf
      replace hf := hf.now (k := 42) (v' := .int .i64 ((at_ + k : Nat) : Int)) rfl (by congr 1)
      refine m_held hf rfl (fun w' _ => x_move (hf.eval rfl) w') ?_; clear hf a; intro a hf
      refine m_held hf rfl (fun w' _ => x_move (hf.eval rfl) w') ?_; clear hf a; intro a hf
      refine m_held hf rfl (fun w' _ => x_move (hf.eval rfl) w') ?_; clear hf a; intro a hf
      refine m_held hf rfl (fun w' _ => x_move (hf.eval rfl) w') ?_; clear hf a; intro a hf
      refine m_held hf rfl (fun w' _ => x_bin (hf.eval rfl) (hf.eval rfl) (r_addi _ (by omega) (by omega)) w') ?_; clear hf a; intro a hf
      refine m_held hf rfl (fun w' _ => x_slice sl22 (hf.eval rfl) (hf.eval rfl) (hf.eval rfl)  (by omega) (by omega) (by omega)  w') ?_; clear hf a; intro a hf
      replace hf := hf.now (k := 48) (v' := .slice (subA ad cd k 1) ((data.drop k).take q).length (cd - k)) rfl (by rw [hcq]; congr 1; omega)
      refine m_eff hf rfl (y_call (hf.eval rfl) (hf.evals rfl) Try.call63 ((rclone_spec _ _ _ ((data.drop k).take q) (by have := RdB.sub (i := k) (j := k + q) hC.2 rfl (by omega) (by omega); rw [show k + q - k = q by omega] at this; rw [hcq]; exact this) (by omega)).mono ?_))
      rintro e w1 ⟨e1, fe1, rfl, hj⟩
      replace hs := hs.join hj
      simp only [List.cons_append, List.nil_append] at hs
      refine ⟨_, rfl, ⟨⟨hs.cell (k := 3) (.there _ (.here _)) rfl, hr _ [_, _, _, _, _, _, _] hs⟩, ?_⟩⟩; clear hf a; intro a hf
      refine m_held hf rfl (fun w' hc => x_build (v := .agg #[.int .i64 (((at_ + k) / 512 : Nat) : Int), .int .i64 ((at_ + k : Nat) : Int), .slice e1 ((data.drop k).take q).length fe1]) (hf.parts rfl) (fun w => by kernel_rfl) _) ?_; clear hf a; intro a hf
      refine m_eff hf rfl (y_lit (xs := [.tmp 50]) hs sl88 (hf.evals rfl) rfl (by simp [Value.cells]) (by decide) ?_); clear hf hs a; intro b2 w hs; refine ⟨⟨hs.cell (k := 3) (.there _ (.there _ (.here _))) rfl, hr _ [_, _, _, _, _, _, _, _] hs⟩, ?_⟩; intro a hf
      refine m_eff hf rfl (y_append (n := ps.length) (m := 1) (ys := [.int .i64 (((at_ + k) / 512 : Nat) : Int), .int .i64 ((at_ + k : Nat) : Int), .slice e1 ((data.drop k).take q).length fe1]) hs sl88 (hf.eval rfl) (hf.eval rfl) (.there _ (.there _ (.there _ (.there _ (.there _ (.here _)))))) (hs.rd (.here _) fun h hb => rd_rows hb rfl) (by simp [Value.oneCell']) (by omega) (by rw [maxLen_eq]; omega) ?_); clear hf hs a; intro v2 w hs hv; refine ⟨⟨hs.cell (k := 3) (.there _ (.there _ (.there _ (.here _)))) rfl, hr _ [_, _, _, _, _, _, _, _] hs⟩, ?_⟩; intro a hf
      obtain ⟨a8, c8, rfl⟩ := sl_shape hs
      obtain ⟨ps2, hps2⟩ : ∃ ps2, ps2 = ps ++ [((at_ + k, .slice e1 ((data.drop k).take q).length fe1, (data.drop k).take q) : Pt)] := ⟨_, rfl⟩
      have hl2 : ps.length + 1 = ps2.length := by rw [hps2]; simp
      have hx2 : ps.flatMap rpF ++ [.int .i64 (((at_ + k) / 512 : Nat) : Int), .int .i64 ((at_ + k : Nat) : Int), .slice e1 ((data.drop k).take q).length fe1] = ps2.flatMap rpF := by rw [hps2]; simp [rpF]
      rw [hl2, hx2] at hs
      replace hf := hf.now (k := 52) (v' := .slice a8 ps2.length c8) rfl (by rw [← hl2])
      refine m_held hf rfl (fun w' _ => x_nilCheck (hf.eval rfl) w') ?_; clear hf a; intro a hf
      refine m_held hf rfl (fun w' _ => x_fieldAddr fo90_3 (hf.eval rfl) w') ?_; clear hf a; intro a hf
      refine m_fin0 hf rfl (y_store hs sc88 (hf.eval rfl) (hf.eval rfl) rfl (by first | exact .here _ | exact .there _ (.here _) | exact .there _ (.there _ (.here _)) | exact .there _ (.there _ (.there _ (.here _))) | exact .there _ (.there _ (.there _ (.there _ (.here _)))) | exact .there _ (.there _ (.there _ (.there _ (.there _ (.here _)))))) (by simp) ?_); clear hf hs a; intro w hs; intro a hf
      replace hs := (((hs.lose (.there _ (.here _))).take (.there _ (.here _))).take (.there _ (.there _ (.there _ (.there _ (.there _ (.here _)))))))
      replace hs := datA_push (p := ((at_ + k, .slice e1 ((data.drop k).take q).length fe1, (data.drop k).take q) : Pt)) hs
      rw [← hps2] at hs
      replace hs := St.give (L := _) (St.give (L := _) hs (.there _ (.there _ (.there _ (.there _ (.here _)))))) (.there _ (.there _ (.there _ (.here _))))
      replace hs := refA_close (s := { s with pcs := P ++ [(at_ + k, (data.drop k).take q)] }) (x := ⟨.slice a1 s.now.length c1, .slice a2 s.dur.length c2, .slice a8 ps2.length c8, .slice a4 s.sizes.length c4, ps2⟩) (by rw [hps2, List.map_append, hps]; rfl) hs
      refine then_n ?_
      refine wp_region_lit ?_
      refine s_m hf rfl ?_; clear hf a; intro a hf
      refine s_m hf rfl ?_; clear hf a; intro a hf
      refine s_v hf (x_bin (hf.eval rfl) (hf.eval rfl) (r_addi _ (by omega) (by omega))) ?_; clear hf a; intro a hf
      replace hf := hf.now (k := 57) (v' := .int .i64 ((k + q : Nat) : Int)) rfl (by push_cast; rfl)
      refine s_a hf rfl ?_; clear hf a; intro a hf
      refine s_nil ?_
      refine blk_n ?_
      exact ⟨_, _, ⟨k + q, P ++ [(at_ + k, (data.drop k).take q)], rfl, rfl, by omega, hP2, hs⟩, by omega, hf.sub ⟨rfl, rfl, rfl, rfl, trivial⟩⟩
  · simp only [decide_eq_true_eq, decide_eq_false_iff_not, Bool.not_eq_true', Bool.not_eq_false', Bool.not_eq_true, Int.not_lt, Int.not_le] at hi0
    have hk9 : k = data.length := by omega
    subst hk9
    rw [List.drop_length, cut_nil, List.append_nil] at hP
    subst hP
    refine wp_exit ?_
    refine then_x ?_
    refine then_x ?_
    refine blk_x ?_
    refine then_n ?_
    refine wp_seq ?_
    refine wp_block ?_
    refine c_loop (L0 := [(0, _), (1, _), (2, _), (6, _), (9, _), (10, _), (11, _), (12, _)]) (fun M w m => ∃ (j : Nat), M = [] ∧ (at_ + data.length - (s.now.length + j)) = m ∧ s.now.length + j ≤ max s.now.length (at_ + data.length) ∧ St σ w (refA 90 94 5 3 p { s with now := s.now ++ List.replicate j 0, pcs := s.pcs ++ cut at_ data } :: R)) (M0 := _) (⟨0, rfl, rfl, by omega, by rw [List.replicate_zero, List.append_nil]; exact hs⟩) (hf.sub ⟨rfl, rfl, rfl, rfl, rfl, rfl, rfl, rfl, trivial⟩) ?_
    clear hf hs a
    rintro M m a w ⟨j, rfl, rfl, hj, hs⟩ hf
    obtain ⟨⟨v1, v2, v3, v4, ps⟩, hps, hs⟩ := refA_open hs
    dsimp only at hps hs
    obtain ⟨a1, c1, rfl, hc1⟩ := slB_shape (hs.take (.there _ (.here _)))
    obtain ⟨a2, c2, rfl, hc2⟩ := slB_shape (hs.take (.there _ (.there _ (.here _))))
    obtain ⟨a3, c3, rfl⟩ := sl_shape (hs.take (.there _ (.there _ (.there _ (.here _)))))
    obtain ⟨a4, c4, rfl⟩ := sl_shape (hs.take (.there _ (.there _ (.there _ (.there _ (.there _ (.here _)))))))
    have hNl : (s.now ++ List.replicate j (0 : UInt8)).length = s.now.length + j := by simp
    refine wp_seq ?_
    refine wp_seq ?_
    refine wp_region_lit ?_
    refine s_m hf rfl ?_; clear hf a; intro a hf
    refine s_v hf (x_nilCheck (hf.eval rfl)) ?_; clear hf a; intro a hf
    refine s_v hf (x_fieldAddr fo90_1 (hf.eval rfl)) ?_; clear hf a; intro a hf
    refine s_r hf (x_load sc22 (hf.eval rfl) (by first | exact hs.cell (.here _) rfl | exact hs.cell (.there _ (.here _)) rfl | exact hs.cell (.there _ (.there _ (.here _))) rfl | exact hs.cell (.there _ (.there _ (.there _ (.here _)))) rfl | exact hs.cell (.there _ (.there _ (.there _ (.there _ (.here _))))) rfl | exact hs.cell (.there _ (.there _ (.there _ (.there _ (.there _ (.here _)))))) rfl)) ?_; clear hf a; intro a hf
    refine s_v hf (x_len Try.underlying22 (hf.eval rfl)) ?_; clear hf a; intro a hf
    refine s_m hf rfl ?_; clear hf a; intro a hf
    refine s_m hf rfl ?_; clear hf a; intro a hf
    refine s_v hf (x_len Try.underlying22 (hf.eval rfl)) ?_; clear hf a; intro a hf
    refine s_v hf (x_bin (hf.eval rfl) (hf.eval rfl) (r_addi _ (by omega) (by omega))) ?_; clear hf a; intro a hf
    refine s_v hf (x_bin (hf.eval rfl) (hf.eval rfl) (r_lt _ _ _ _)) ?_; clear hf a; intro a hf
    refine s_nil ?_
    refine then_n ?_
    refine c_cond hf rfl (fun hi2 => ?_) (fun hi2 => ?_)
    · simp only [decide_eq_true_eq, decide_eq_false_iff_not, Bool.not_eq_true', Bool.not_eq_false', Bool.not_eq_true, Int.not_lt, Int.not_le] at hi2
      refine wp_skip ?_
      refine then_n ?_
      refine wp_block ?_
      refine wp_region_lit ?_
      refine s_m hf rfl ?_; clear hf a; intro a hf
      refine s_m hf rfl ?_; clear hf a; intro a hf
      refine s_v hf (x_nilCheck (hf.eval rfl)) ?_; clear hf a; intro a hf
      refine s_v hf (x_fieldAddr fo90_1 (hf.eval rfl)) ?_; clear hf a; intro a hf
      refine s_r hf (x_load sc22 (hf.eval rfl) (by first | exact hs.cell (.here _) rfl | exact hs.cell (.there _ (.here _)) rfl | exact hs.cell (.there _ (.there _ (.here _))) rfl | exact hs.cell (.there _ (.there _ (.there _ (.here _)))) rfl | exact hs.cell (.there _ (.there _ (.there _ (.there _ (.here _))))) rfl | exact hs.cell (.there _ (.there _ (.there _ (.there _ (.there _ (.here _)))))) rfl)) ?_; clear hf a; intro a hf
      refine s_do hf rfl (y_lit (xs := [.const (.int .u8 0)]) hs sl22 (hf.evals rfl) rfl (by simp [Value.cells]) (by decide) ?_); clear hf hs a; intro b2 w hs a hf
      refine s_do hf rfl (y_appendB (s := [0]) hs sl22 rfl (hf.eval rfl) (hf.eval rfl) (.there _ (.there _ (.here _))) (hs.rdB (.here _) fun h hb => rdB_of_bb (T := 5) (l := [0]) hb (by simp) (by simp)) (by simp; omega) ?_); clear hf hs a; intro v2 w hs hv a hf
      rw [List.append_assoc, ← List.replicate_succ'] at hs
      obtain ⟨a9, c9, rfl, hc9⟩ := slB_shape hs
      refine s_v hf (x_nilCheck (hf.eval rfl)) ?_; clear hf a; intro a hf
      refine s_v hf (x_fieldAddr fo90_1 (hf.eval rfl)) ?_; clear hf a; intro a hf
      refine s_do0 hf rfl (y_store hs sc22 (hf.eval rfl) (hf.eval rfl) rfl (by first | exact .here _ | exact .there _ (.here _) | exact .there _ (.there _ (.here _)) | exact .there _ (.there _ (.there _ (.here _))) | exact .there _ (.there _ (.there _ (.there _ (.here _)))) | exact .there _ (.there _ (.there _ (.there _ (.there _ (.here _)))))) (by simp) ?_); clear hf hs a; intro w hs a hf
      replace hs := (hs.lose (.there _ (.here _))).take (.there _ (.here _))
      replace hs := refA_close (s := { s with now := s.now ++ List.replicate (j + 1) 0, pcs := s.pcs ++ cut at_ data }) (x := ⟨.slice a9 (s.now ++ List.replicate (j + 1) 0).length c9, .slice a2 s.dur.length c2, .slice a3 ps.length c3, .slice a4 s.sizes.length c4, ps⟩) hps hs
      refine s_nil ?_
      refine blk_n ?_
      exact ⟨_, _, ⟨j + 1, rfl, rfl, by omega, hs⟩, by omega, hf.sub ⟨rfl, rfl, rfl, rfl, rfl, rfl, rfl, rfl, trivial⟩⟩
    · simp only [decide_eq_true_eq, decide_eq_false_iff_not, Bool.not_eq_true', Bool.not_eq_false', Bool.not_eq_true, Int.not_lt, Int.not_le] at hi2
      obtain ⟨E, hE⟩ : ∃ E, E = ext s.now (at_ + data.length) := ⟨_, rfl⟩
      have hEl : E.length = max s.now.length (at_ + data.length) := by rw [hE, ext_length]
      have hE2 : s.now ++ List.replicate j (0 : UInt8) = E := by rw [hE, show j = at_ + data.length - s.now.length by omega]; rfl
      rw [hE2] at hs hc1
      obtain ⟨b1, cc, hb1, _⟩ := slB_block (hs.take (.there _ (.here _))) (by omega)
      injection hb1 with hb1 _ hb1c
      subst hb1
      subst hb1c
      refine wp_exit ?_
      refine then_x ?_
      refine then_x ?_
      refine blk_x ?_
      refine then_n ?_
      refine wp_region_lit ?_
      refine s_m hf rfl ?_; clear hf a; intro a hf
      refine s_v hf (x_nilCheck (hf.eval rfl)) ?_; clear hf a; intro a hf
      refine s_v hf (x_fieldAddr fo90_1 (hf.eval rfl)) ?_; clear hf a; intro a hf
      refine s_r hf (x_load sc22 (hf.eval rfl) (by first | exact hs.cell (.here _) rfl | exact hs.cell (.there _ (.here _)) rfl | exact hs.cell (.there _ (.there _ (.here _))) rfl | exact hs.cell (.there _ (.there _ (.there _ (.here _)))) rfl | exact hs.cell (.there _ (.there _ (.there _ (.there _ (.here _))))) rfl | exact hs.cell (.there _ (.there _ (.there _ (.there _ (.there _ (.here _)))))) rfl)) ?_; clear hf a; intro a hf
      refine s_m hf rfl ?_; clear hf a; intro a hf
      refine s_v hf (x_slice_lo sl22 (hf.eval rfl) (hf.eval rfl)  (by omega) (by omega) ) ?_; clear hf a; intro a hf
      replace hf := hf.now (k := 82) (v' := .slice (subA (some ⟨b1, 0, none⟩) c1 at_ 1) (E.length - at_) (c1 - at_)) rfl (by first | rfl | (rw [← hE2]; rfl))
      refine s_m hf rfl ?_; clear hf a; intro a hf
      refine s_do hf rfl (y_copyAt (T := 5) (n := E.length) (o := at_) (s := data) hs sl22 (hf.eval rfl) rfl (hf.eval rfl) (.there _ (.here _)) (hr _ [_, _, _, _, _, _] hs) (by omega) rfl ?_); clear hf hs a; intro w hs a hf
      rw [show min data.length (E.length - at_) = data.length by omega, List.take_length] at hs
      have hXl : (spl E at_ data).length = E.length := spl_length _ _ _ (by omega)
      rw [← hXl] at hs
      replace hs := refA_close (s := { s with now := spl E at_ data, pcs := s.pcs ++ cut at_ data }) (x := ⟨.slice (some ⟨b1, 0, none⟩) (spl E at_ data).length c1, .slice a2 s.dur.length c2, .slice a3 ps.length c3, .slice a4 s.sizes.length c4, ps⟩) hps (hs.take (.there _ (.here _)))
      rw [hE] at hs
      refine s_nil ?_
      refine r_0n hf Try.results70 ?_
      exact ⟨rfl, hs⟩

end Go.Proofs.Ytjfnpbeehjhmbaa
