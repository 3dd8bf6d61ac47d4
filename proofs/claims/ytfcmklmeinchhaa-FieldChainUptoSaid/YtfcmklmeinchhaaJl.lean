/- The statements FieldJoins and FieldChain. -/
import Derived.Test.YtfcmklmeinchhaaVF
import Derived.Test.YtfcmklmeinchhaaJn
import Derived.Test.YtfcmklmeinchhaaHlp
import Derived.Test.YtfcmklmeinchhaaProg
import Derived.Test.YtfcmklmeinchhaaFacts
set_option maxRecDepth 100000
set_option linter.all false
namespace Go.Proofs.Ytfcmklmeinchhaa
open Go Vw
theorem fieldJoins_spec (w0 : World) (p q : Nat) (n : Int) (hp0 : p < 4294967296) (hq0 : q < 4294967296) : Calls Try.prog 3 #[.int .u32 ((p : Nat) : Int), .int .u32 ((q : Nat) : Int), .int .i64 n] w0 fun e w' => e = .returned (.bool true) ∧ Kept w0 w' None_ := by
  have hs := St.start w0 None_
  refine c_enter (N := 34) Try.func3 rfl Try.ntmps3 (by simp) ?_
  intro a hf
  refine wp_seq ?_
  refine wp_region_lit ?_
  refine s_a hf rfl ?_; clear hf a; intro a hf
  refine s_nil ?_
  refine then_n ?_
  refine wp_seq ?_
  refine wp_region_lit ?_
  refine s_m hf rfl ?_; clear hf a; intro a hf
  refine s_m hf rfl ?_; clear hf a; intro a hf
  refine s_m hf rfl ?_; clear hf a; intro a hf
  refine s_do hf rfl (y_call (hf.eval rfl) (hf.evals rfl) Try.call12 ((join_spec _ p q n hp0 hq0).mono ?_))
  rintro e w1 ⟨rfl, hk⟩
  replace hs := hs.ext hk
  refine ⟨_, rfl, ?_⟩; clear hf a; intro a hf
  refine s_m hf rfl ?_; clear hf a; intro a hf
  refine s_v hf (x_extract (hf.eval rfl) rfl) ?_; clear hf a; intro a hf
  refine s_v hf (x_extract (hf.eval rfl) rfl) ?_; clear hf a; intro a hf
  refine s_a hf rfl ?_; clear hf a; intro a hf
  refine s_a hf rfl ?_; clear hf a; intro a hf
  refine s_nil ?_
  refine then_n ?_
  refine wp_seq ?_
  refine wp_region_lit ?_
  refine s_m hf rfl ?_; clear hf a; intro a hf
  refine s_m hf rfl ?_; clear hf a; intro a hf
  refine s_m hf rfl ?_; clear hf a; intro a hf
  refine s_do hf rfl (y_call (hf.eval rfl) (hf.evals rfl) Try.call13 ((refJoin_spec _ p q n hp0 hq0).mono ?_))
  rintro e w1 ⟨rfl, hk⟩
  replace hs := hs.ext hk
  refine ⟨_, rfl, ?_⟩; clear hf a; intro a hf
  refine s_m hf rfl ?_; clear hf a; intro a hf
  refine s_v hf (x_extract (hf.eval rfl) rfl) ?_; clear hf a; intro a hf
  refine s_v hf (x_extract (hf.eval rfl) rfl) ?_; clear hf a; intro a hf
  refine s_a hf rfl ?_; clear hf a; intro a hf
  refine s_a hf rfl ?_; clear hf a; intro a hf
  refine s_nil ?_
  refine then_n ?_
  refine wp_seq ?_
  refine wp_region_lit ?_
  refine s_m hf rfl ?_; clear hf a; intro a hf
  refine s_m hf rfl ?_; clear hf a; intro a hf
  refine s_v hf (x_bin (hf.eval rfl) (hf.eval rfl) (r_eq _ _ _ _)) ?_; clear hf a; intro a hf
  refine s_m hf rfl ?_; clear hf a; intro a hf
  replace hf := hf.now (k := 28) (v' := .bool true) rfl (congrArg Value.bool (by simp))
  refine s_do hf (wanted_of hf rfl rfl rfl) (.value (x_move (hf.eval rfl) _) ?_); clear hf a; intro a hf
  refine s_do hf (wanted_of hf rfl rfl rfl) (y_call (hf.eval rfl) (hf.evals rfl) Try.call14 ((num_spec _ _).mono ?_))
  rintro e w1 ⟨rfl, rfl⟩
  refine ⟨_, rfl, ?_⟩; clear hf a; intro a hf
  refine s_do hf (wanted_of hf rfl rfl rfl) (.value (x_move (hf.eval rfl) _) ?_); clear hf a; intro a hf
  refine s_do hf (wanted_of hf rfl rfl rfl) (.value (x_bin (hf.eval rfl) (hf.eval rfl) (r_eq _ _ _ _) _) ?_); clear hf a; intro a hf
  refine s_v hf (x_pick_t (hf.eval rfl) (hf.eval rfl)) ?_; clear hf a; intro a hf
  refine s_a hf rfl ?_; clear hf a; intro a hf
  refine s_nil ?_
  refine then_n ?_
  refine wp_ret ?_
  refine r_1 hf Try.results3 rfl ?_
  exact ⟨by simp, hs.kept⟩

theorem fieldChain_spec (w0 : World) (p q r : Nat) (n m : Int) (hp0 : p < 4294967296) (hq0 : q < 4294967296) (hr0 : r < 4294967296) : Calls Try.prog 4 #[.int .u32 ((p : Nat) : Int), .int .u32 ((q : Nat) : Int), .int .u32 ((r : Nat) : Int), .int .i64 n, .int .i64 m] w0 fun e w' => e = .returned (.bool true) ∧ Kept w0 w' None_ := by
  have hs := St.start w0 None_
  refine c_enter (N := 101) Try.func4 rfl Try.ntmps4 (by simp) ?_
  intro a hf
  refine wp_seq ?_
  refine wp_region_lit ?_
  refine s_a hf rfl ?_; clear hf a; intro a hf
  refine s_nil ?_
  refine then_n ?_
  refine wp_seq ?_
  refine wp_seq ?_
  refine wp_region_lit ?_
  refine s_m hf rfl ?_; clear hf a; intro a hf
  refine s_v hf (x_bin (hf.eval rfl) (hf.eval rfl) (r_lt _ _ _ _)) ?_; clear hf a; intro a hf
  refine s_m hf rfl ?_; clear hf a; intro a hf
  refine s_bool hf (k := 23) rfl (fun hg1_2 hf' => ?_) (fun hg1_2 hf' => ?_)
  · clear hf
    have hf := hf'
    clear hf'
    simp only [decide_eq_true_eq, decide_eq_false_iff_not, Bool.not_eq_true', Bool.not_eq_false', Bool.not_eq_true, Int.not_lt, Int.not_le] at hg1_2
    refine s_pass hf rfl rfl ?_; clear hf a; intro a hf
    refine s_pass hf rfl rfl ?_; clear hf a; intro a hf
    refine s_v hf (x_pick_t (hf.eval rfl) (hf.eval rfl)) ?_; clear hf a; intro a hf
    refine s_m hf rfl ?_; clear hf a; intro a hf
    refine s_pass hf rfl rfl ?_; clear hf a; intro a hf
    refine s_pass hf rfl rfl ?_; clear hf a; intro a hf
    refine s_v hf (x_pick_t (hf.eval rfl) (hf.eval rfl)) ?_; clear hf a; intro a hf
    refine s_m hf rfl ?_; clear hf a; intro a hf
    refine s_pass hf rfl rfl ?_; clear hf a; intro a hf
    refine s_pass hf rfl rfl ?_; clear hf a; intro a hf
    refine s_pass hf rfl rfl ?_; clear hf a; intro a hf
    refine s_pass hf rfl rfl ?_; clear hf a; intro a hf
    refine s_v hf (x_pick_t (hf.eval rfl) (hf.eval rfl)) ?_; clear hf a; intro a hf
    refine s_nil ?_
    refine then_n ?_
    refine c_cond_t hf rfl rfl ?_
    refine wp_seq ?_
    refine wp_region_lit ?_
    refine s_a hf rfl ?_; clear hf a; intro a hf
    refine s_nil ?_
    refine then_n ?_
    refine wp_ret ?_
    refine then_r ?_
    refine r_1 hf Try.results4 rfl ?_
    exact ⟨rfl, hs.kept⟩
  · clear hf
    have hf := hf'
    clear hf'
    simp only [decide_eq_true_eq, decide_eq_false_iff_not, Bool.not_eq_true', Bool.not_eq_false', Bool.not_eq_true, Int.not_lt, Int.not_le] at hg1_2
    refine s_do hf (wanted_of hf rfl rfl rfl) (.value (x_move (hf.eval rfl) _) ?_); clear hf a; intro a hf
    refine s_do hf (wanted_of hf rfl rfl rfl) (.value (x_bin (hf.eval rfl) (hf.eval rfl) (r_lt _ _ _ _) _) ?_); clear hf a; intro a hf
    refine s_v hf (x_pick_f (hf.eval rfl) (hf.eval rfl)) ?_; clear hf a; intro a hf
    refine s_m hf rfl ?_; clear hf a; intro a hf
    refine s_bool hf (k := 27) rfl (fun hg1_6 hf' => ?_) (fun hg1_6 hf' => ?_)
    · clear hf
      have hf := hf'
      clear hf'
      simp only [decide_eq_true_eq, decide_eq_false_iff_not, Bool.not_eq_true', Bool.not_eq_false', Bool.not_eq_true, Int.not_lt, Int.not_le] at hg1_6
      refine s_pass hf rfl rfl ?_; clear hf a; intro a hf
      refine s_pass hf rfl rfl ?_; clear hf a; intro a hf
      refine s_v hf (x_pick_t (hf.eval rfl) (hf.eval rfl)) ?_; clear hf a; intro a hf
      refine s_m hf rfl ?_; clear hf a; intro a hf
      refine s_pass hf rfl rfl ?_; clear hf a; intro a hf
      refine s_pass hf rfl rfl ?_; clear hf a; intro a hf
      refine s_pass hf rfl rfl ?_; clear hf a; intro a hf
      refine s_pass hf rfl rfl ?_; clear hf a; intro a hf
      refine s_v hf (x_pick_t (hf.eval rfl) (hf.eval rfl)) ?_; clear hf a; intro a hf
      refine s_nil ?_
      refine then_n ?_
      refine c_cond_t hf rfl rfl ?_
      refine wp_seq ?_
      refine wp_region_lit ?_
      refine s_a hf rfl ?_; clear hf a; intro a hf
      refine s_nil ?_
      refine then_n ?_
      refine wp_ret ?_
      refine then_r ?_
      refine r_1 hf Try.results4 rfl ?_
      exact ⟨rfl, hs.kept⟩
    · clear hf
      have hf := hf'
      clear hf'
      simp only [decide_eq_true_eq, decide_eq_false_iff_not, Bool.not_eq_true', Bool.not_eq_false', Bool.not_eq_true, Int.not_lt, Int.not_le] at hg1_6
      refine s_do hf (wanted_of hf rfl rfl rfl) (.value (x_move (hf.eval rfl) _) ?_); clear hf a; intro a hf
      refine s_do hf (wanted_of hf rfl rfl rfl) (.value (x_bin (hf.eval rfl) (hf.eval rfl) (r_gt _ _ _ _) _) ?_); clear hf a; intro a hf
      refine s_v hf (x_pick_f (hf.eval rfl) (hf.eval rfl)) ?_; clear hf a; intro a hf
      refine s_m hf rfl ?_; clear hf a; intro a hf
      refine s_bool hf (k := 31) rfl (fun hg1_10 hf' => ?_) (fun hg1_10 hf' => ?_)
      · clear hf
        have hf := hf'
        clear hf'
        simp only [decide_eq_true_eq, decide_eq_false_iff_not, Bool.not_eq_true', Bool.not_eq_false', Bool.not_eq_true, Int.not_lt, Int.not_le] at hg1_10
        refine s_pass hf rfl rfl ?_; clear hf a; intro a hf
        refine s_pass hf rfl rfl ?_; clear hf a; intro a hf
        refine s_pass hf rfl rfl ?_; clear hf a; intro a hf
        refine s_pass hf rfl rfl ?_; clear hf a; intro a hf
        refine s_v hf (x_pick_t (hf.eval rfl) (hf.eval rfl)) ?_; clear hf a; intro a hf
        refine s_nil ?_
        refine then_n ?_
        refine c_cond_t hf rfl rfl ?_
        refine wp_seq ?_
        refine wp_region_lit ?_
        refine s_a hf rfl ?_; clear hf a; intro a hf
        refine s_nil ?_
        refine then_n ?_
        refine wp_ret ?_
        refine then_r ?_
        refine r_1 hf Try.results4 rfl ?_
        exact ⟨rfl, hs.kept⟩
      · clear hf
        have hf := hf'
        clear hf'
        simp only [decide_eq_true_eq, decide_eq_false_iff_not, Bool.not_eq_true', Bool.not_eq_false', Bool.not_eq_true, Int.not_lt, Int.not_le] at hg1_10
        refine s_do hf (wanted_of hf rfl rfl rfl) (.value (x_move (hf.eval rfl) _) ?_); clear hf a; intro a hf
        refine s_do hf (wanted_of hf rfl rfl rfl) (.value (x_move (hf.eval rfl) _) ?_); clear hf a; intro a hf
        refine s_do hf (wanted_of hf rfl rfl rfl) (.value (x_bin (hf.eval rfl) (hf.eval rfl) (r_subi _ (by omega) (by omega)) _) ?_); clear hf a; intro a hf
        refine s_do hf (wanted_of hf rfl rfl rfl) (.value (x_bin (hf.eval rfl) (hf.eval rfl) (r_gt _ _ _ _) _) ?_); clear hf a; intro a hf
        refine s_v hf (x_pick_f (hf.eval rfl) (hf.eval rfl)) ?_; clear hf a; intro a hf
        refine s_nil ?_
        refine then_n ?_
        refine c_cond hf rfl (fun hi0 => ?_) (fun hi0 => ?_)
        · simp only [decide_eq_true_eq, decide_eq_false_iff_not, Bool.not_eq_true', Bool.not_eq_false', Bool.not_eq_true, Int.not_lt, Int.not_le] at hi0
          refine wp_seq ?_
          refine wp_region_lit ?_
          refine s_a hf rfl ?_; clear hf a; intro a hf
          refine s_nil ?_
          refine then_n ?_
          refine wp_ret ?_
          refine then_r ?_
          refine r_1 hf Try.results4 rfl ?_
          exact ⟨rfl, hs.kept⟩
        · simp only [decide_eq_true_eq, decide_eq_false_iff_not, Bool.not_eq_true', Bool.not_eq_false', Bool.not_eq_true, Int.not_lt, Int.not_le] at hi0
          have hE1 : joinE n = 0 := by unfold joinE; rw [if_neg (by omega)]
          have hE2 : joinE m = 0 := by unfold joinE; rw [if_neg (by omega)]
          have hE3 : joinE (n + m) = 0 := by unfold joinE; rw [if_neg (by omega)]
          have hch : joinR (joinR p q n) r m = joinR p (joinR q r m) (n + m) := by
            unfold joinR
            rw [if_neg (by omega), if_neg (by omega), if_neg (by omega), if_neg (by omega), join_chain, show (n + m).toNat = n.toNat + m.toNat by omega]
          refine wp_skip ?_
          refine then_n ?_
          refine wp_seq ?_
          refine wp_region_lit ?_
          refine s_m hf rfl ?_; clear hf a; intro a hf
          refine s_m hf rfl ?_; clear hf a; intro a hf
          refine s_m hf rfl ?_; clear hf a; intro a hf
          refine s_do hf rfl (y_call (hf.eval rfl) (hf.evals rfl) Try.call12 ((join_spec _ p q n hp0 hq0).mono ?_))
          rintro e w1 ⟨rfl, hk⟩
          replace hs := hs.ext hk
          refine ⟨_, rfl, ?_⟩; clear hf a; intro a hf
          refine s_m hf rfl ?_; clear hf a; intro a hf
          refine s_v hf (x_extract (hf.eval rfl) rfl) ?_; clear hf a; intro a hf
          refine s_v hf (x_extract (hf.eval rfl) rfl) ?_; clear hf a; intro a hf
          replace hf := hf.now (k := 43) (v' := .int .i64 0) rfl (congrArg (Value.int .i64) hE1)
          refine s_a hf rfl ?_; clear hf a; intro a hf
          refine s_a hf rfl ?_; clear hf a; intro a hf
          refine s_nil ?_
          refine then_n ?_
          refine wp_seq ?_
          refine wp_region_lit ?_
          refine s_m hf rfl ?_; clear hf a; intro a hf
          refine s_m hf rfl ?_; clear hf a; intro a hf
          refine s_m hf rfl ?_; clear hf a; intro a hf
          refine s_do hf rfl (y_call (hf.eval rfl) (hf.evals rfl) Try.call12 ((join_spec _ (joinR p q n) r m (joinR_lt hp0 hq0 n) hr0).mono ?_))
          rintro e w1 ⟨rfl, hk⟩
          replace hs := hs.ext hk
          refine ⟨_, rfl, ?_⟩; clear hf a; intro a hf
          refine s_m hf rfl ?_; clear hf a; intro a hf
          refine s_v hf (x_extract (hf.eval rfl) rfl) ?_; clear hf a; intro a hf
          refine s_v hf (x_extract (hf.eval rfl) rfl) ?_; clear hf a; intro a hf
          replace hf := hf.now (k := 50) (v' := .int .i64 0) rfl (congrArg (Value.int .i64) hE2)
          refine s_a hf rfl ?_; clear hf a; intro a hf
          refine s_a hf rfl ?_; clear hf a; intro a hf
          refine s_nil ?_
          refine then_n ?_
          refine wp_seq ?_
          refine wp_region_lit ?_
          refine s_m hf rfl ?_; clear hf a; intro a hf
          refine s_m hf rfl ?_; clear hf a; intro a hf
          refine s_m hf rfl ?_; clear hf a; intro a hf
          refine s_do hf rfl (y_call (hf.eval rfl) (hf.evals rfl) Try.call12 ((join_spec _ q r m hq0 hr0).mono ?_))
          rintro e w1 ⟨rfl, hk⟩
          replace hs := hs.ext hk
          refine ⟨_, rfl, ?_⟩; clear hf a; intro a hf
          refine s_m hf rfl ?_; clear hf a; intro a hf
          refine s_v hf (x_extract (hf.eval rfl) rfl) ?_; clear hf a; intro a hf
          refine s_v hf (x_extract (hf.eval rfl) rfl) ?_; clear hf a; intro a hf
          replace hf := hf.now (k := 57) (v' := .int .i64 0) rfl (congrArg (Value.int .i64) hE2)
          refine s_a hf rfl ?_; clear hf a; intro a hf
          refine s_a hf rfl ?_; clear hf a; intro a hf
          refine s_nil ?_
          refine then_n ?_
          refine wp_seq ?_
          refine wp_region_lit ?_
          refine s_m hf rfl ?_; clear hf a; intro a hf
          refine s_m hf rfl ?_; clear hf a; intro a hf
          refine s_m hf rfl ?_; clear hf a; intro a hf
          refine s_m hf rfl ?_; clear hf a; intro a hf
          refine s_v hf (x_bin (hf.eval rfl) (hf.eval rfl) (r_addi _ (by omega) (by omega))) ?_; clear hf a; intro a hf
          refine s_do hf rfl (y_call (hf.eval rfl) (hf.evals rfl) Try.call12 ((join_spec _ p (joinR q r m) (n + m) hp0 (joinR_lt hq0 hr0 m)).mono ?_))
          rintro e w1 ⟨rfl, hk⟩
          replace hs := hs.ext hk
          refine ⟨_, rfl, ?_⟩; clear hf a; intro a hf
          refine s_m hf rfl ?_; clear hf a; intro a hf
          refine s_v hf (x_extract (hf.eval rfl) rfl) ?_; clear hf a; intro a hf
          refine s_v hf (x_extract (hf.eval rfl) rfl) ?_; clear hf a; intro a hf
          replace hf := hf.now (k := 66) (v' := .int .i64 0) rfl (congrArg (Value.int .i64) hE3)
          refine s_a hf rfl ?_; clear hf a; intro a hf
          refine s_a hf rfl ?_; clear hf a; intro a hf
          refine s_nil ?_
          refine then_n ?_
          refine wp_seq ?_
          refine wp_seq ?_
          refine wp_region_lit ?_
          refine s_m hf rfl ?_; clear hf a; intro a hf
          refine s_do hf rfl (y_call (hf.eval rfl) (hf.evals rfl) Try.call14 ((num_spec _ _).mono ?_))
          rintro e w1 ⟨rfl, rfl⟩
          refine ⟨_, rfl, ?_⟩; clear hf a; intro a hf
          refine s_v hf (x_bin (hf.eval rfl) (hf.eval rfl) (r_ne _ _ _ _)) ?_; clear hf a; intro a hf
          refine s_m hf rfl ?_; clear hf a; intro a hf
          replace hf := hf.now (k := 70) (v' := .bool false) rfl (congrArg Value.bool rfl)
          refine s_do hf (wanted_of hf rfl rfl rfl) (.value (x_move (hf.eval rfl) _) ?_); clear hf a; intro a hf
          refine s_do hf (wanted_of hf rfl rfl rfl) (y_call (hf.eval rfl) (hf.evals rfl) Try.call14 ((num_spec _ _).mono ?_))
          rintro e w1 ⟨rfl, rfl⟩
          refine ⟨_, rfl, ?_⟩; clear hf a; intro a hf
          refine s_do hf (wanted_of hf rfl rfl rfl) (.value (x_bin (hf.eval rfl) (hf.eval rfl) (r_ne _ _ _ _) _) ?_); clear hf a; intro a hf
          refine s_v hf (x_pick_f (hf.eval rfl) (hf.eval rfl)) ?_; clear hf a; intro a hf
          refine s_m hf rfl ?_; clear hf a; intro a hf
          replace hf := hf.now (k := 75) (v' := .bool false) rfl (congrArg Value.bool rfl)
          refine s_do hf (wanted_of hf rfl rfl rfl) (.value (x_move (hf.eval rfl) _) ?_); clear hf a; intro a hf
          refine s_do hf (wanted_of hf rfl rfl rfl) (y_call (hf.eval rfl) (hf.evals rfl) Try.call14 ((num_spec _ _).mono ?_))
          rintro e w1 ⟨rfl, rfl⟩
          refine ⟨_, rfl, ?_⟩; clear hf a; intro a hf
          refine s_do hf (wanted_of hf rfl rfl rfl) (.value (x_bin (hf.eval rfl) (hf.eval rfl) (r_ne _ _ _ _) _) ?_); clear hf a; intro a hf
          refine s_v hf (x_pick_f (hf.eval rfl) (hf.eval rfl)) ?_; clear hf a; intro a hf
          refine s_m hf rfl ?_; clear hf a; intro a hf
          replace hf := hf.now (k := 80) (v' := .bool false) rfl (congrArg Value.bool rfl)
          refine s_do hf (wanted_of hf rfl rfl rfl) (.value (x_move (hf.eval rfl) _) ?_); clear hf a; intro a hf
          refine s_do hf (wanted_of hf rfl rfl rfl) (y_call (hf.eval rfl) (hf.evals rfl) Try.call14 ((num_spec _ _).mono ?_))
          rintro e w1 ⟨rfl, rfl⟩
          refine ⟨_, rfl, ?_⟩; clear hf a; intro a hf
          refine s_do hf (wanted_of hf rfl rfl rfl) (.value (x_bin (hf.eval rfl) (hf.eval rfl) (r_ne _ _ _ _) _) ?_); clear hf a; intro a hf
          refine s_v hf (x_pick_f (hf.eval rfl) (hf.eval rfl)) ?_; clear hf a; intro a hf
          refine s_nil ?_
          refine then_n ?_
          refine c_cond_f hf rfl rfl ?_
          refine wp_skip ?_
          refine then_n ?_
          refine wp_seq ?_
          refine wp_region_lit ?_
          refine s_do hf rfl (y_call (hf.eval rfl) (hf.evals rfl) Try.call12 ((join_spec _ 3904355907 3904355907 1 (by decide) (by decide)).mono ?_))
          rintro e w1 ⟨rfl, hk⟩
          replace hs := hs.ext hk
          refine ⟨_, rfl, ?_⟩; clear hf a; intro a hf
          refine s_m hf rfl ?_; clear hf a; intro a hf
          refine s_v hf (x_extract (hf.eval rfl) rfl) ?_; clear hf a; intro a hf
          refine s_v hf (x_extract (hf.eval rfl) rfl) ?_; clear hf a; intro a hf
          replace hf := hf.now (k := 88) (v' := .int .i64 0) rfl (congrArg (Value.int .i64) (show joinE 1 = 0 by decide))
          refine s_a hf rfl ?_; clear hf a; intro a hf
          refine s_a hf rfl ?_; clear hf a; intro a hf
          refine s_nil ?_
          refine then_n ?_
          refine wp_seq ?_
          refine wp_region_lit ?_
          refine s_m hf rfl ?_; clear hf a; intro a hf
          refine s_m hf rfl ?_; clear hf a; intro a hf
          refine s_v hf (x_bin (hf.eval rfl) (hf.eval rfl) (r_eq _ _ _ _)) ?_; clear hf a; intro a hf
          replace hf := hf.now (k := 91) (v' := .bool true) rfl (by rw [hch]; simp)
          refine s_m hf rfl ?_; clear hf a; intro a hf
          replace hf := hf.now (k := 92) (v' := .bool true) rfl (congrArg Value.bool rfl)
          refine s_do hf (wanted_of hf rfl rfl rfl) (.value (x_move (hf.eval rfl) _) ?_); clear hf a; intro a hf
          have hc : joinR 3904355907 3904355907 1 = 126491095 := by decide +kernel
          refine s_do hf (wanted_of hf rfl rfl rfl) (.value (x_bin (hf.eval rfl) (hf.eval rfl) (r_eq _ _ _ _) _) ?_); clear hf a; intro a hf
          replace hf := hf.now (k := 94) (v' := .bool true) rfl (by rw [hc]; rfl)
          refine s_v hf (x_pick_t (hf.eval rfl) (hf.eval rfl)) ?_; clear hf a; intro a hf
          refine s_m hf rfl ?_; clear hf a; intro a hf
          replace hf := hf.now (k := 96) (v' := .bool true) rfl (congrArg Value.bool rfl)
          refine s_do hf (wanted_of hf rfl rfl rfl) (.value (x_move (hf.eval rfl) _) ?_); clear hf a; intro a hf
          refine s_do hf (wanted_of hf rfl rfl rfl) (y_call (hf.eval rfl) (hf.evals rfl) Try.call14 ((num_spec _ _).mono ?_))
          rintro e w1 ⟨rfl, rfl⟩
          refine ⟨_, rfl, ?_⟩; clear hf a; intro a hf
          refine s_do hf (wanted_of hf rfl rfl rfl) (.value (x_bin (hf.eval rfl) (hf.eval rfl) (r_eq _ _ _ _) _) ?_); clear hf a; intro a hf
          refine s_v hf (x_pick_t (hf.eval rfl) (hf.eval rfl)) ?_; clear hf a; intro a hf
          refine s_a hf rfl ?_; clear hf a; intro a hf
          refine s_nil ?_
          refine then_n ?_
          refine wp_ret ?_
          refine r_1 hf Try.results4 rfl ?_
          exact ⟨by simp, hs.kept⟩

end Go.Proofs.Ytfcmklmeinchhaa
