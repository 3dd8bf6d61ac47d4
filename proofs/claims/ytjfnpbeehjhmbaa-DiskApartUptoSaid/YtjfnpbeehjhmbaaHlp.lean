/- The helpers of the statements of chapter 2. -/
import Derived.Test.YtjfnpbeehjhmbaaVD
import Derived.Test.YtjfnpbeehjhmbaaProg
import Derived.Test.YtjfnpbeehjhmbaaFacts
set_option maxRecDepth 100000
set_option linter.all false
namespace Go.Proofs.Ytjfnpbeehjhmbaa
open Go Vw
theorem num_spec (w : World) (n : Int) : Calls Try.prog 27 #[.int .i64 n] w fun e w' => e = .returned (.int .i64 n) ∧ w' = w := by
  refine c_enter (N := 4) Try.func27 rfl Try.ntmps27 (by simp) ?_
  intro a hf
  refine wp_seq ?_
  refine wp_region_lit ?_
  refine s_a hf rfl ?_; clear hf a; intro a hf
  refine s_nil ?_
  refine then_n ?_
  refine wp_seq ?_
  refine wp_region_lit ?_
  refine s_m hf rfl ?_; clear hf a; intro a hf
  refine s_a hf rfl ?_; clear hf a; intro a hf
  refine s_nil ?_
  refine then_n ?_
  refine wp_ret ?_
  refine r_1 hf Try.results27 rfl ?_
  exact ⟨rfl, rfl⟩

theorem same_spec (w0 : World) (a1 : Option Addr) (c1 : Nat) (l1 : List UInt8) (hr1 : RdB (hp w0) (.slice a1 l1.length c1) l1) (a2 : Option Addr) (c2 : Nat) (l2 : List UInt8) (hr2 : RdB (hp w0) (.slice a2 l2.length c2) l2) (hl1 : l1.length ≤ 140737488355328) : Calls Try.prog 24 #[.slice a1 l1.length c1, .slice a2 l2.length c2] w0 fun e w' => e = .returned (.bool (decide (l1 = l2))) ∧ Kept w0 w' None_ := by
  have hs := St.start w0 None_
  refine c_enter (N := 26) Try.func24 rfl Try.ntmps24 (by simp) ?_
  intro a hf
  refine wp_seq ?_
  refine wp_region_lit ?_
  refine s_a hf rfl ?_; clear hf a; intro a hf
  refine s_nil ?_
  refine then_n ?_
  refine wp_seq ?_
  refine wp_seq ?_
  refine wp_region_lit ?_
  refine s_m hf rfl ?_; clear hf a; intro a hf
  refine s_v hf (x_len Try.underlying22 (hf.eval rfl)) ?_; clear hf a; intro a hf
  refine s_m hf rfl ?_; clear hf a; intro a hf
  refine s_v hf (x_len Try.underlying22 (hf.eval rfl)) ?_; clear hf a; intro a hf
  refine s_v hf (x_bin (hf.eval rfl) (hf.eval rfl) (r_ne _ _ _ _)) ?_; clear hf a; intro a hf
  refine s_nil ?_
  refine then_n ?_
  refine c_cond hf rfl (fun hi0 => ?_) (fun hi0 => ?_)
  · simp only [decide_eq_true_eq, decide_eq_false_iff_not, Bool.not_eq_true', Bool.not_eq_false', Bool.not_eq_true, Int.not_lt, Int.not_le] at hi0
    refine wp_seq ?_
    refine wp_region_lit ?_
    refine s_a hf rfl ?_; clear hf a; intro a hf
    refine s_nil ?_
    refine then_n ?_
    refine wp_ret ?_
    refine then_r ?_
    refine r_1 hf Try.results24 rfl ?_
    exact ⟨by rw [decide_eq_false (fun e => hi0 (by rw [e]))], hs.kept⟩
  · simp only [decide_eq_true_eq, decide_eq_false_iff_not, Bool.not_eq_true', Bool.not_eq_false', Bool.not_eq_true, Int.not_lt, Int.not_le] at hi0
    refine wp_skip ?_
    refine then_n ?_
    refine wp_seq ?_
    refine wp_seq ?_
    refine wp_region_lit ?_
    refine s_a hf rfl ?_; clear hf a; intro a hf
    refine s_nil ?_
    refine then_n ?_
    refine wp_block ?_
    refine c_loop (L0 := [(0, _), (1, _)]) (fun M w m => ∃ i : Nat, M = [(5, .int .i64 (i : Int))] ∧ l1.length - i = m ∧ i ≤ l1.length ∧ l1.take i = l2.take i ∧ St ⟨w0, None_⟩ w []) (M0 := [(5, .int .i64 (0 : Nat))]) (⟨0, rfl, rfl, Nat.zero_le _, rfl, hs⟩) (hf.sub ⟨rfl, rfl, rfl, trivial⟩) ?_
    clear hf hs a
    rintro M m a w ⟨i, rfl, rfl, hi, hq, hs⟩ hf
    refine wp_seq ?_
    refine wp_seq ?_
    refine wp_region_lit ?_
    refine s_m hf rfl ?_; clear hf a; intro a hf
    refine s_m hf rfl ?_; clear hf a; intro a hf
    refine s_v hf (x_len Try.underlying22 (hf.eval rfl)) ?_; clear hf a; intro a hf
    refine s_v hf (x_bin (hf.eval rfl) (hf.eval rfl) (r_lt _ _ _ _)) ?_; clear hf a; intro a hf
    refine s_nil ?_
    refine then_n ?_
    refine c_cond hf rfl (fun hi1 => ?_) (fun hi1 => ?_)
    · simp only [decide_eq_true_eq, decide_eq_false_iff_not, Bool.not_eq_true', Bool.not_eq_false', Bool.not_eq_true, Int.not_lt, Int.not_le] at hi1
      obtain ⟨x1, rfl⟩ := hr1.some (by omega)
      obtain ⟨x2, rfl⟩ := hr2.some (by omega)
      have hlt : i < l1.length := by omega
      have hlt2 : i < l2.length := by omega
      refine wp_skip ?_
      refine then_n ?_
      refine wp_seq ?_
      refine wp_block ?_
      refine wp_seq ?_
      refine c_draw hs (fun _ => True) [.held, .held, .held, .read, .held, .held, .held, .read, .held] (by kernel_rfl) (by kernel_rfl) (fun _ _ _ => trivial) ?_
      clear hs; intro w hs hC hw
      refine m_held hf rfl (fun w' _ => x_move (hf.eval rfl) w') ?_; clear hf a; intro a hf
      refine m_held hf rfl (fun w' _ => x_move (hf.eval rfl) w') ?_; clear hf a; intro a hf
      refine m_held hf rfl (fun w' _ => x_indexAddr sl22 (hf.eval rfl) (hf.eval rfl) (by omega) (by omega) w') ?_; clear hf a; intro a hf
      refine m_read hf rfl (x_loadB sc5 (hs.oldB hr1) (hf.eval rfl) (by omega)) ?_; clear hf a; intro a hf
      replace hf := hf.now (k := 20) (v' := u8v l1[i]) rfl rfl
      refine m_held hf rfl (fun w' _ => x_move (hf.eval rfl) w') ?_; clear hf a; intro a hf
      refine m_held hf rfl (fun w' _ => x_move (hf.eval rfl) w') ?_; clear hf a; intro a hf
      refine m_held hf rfl (fun w' _ => x_indexAddr sl22 (hf.eval rfl) (hf.eval rfl) (by omega) (by omega) w') ?_; clear hf a; intro a hf
      refine m_read hf rfl (x_loadB sc5 (hs.oldB hr2) (hf.eval rfl) (by omega)) ?_; clear hf a; intro a hf
      replace hf := hf.now (k := 24) (v' := u8v l2[i]) rfl rfl
      refine m_held hf rfl (fun w' _ => x_bin (hf.eval rfl) (hf.eval rfl) (r_ne _ _ _ _) w') ?_; clear hf a; intro a hf
      refine m_nil ?_
      refine then_n ?_
      refine c_cond hf rfl (fun hi2 => ?_) (fun hi2 => ?_)
      · simp only [decide_eq_true_eq, decide_eq_false_iff_not, Bool.not_eq_true', Bool.not_eq_false', Bool.not_eq_true, Int.not_lt, Int.not_le] at hi2
        refine wp_seq ?_
        refine wp_region_lit ?_
        refine s_a hf rfl ?_; clear hf a; intro a hf
        refine s_nil ?_
        refine then_n ?_
        refine wp_ret ?_
        refine blk_r (then_r (then_r (blk_r (then_r ?_))))
        refine r_1 hf Try.results24 rfl ?_
        exact ⟨by rw [decide_eq_false (fun e => hi2 (by subst e; rfl))], hs.kept⟩
      · simp only [decide_eq_true_eq, decide_eq_false_iff_not, Bool.not_eq_true', Bool.not_eq_false', Bool.not_eq_true, Int.not_lt, Int.not_le] at hi2
        have heq : l1[i] = l2[i] := UInt8.toNat_inj.1 (by omega)
        refine wp_skip ?_
        refine blk_n ?_
        refine then_n ?_
        refine wp_region_lit ?_
        refine s_m hf rfl ?_; clear hf a; intro a hf
        refine s_v hf (x_bin (hf.eval rfl) (hf.eval rfl) (r_addi _ (by omega) (by omega))) ?_; clear hf a; intro a hf
        refine s_a hf rfl ?_; clear hf a; intro a hf
        refine s_nil ?_
        have hlt : i < l1.length := by omega
        exact ⟨_, _, ⟨i + 1, rfl, rfl, by omega, by rw [List.take_succ_eq_append_getElem hlt, List.take_succ_eq_append_getElem (show i < l2.length by omega), hq, heq], hs⟩, by omega, hf.sub ⟨rfl, rfl, rfl, trivial⟩⟩
    · simp only [decide_eq_true_eq, decide_eq_false_iff_not, Bool.not_eq_true', Bool.not_eq_false', Bool.not_eq_true, Int.not_lt, Int.not_le] at hi1
      refine wp_exit ?_
      refine then_x ?_
      refine then_x ?_
      refine blk_x ?_
      refine then_n ?_
      refine wp_seq ?_
      refine wp_region_lit ?_
      refine s_a hf rfl ?_; clear hf a; intro a hf
      refine s_nil ?_
      refine then_n ?_
      refine wp_ret ?_
      refine r_1 hf Try.results24 rfl ?_
      have hi' : i = l1.length := by omega
      exact ⟨by rw [decide_eq_true (by rw [hi', List.take_length, show l1.length = l2.length by omega, List.take_length] at hq; exact hq)], hs.kept⟩

end Go.Proofs.Ytjfnpbeehjhmbaa
