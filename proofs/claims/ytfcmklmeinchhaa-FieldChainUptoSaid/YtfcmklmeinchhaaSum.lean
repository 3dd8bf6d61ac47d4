/- The sum: the table of half bytes and bit by bit. -/
import Derived.Test.YtfcmklmeinchhaaVE
import Derived.Test.YtfcmklmeinchhaaProg
import Derived.Test.YtfcmklmeinchhaaFacts
set_option maxRecDepth 100000
set_option linter.all false
namespace Go.Proofs.Ytfcmklmeinchhaa
open Go Vw
theorem moved_spec (w : World) (x : Nat) (hx : x < 4294967296) : Calls Try.prog 74 #[.int .u32 ((x : Nat) : Int)] w fun e w' => e = .returned (.int .u32 ((mv x : Nat) : Int)) ∧ w' = w := by
  refine c_enter (N := 11) Try.func74 rfl Try.ntmps74 (by simp) ?_
  intro a hf
  refine wp_seq ?_
  refine wp_region_lit ?_
  refine s_a hf rfl ?_; clear hf a; intro a hf
  refine s_nil ?_
  refine then_n ?_
  refine wp_seq ?_
  refine wp_seq ?_
  refine wp_region_lit ?_
  refine s_m hf rfl ?_; clear hf a; intro a hf
  refine s_v hf (x_bin (hf.eval rfl) (hf.eval rfl) (r_remn _ _ (by omega) (by omega))) ?_; clear hf a; intro a hf
  refine s_v hf (x_bin (hf.eval rfl) (hf.eval rfl) (r_eq _ _ _ _)) ?_; clear hf a; intro a hf
  refine s_nil ?_
  refine then_n ?_
  refine c_cond hf rfl (fun hi0 => ?_) (fun hi0 => ?_)
  · simp only [decide_eq_true_eq, decide_eq_false_iff_not] at hi0
    refine wp_seq ?_
    refine wp_region_lit ?_
    refine s_m hf rfl ?_; clear hf a; intro a hf
    refine s_v hf (x_bin (hf.eval rfl) (hf.eval rfl) (r_quo _ _ (by omega))) ?_; clear hf a; intro a hf
    replace hf := hf.now (k := 7) (v' := .int .u32 ((x / 2 : Nat) : Int)) rfl (by rw [tdiv_nn (by omega) (by omega), wrap_u32]; congr 1; omega)
    refine s_v hf (x_bin (hf.eval rfl) (hf.eval rfl) (r_xor_u32 _ (y := 3988292384) (by omega) (by omega))) ?_; clear hf a; intro a hf
    refine s_a hf rfl ?_; clear hf a; intro a hf
    refine s_nil ?_
    refine then_n ?_
    refine wp_ret ?_
    refine then_r ?_
    refine r_1 hf Try.results74 rfl ?_
    exact ⟨by unfold mv; rw [if_pos (by omega)], rfl⟩
  · simp only [decide_eq_true_eq, decide_eq_false_iff_not] at hi0
    refine wp_skip ?_
    refine then_n ?_
    refine wp_seq ?_
    refine wp_region_lit ?_
    refine s_m hf rfl ?_; clear hf a; intro a hf
    refine s_v hf (x_bin (hf.eval rfl) (hf.eval rfl) (r_quo _ _ (by omega))) ?_; clear hf a; intro a hf
    replace hf := hf.now (k := 10) (v' := .int .u32 ((x / 2 : Nat) : Int)) rfl (by rw [tdiv_nn (by omega) (by omega), wrap_u32]; congr 1; omega)
    refine s_a hf rfl ?_; clear hf a; intro a hf
    refine s_nil ?_
    refine then_n ?_
    refine wp_ret ?_
    refine r_1 hf Try.results74 rfl ?_
    exact ⟨by unfold mv; rw [if_neg (by omega), Nat.xor_zero], rfl⟩

end Go.Proofs.Ytfcmklmeinchhaa
