/- Texts 12 of 16 that the law rests on: the small library, contracts of functions, printed by a program. -/
import Derived.Test.YtehakfbfjpolfaaDoorProg
import Derived.Test.YtehakfbfjpolfaaDoorAg1
import Derived.Test.YtehakfbfjpolfaaDoorAg2
import Derived.Test.YtehakfbfjpolfaaDoorAg3
import Derived.Test.YtehakfbfjpolfaaDoorAg4
import Derived.Test.YtehakfbfjpolfaaDoorAg5
import Derived.Test.YtehakfbfjpolfaaDoorAg6
import Derived.Test.YtehakfbfjpolfaaDoorAg7
import Derived.Test.YtehakfbfjpolfaaDoorAg8
import Derived.Test.YtehakfbfjpolfaaDoorAg9
import Derived.Test.YtehakfbfjpolfaaDoorAg10
import Derived.Test.YtehakfbfjpolfaaDoorAg11
set_option maxRecDepth 100000
set_option linter.all false
namespace Go.Proofs.YtehakfbfjpolfaaDoor
open Go Vw
theorem ag24 : AgT Tryd.prog 24 7 := ⟨fun w => Tryd.isAgg24 w, fun w => Tryd.sizeOf24 w⟩
theorem ag45 : AgT Tryd.prog 45 3 := ⟨fun w => Tryd.isAgg45 w, fun w => Tryd.sizeOf45 w⟩
theorem ag82 : AgT Tryd.prog 82 5 := ⟨fun w => Tryd.isAgg82 w, fun w => Tryd.sizeOf82 w⟩
theorem ag91 : AgT Tryd.prog 91 2 := ⟨fun w => Tryd.isAgg91 w, fun w => Tryd.sizeOf91 w⟩
theorem ag100 : AgT Tryd.prog 100 3 := ⟨fun w => Tryd.isAgg100 w, fun w => Tryd.sizeOf100 w⟩
theorem ag110 : AgT Tryd.prog 110 2 := ⟨fun w => Tryd.isAgg110 w, fun w => Tryd.sizeOf110 w⟩
theorem ag113 : AgT Tryd.prog 113 2 := ⟨fun w => Tryd.isAgg113 w, fun w => Tryd.sizeOf113 w⟩
theorem fo24_0 : FoT Tryd.prog 24 0 0 := ⟨_, _, 0, Tryd.underlying24, rfl, rfl, fun w => Tryd.sizeOf3 w⟩
theorem fo24_1 : FoT Tryd.prog 24 1 1 := ⟨_, _, 0, Tryd.underlying24, rfl, rfl, fun w => Tryd.sizeOf3 w⟩
theorem fo24_2 : FoT Tryd.prog 24 2 2 := ⟨_, _, 0, Tryd.underlying24, rfl, rfl, fun w => Tryd.sizeOf3 w⟩
theorem fo24_3 : FoT Tryd.prog 24 3 3 := ⟨_, _, 0, Tryd.underlying24, rfl, rfl, fun w => Tryd.sizeOf3 w⟩
theorem fo24_4 : FoT Tryd.prog 24 4 4 := ⟨_, _, 0, Tryd.underlying24, rfl, rfl, fun w => Tryd.sizeOf3 w⟩
theorem fo24_5 : FoT Tryd.prog 24 5 5 := ⟨_, _, 0, Tryd.underlying24, rfl, rfl, fun w => Tryd.sizeOf3 w⟩
theorem fo24_6 : FoT Tryd.prog 24 6 6 := ⟨_, _, 0, Tryd.underlying24, rfl, rfl, fun w => Tryd.sizeOf22 w⟩
theorem fo45_0 : FoT Tryd.prog 45 0 0 := ⟨_, _, 0, Tryd.underlying45, rfl, rfl, fun w => Tryd.sizeOf3 w⟩
theorem fo45_2 : FoT Tryd.prog 45 2 2 := ⟨_, _, 0, Tryd.underlying45, rfl, rfl, fun w => Tryd.sizeOf3 w⟩
theorem fo69_0 : FoT Tryd.prog 69 0 0 := ⟨_, _, 0, Tryd.underlying69, rfl, rfl, fun w => Tryd.sizeOf3 w⟩
theorem fo69_1 : FoT Tryd.prog 69 1 1 := ⟨_, _, 0, Tryd.underlying69, rfl, rfl, fun w => Tryd.sizeOf67 w⟩
theorem fo69_2 : FoT Tryd.prog 69 2 2 := ⟨_, _, 0, Tryd.underlying69, rfl, rfl, fun w => Tryd.sizeOf3 w⟩
theorem fo82_0 : FoT Tryd.prog 82 0 0 := ⟨_, _, 2, Tryd.underlying82, rfl, rfl, fun w => Tryd.sizeOf45 w⟩
theorem fo82_1 : FoT Tryd.prog 82 1 3 := ⟨_, _, 0, Tryd.underlying82, rfl, rfl, fun w => Tryd.sizeOf25 w⟩
theorem fo82_2 : FoT Tryd.prog 82 2 4 := ⟨_, _, 0, Tryd.underlying82, rfl, rfl, fun w => Tryd.sizeOf80 w⟩
theorem fo91_0 : FoT Tryd.prog 91 0 0 := ⟨_, _, 0, Tryd.underlying91, rfl, rfl, fun w => Tryd.sizeOf3 w⟩
theorem fo91_1 : FoT Tryd.prog 91 1 1 := ⟨_, _, 0, Tryd.underlying91, rfl, rfl, fun w => Tryd.sizeOf3 w⟩
theorem fo94_0 : FoT Tryd.prog 94 0 0 := ⟨_, _, 0, Tryd.underlying94, rfl, rfl, fun w => Tryd.sizeOf3 w⟩
theorem fo94_1 : FoT Tryd.prog 94 1 1 := ⟨_, _, 0, Tryd.underlying94, rfl, rfl, fun w => Tryd.sizeOf25 w⟩
theorem fo94_2 : FoT Tryd.prog 94 2 2 := ⟨_, _, 0, Tryd.underlying94, rfl, rfl, fun w => Tryd.sizeOf25 w⟩
theorem fo94_3 : FoT Tryd.prog 94 3 3 := ⟨_, _, 0, Tryd.underlying94, rfl, rfl, fun w => Tryd.sizeOf92 w⟩
theorem fo94_4 : FoT Tryd.prog 94 4 4 := ⟨_, _, 0, Tryd.underlying94, rfl, rfl, fun w => Tryd.sizeOf67 w⟩
theorem fo94_5 : FoT Tryd.prog 94 5 5 := ⟨_, _, 0, Tryd.underlying94, rfl, rfl, fun w => Tryd.sizeOf3 w⟩
theorem fo94_6 : FoT Tryd.prog 94 6 6 := ⟨_, _, 0, Tryd.underlying94, rfl, rfl, fun w => Tryd.sizeOf3 w⟩
theorem fo94_7 : FoT Tryd.prog 94 7 7 := ⟨_, _, 0, Tryd.underlying94, rfl, rfl, fun w => Tryd.sizeOf4 w⟩
theorem fo100_0 : FoT Tryd.prog 100 0 0 := ⟨_, _, 0, Tryd.underlying100, rfl, rfl, fun w => Tryd.sizeOf3 w⟩
theorem fo100_1 : FoT Tryd.prog 100 1 1 := ⟨_, _, 0, Tryd.underlying100, rfl, rfl, fun w => Tryd.sizeOf3 w⟩
theorem fo100_2 : FoT Tryd.prog 100 2 2 := ⟨_, _, 0, Tryd.underlying100, rfl, rfl, fun w => Tryd.sizeOf3 w⟩
theorem fo102_0 : FoT Tryd.prog 102 0 0 := ⟨_, _, 0, Tryd.underlying102, rfl, rfl, fun w => Tryd.sizeOf49 w⟩
theorem fo102_1 : FoT Tryd.prog 102 1 1 := ⟨_, _, 0, Tryd.underlying102, rfl, rfl, fun w => Tryd.sizeOf3 w⟩
theorem fo102_2 : FoT Tryd.prog 102 2 2 := ⟨_, _, 0, Tryd.underlying102, rfl, rfl, fun w => Tryd.sizeOf3 w⟩
theorem fo102_3 : FoT Tryd.prog 102 3 3 := ⟨_, _, 0, Tryd.underlying102, rfl, rfl, fun w => Tryd.sizeOf80 w⟩
theorem fo102_4 : FoT Tryd.prog 102 4 4 := ⟨_, _, 6, Tryd.underlying102, rfl, rfl, fun w => Tryd.sizeOf24 w⟩
theorem fo102_5 : FoT Tryd.prog 102 5 11 := ⟨_, _, 0, Tryd.underlying102, rfl, rfl, fun w => Tryd.sizeOf25 w⟩
theorem fo102_6 : FoT Tryd.prog 102 6 12 := ⟨_, _, 2, Tryd.underlying102, rfl, rfl, fun w => Tryd.sizeOf100 w⟩
theorem fo110_0 : FoT Tryd.prog 110 0 0 := ⟨_, _, 0, Tryd.underlying110, rfl, rfl, fun w => Tryd.sizeOf3 w⟩
theorem fo110_1 : FoT Tryd.prog 110 1 1 := ⟨_, _, 0, Tryd.underlying110, rfl, rfl, fun w => Tryd.sizeOf25 w⟩
theorem fo113_0 : FoT Tryd.prog 113 0 0 := ⟨_, _, 0, Tryd.underlying113, rfl, rfl, fun w => Tryd.sizeOf3 w⟩
theorem fo113_1 : FoT Tryd.prog 113 1 1 := ⟨_, _, 0, Tryd.underlying113, rfl, rfl, fun w => Tryd.sizeOf25 w⟩
theorem fo115_0 : FoT Tryd.prog 115 0 0 := ⟨_, _, 0, Tryd.underlying115, rfl, rfl, fun w => Tryd.sizeOf25 w⟩
theorem fo115_1 : FoT Tryd.prog 115 1 1 := ⟨_, _, 0, Tryd.underlying115, rfl, rfl, fun w => Tryd.sizeOf3 w⟩
theorem fo115_2 : FoT Tryd.prog 115 2 2 := ⟨_, _, 0, Tryd.underlying115, rfl, rfl, fun w => Tryd.sizeOf26 w⟩
theorem fo119_0 : FoT Tryd.prog 119 0 0 := ⟨_, _, 0, Tryd.underlying119, rfl, rfl, fun w => Tryd.sizeOf25 w⟩
theorem fo119_1 : FoT Tryd.prog 119 1 1 := ⟨_, _, 0, Tryd.underlying119, rfl, rfl, fun w => Tryd.sizeOf3 w⟩
theorem fo119_2 : FoT Tryd.prog 119 2 2 := ⟨_, _, 0, Tryd.underlying119, rfl, rfl, fun w => Tryd.sizeOf26 w⟩
theorem sc3 : ScT Tryd.prog 3 := ⟨fun w => Tryd.isAgg3 w, fun w => Tryd.sizeOf3 w⟩
theorem sc4 : ScT Tryd.prog 4 := ⟨fun w => Tryd.isAgg4 w, fun w => Tryd.sizeOf4 w⟩
theorem sc5 : ScT Tryd.prog 5 := ⟨fun w => Tryd.isAgg5 w, fun w => Tryd.sizeOf5 w⟩
theorem sc22 : ScT Tryd.prog 22 := ⟨fun w => Tryd.isAgg22 w, fun w => Tryd.sizeOf22 w⟩
theorem sc25 : ScT Tryd.prog 25 := ⟨fun w => Tryd.isAgg25 w, fun w => Tryd.sizeOf25 w⟩
theorem sc26 : ScT Tryd.prog 26 := ⟨fun w => Tryd.isAgg26 w, fun w => Tryd.sizeOf26 w⟩
theorem sc49 : ScT Tryd.prog 49 := ⟨fun w => Tryd.isAgg49 w, fun w => Tryd.sizeOf49 w⟩
theorem sc67 : ScT Tryd.prog 67 := ⟨fun w => Tryd.isAgg67 w, fun w => Tryd.sizeOf67 w⟩
theorem sc73 : ScT Tryd.prog 73 := ⟨fun w => Tryd.isAgg73 w, fun w => Tryd.sizeOf73 w⟩
theorem sc80 : ScT Tryd.prog 80 := ⟨fun w => Tryd.isAgg80 w, fun w => Tryd.sizeOf80 w⟩
theorem sc92 : ScT Tryd.prog 92 := ⟨fun w => Tryd.isAgg92 w, fun w => Tryd.sizeOf92 w⟩
theorem sl25 : SlT Tryd.prog 25 5 1 1 (.int .u8 0) := ⟨Tryd.underlying25, by decide, rfl, Tryd.t5, by kernel_rfl, rfl, rfl, rfl⟩
theorem sl34 : SlT Tryd.prog 34 25 1 24 (.slice none 0 0) := ⟨Tryd.underlying34, by decide, rfl, Tryd.t25, by kernel_rfl, rfl, rfl, rfl⟩
theorem sl67 : SlT Tryd.prog 67 3 1 8 (.int .i64 0) := ⟨Tryd.underlying67, by decide, rfl, Tryd.t3, by kernel_rfl, rfl, rfl, rfl⟩
theorem sl80 : SlT Tryd.prog 80 110 2 32 (.agg #[.int .i64 0, .slice none 0 0]) := ⟨Tryd.underlying80, by decide, rfl, Tryd.t110, by kernel_rfl, rfl, rfl, rfl⟩
theorem sl87 : SlT Tryd.prog 87 91 2 16 (.agg #[.int .i64 0, .int .i64 0]) := ⟨Tryd.underlying87, by decide, rfl, Tryd.t91, by kernel_rfl, rfl, rfl, rfl⟩
theorem sl103 : SlT Tryd.prog 103 73 1 8 (.nilFunc) := ⟨Tryd.underlying103, by decide, rfl, Tryd.t73, by kernel_rfl, rfl, rfl, rfl⟩
theorem sl111 : SlT Tryd.prog 111 113 2 32 (.agg #[.int .i64 0, .slice none 0 0]) := ⟨Tryd.underlying111, by decide, rfl, Tryd.t113, by kernel_rfl, rfl, rfl, rfl⟩
end Go.Proofs.YtehakfbfjpolfaaDoor

namespace Go.Proofs.YtehakfbfjpolfaaDoor
open Go Vw
theorem num_spec (w : World) (n : Int) : Calls Tryd.prog 13 #[.int .i64 n] w fun e w' => e = .returned (.int .i64 n) ∧ w' = w := by
  refine c_enter (N := 4) Tryd.func13 rfl Tryd.ntmps13 (by simp) ?_
  intro a hf
  refine wp_seq ?_
  refine wp_region_lit ?_
  refine s_a hf rfl ?_; clear hf a; intro a hf
  refine s_nil ?_
  refine then_n ?_
  refine wp_seq ?_
  refine wp_region_lit ?_
  refine s_m hf rfl ?_; clear hf a; intro a hf
  refine s_a hf rfl ?_; clear hf a; intro a hf
  refine s_nil ?_
  refine then_n ?_
  refine wp_ret ?_
  refine r_1 hf Tryd.results13 rfl ?_
  exact ⟨rfl, rfl⟩
theorem same_spec (w0 : World) (a1 : Option Addr) (c1 : Nat) (l1 : List UInt8) (hr1 : RdB (hp w0) (.slice a1 l1.length c1) l1) (a2 : Option Addr) (c2 : Nat) (l2 : List UInt8) (hr2 : RdB (hp w0) (.slice a2 l2.length c2) l2) (hl1 : l1.length ≤ 140737488355328) : Calls Tryd.prog 12 #[.slice a1 l1.length c1, .slice a2 l2.length c2] w0 fun e w' => e = .returned (.bool (decide (l1 = l2))) ∧ Kept w0 w' None_ := by
  have hs := St.start w0 None_
  refine c_enter (N := 26) Tryd.func12 rfl Tryd.ntmps12 (by simp) ?_
  intro a hf
  refine wp_seq ?_
  refine wp_region_lit ?_
  refine s_a hf rfl ?_; clear hf a; intro a hf
  refine s_nil ?_
  refine then_n ?_
  refine wp_seq ?_
  refine wp_seq ?_
  refine wp_region_lit ?_
  refine s_m hf rfl ?_; clear hf a; intro a hf
  refine s_v hf (x_len Tryd.underlying25 (hf.eval rfl)) ?_; clear hf a; intro a hf
  refine s_m hf rfl ?_; clear hf a; intro a hf
  refine s_v hf (x_len Tryd.underlying25 (hf.eval rfl)) ?_; clear hf a; intro a hf
  refine s_v hf (x_bin (hf.eval rfl) (hf.eval rfl) (r_ne _ _ _ _)) ?_; clear hf a; intro a hf
  refine s_nil ?_
  refine then_n ?_
  refine c_cond hf rfl (fun hi0 => ?_) (fun hi0 => ?_)
  · simp only [decide_eq_true_eq, decide_eq_false_iff_not, Bool.not_eq_true', Bool.not_eq_false', Bool.not_eq_true, Int.not_lt, Int.not_le] at hi0
    refine wp_seq ?_
    refine wp_region_lit ?_
    refine s_a hf rfl ?_; clear hf a; intro a hf
    refine s_nil ?_
    refine then_n ?_
    refine wp_ret ?_
    refine then_r ?_
    refine r_1 hf Tryd.results12 rfl ?_
    exact ⟨by rw [decide_eq_false (fun e => hi0 (by rw [e]))], hs.kept⟩
  · simp only [decide_eq_true_eq, decide_eq_false_iff_not, Bool.not_eq_true', Bool.not_eq_false', Bool.not_eq_true, Int.not_lt, Int.not_le] at hi0
    refine wp_skip ?_
    refine then_n ?_
    refine wp_seq ?_
    refine wp_seq ?_
    refine wp_region_lit ?_
    refine s_a hf rfl ?_; clear hf a; intro a hf
    refine s_nil ?_
    refine then_n ?_
    refine wp_block ?_
    refine c_loop (L0 := [(0, _), (1, _)]) (fun M w m => ∃ i : Nat, M = [(5, .int .i64 (i : Int))] ∧ l1.length - i = m ∧ i ≤ l1.length ∧ l1.take i = l2.take i ∧ St ⟨w0, None_⟩ w []) (M0 := [(5, .int .i64 (0 : Nat))]) (⟨0, rfl, rfl, Nat.zero_le _, rfl, hs⟩) (hf.sub ⟨rfl, rfl, rfl, trivial⟩) ?_
    clear hf hs a
    rintro M m a w ⟨i, rfl, rfl, hi, hq, hs⟩ hf
    refine wp_seq ?_
    refine wp_seq ?_
    refine wp_region_lit ?_
    refine s_m hf rfl ?_; clear hf a; intro a hf
    refine s_m hf rfl ?_; clear hf a; intro a hf
    refine s_v hf (x_len Tryd.underlying25 (hf.eval rfl)) ?_; clear hf a; intro a hf
    refine s_v hf (x_bin (hf.eval rfl) (hf.eval rfl) (r_lt _ _ _ _)) ?_; clear hf a; intro a hf
    refine s_nil ?_
    refine then_n ?_
    refine c_cond hf rfl (fun hi1 => ?_) (fun hi1 => ?_)
    · simp only [decide_eq_true_eq, decide_eq_false_iff_not, Bool.not_eq_true', Bool.not_eq_false', Bool.not_eq_true, Int.not_lt, Int.not_le] at hi1
      obtain ⟨x1, rfl⟩ := hr1.some (by omega)
      obtain ⟨x2, rfl⟩ := hr2.some (by omega)
      have hlt : i < l1.length := by omega
      have hlt2 : i < l2.length := by omega
      refine wp_skip ?_
      refine then_n ?_
      refine wp_seq ?_
      refine wp_block ?_
      refine wp_seq ?_
      refine c_draw hs (fun _ => True) [.held, .held, .held, .read, .held, .held, .held, .read, .held] (by kernel_rfl) (by kernel_rfl) (fun _ _ _ => trivial) ?_
      clear hs; intro w hs hC hw
      refine m_held hf rfl (fun w' _ => x_move (hf.eval rfl) w') ?_; clear hf a; intro a hf
      refine m_held hf rfl (fun w' _ => x_move (hf.eval rfl) w') ?_; clear hf a; intro a hf
      refine m_held hf rfl (fun w' _ => x_indexAddr sl25 (hf.eval rfl) (hf.eval rfl) (by omega) (by omega) w') ?_; clear hf a; intro a hf
      refine m_read hf rfl (x_loadB sc5 (hs.oldB hr1) (hf.eval rfl) (by omega)) ?_; clear hf a; intro a hf
      replace hf := hf.now (k := 20) (v' := u8v l1[i]) rfl rfl
      refine m_held hf rfl (fun w' _ => x_move (hf.eval rfl) w') ?_; clear hf a; intro a hf
      refine m_held hf rfl (fun w' _ => x_move (hf.eval rfl) w') ?_; clear hf a; intro a hf
      refine m_held hf rfl (fun w' _ => x_indexAddr sl25 (hf.eval rfl) (hf.eval rfl) (by omega) (by omega) w') ?_; clear hf a; intro a hf
      refine m_read hf rfl (x_loadB sc5 (hs.oldB hr2) (hf.eval rfl) (by omega)) ?_; clear hf a; intro a hf
      replace hf := hf.now (k := 24) (v' := u8v l2[i]) rfl rfl
      refine m_held hf rfl (fun w' _ => x_bin (hf.eval rfl) (hf.eval rfl) (r_ne _ _ _ _) w') ?_; clear hf a; intro a hf
      refine m_nil ?_
      refine then_n ?_
      refine c_cond hf rfl (fun hi2 => ?_) (fun hi2 => ?_)
      · simp only [decide_eq_true_eq, decide_eq_false_iff_not, Bool.not_eq_true', Bool.not_eq_false', Bool.not_eq_true, Int.not_lt, Int.not_le] at hi2
        refine wp_seq ?_
        refine wp_region_lit ?_
        refine s_a hf rfl ?_; clear hf a; intro a hf
        refine s_nil ?_
        refine then_n ?_
        refine wp_ret ?_
        refine blk_r (then_r (then_r (blk_r (then_r ?_))))
        refine r_1 hf Tryd.results12 rfl ?_
        exact ⟨by rw [decide_eq_false (fun e => hi2 (by subst e; rfl))], hs.kept⟩
      · simp only [decide_eq_true_eq, decide_eq_false_iff_not, Bool.not_eq_true', Bool.not_eq_false', Bool.not_eq_true, Int.not_lt, Int.not_le] at hi2
        have heq : l1[i] = l2[i] := UInt8.toNat_inj.1 (by omega)
        refine wp_skip ?_
        refine blk_n ?_
        refine then_n ?_
        refine wp_region_lit ?_
        refine s_m hf rfl ?_; clear hf a; intro a hf
        refine s_v hf (x_bin (hf.eval rfl) (hf.eval rfl) (r_addi _ (by omega) (by omega))) ?_; clear hf a; intro a hf
        refine s_a hf rfl ?_; clear hf a; intro a hf
        refine s_nil ?_
        have hlt : i < l1.length := by omega
        exact ⟨_, _, ⟨i + 1, rfl, rfl, by omega, by rw [List.take_succ_eq_append_getElem hlt, List.take_succ_eq_append_getElem (show i < l2.length by omega), hq, heq], hs⟩, by omega, hf.sub ⟨rfl, rfl, rfl, trivial⟩⟩
    · simp only [decide_eq_true_eq, decide_eq_false_iff_not, Bool.not_eq_true', Bool.not_eq_false', Bool.not_eq_true, Int.not_lt, Int.not_le] at hi1
      refine wp_exit ?_
      refine then_x ?_
      refine then_x ?_
      refine blk_x ?_
      refine then_n ?_
      refine wp_seq ?_
      refine wp_region_lit ?_
      refine s_a hf rfl ?_; clear hf a; intro a hf
      refine s_nil ?_
      refine then_n ?_
      refine wp_ret ?_
      refine r_1 hf Tryd.results12 rfl ?_
      have hi' : i = l1.length := by omega
      exact ⟨by rw [decide_eq_true (by rw [hi', List.take_length, show l1.length = l2.length by omega, List.take_length] at hq; exact hq)], hs.kept⟩
theorem copied_spec (w0 : World) (a : Option Addr) (c : Nat) (l : List UInt8) (hr : RdB (hp w0) (.slice a l.length c) l) (hl : l.length ≤ 140737488351232) : Calls Tryd.prog 34 #[.slice a l.length c] w0 fun e w' => ∃ a c, e = .returned (.slice a l.length c) ∧ St ⟨w0, None_⟩ w' [slB 5 (.slice a l.length c) l] := by
  have hs := St.start w0 None_
  refine c_enter (N := 14) Tryd.func34 rfl Tryd.ntmps34 (by simp) ?_
  intro a hf
  refine wp_seq ?_
  refine wp_region_lit ?_
  refine s_a hf rfl ?_; clear hf a; intro a hf
  refine s_nil ?_
  refine then_n ?_
  refine wp_seq ?_
  refine wp_region_lit ?_
  refine s_m hf rfl ?_; clear hf a; intro a hf
  refine s_v hf (x_len Tryd.underlying25 (hf.eval rfl)) ?_; clear hf a; intro a hf
  refine s_m hf rfl ?_; clear hf a; intro a hf
  refine s_v hf (x_len Tryd.underlying25 (hf.eval rfl)) ?_; clear hf a; intro a hf
  refine s_v hf (x_bin (hf.eval rfl) (hf.eval rfl) (r_addi _ (by omega) (by omega))) ?_; clear hf a; intro a hf
  refine s_do hf rfl (y_makeB (m := l.length) (c := l.length + 8) hs sl25 (hf.eval rfl) (hf.eval rfl) rfl rfl (by omega) (by omega) ?_); clear hf hs a; intro b w hs a hf
  refine s_a hf rfl ?_; clear hf a; intro a hf
  refine s_nil ?_
  refine then_n ?_
  refine wp_seq ?_
  refine wp_region_lit ?_
  refine s_m hf rfl ?_; clear hf a; intro a hf
  refine s_m hf rfl ?_; clear hf a; intro a hf
  refine s_do hf rfl (y_copyB (o := 0) (cur' := l ++ List.replicate 8 0) hs sl25 (hf.eval rfl) (hf.eval rfl) (fun _ => rfl) (hs.oldB hr) rfl .k0 (by simp [spl]) (by simp) ?_); clear hf hs a; intro w hs a hf
  refine s_nil ?_
  refine then_n ?_
  refine wp_seq ?_
  refine wp_region_lit ?_
  refine s_m hf rfl ?_; clear hf a; intro a hf
  refine s_a hf rfl ?_; clear hf a; intro a hf
  refine s_nil ?_
  refine then_n ?_
  refine wp_ret ?_
  refine r_1 hf Tryd.results34 rfl ?_
  refine ⟨some ⟨b, 0, none⟩, _, rfl, ?_⟩
  have := hs.up .k0 (fun h hb => slB_of_bb (n := l.length) (by simp) (by simp [maxLen_eq]; omega) hb)
  simpa using this
end Go.Proofs.YtehakfbfjpolfaaDoor

namespace Go.Proofs.YtehakfbfjpolfaaDoor
open Go Vw
theorem dclone_spec (w0 : World) (a1 : Option Addr) (c1 : Nat) (l : List UInt8) (hr1 : RdB (hp w0) (.slice a1 l.length c1) l) (hl1 : l.length ≤ 140737488351232) : Calls Tryd.prog 60 #[.slice a1 l.length c1] w0 fun e w' => ∃ a c, e = .returned (.slice a l.length c) ∧ St ⟨w0, None_⟩ w' [slB 5 (.slice a l.length c) l] := by
  have hs := St.start w0 None_
  refine c_enter (N := 11) Tryd.func60 rfl Tryd.ntmps60 (by simp) ?_
  intro a hf
  refine wp_seq ?_
  refine wp_region_lit ?_
  refine s_a hf rfl ?_; clear hf a; intro a hf
  refine s_nil ?_
  refine then_n ?_
  refine wp_seq ?_
  refine wp_region_lit ?_
  refine s_m hf rfl ?_; clear hf a; intro a hf
  refine s_v hf (x_len Tryd.underlying25 (hf.eval rfl)) ?_; clear hf a; intro a hf
  refine s_do hf rfl (y_makeB (m := l.length) (c := l.length) hs sl25 (hf.eval rfl) (hf.eval rfl) rfl rfl (Nat.le_refl _) (by omega) ?_); clear hf hs a; intro b w hs a hf
  refine s_a hf rfl ?_; clear hf a; intro a hf
  refine s_nil ?_
  refine then_n ?_
  refine wp_seq ?_
  refine wp_region_lit ?_
  refine s_m hf rfl ?_; clear hf a; intro a hf
  refine s_m hf rfl ?_; clear hf a; intro a hf
  refine s_do hf rfl (y_copyB (o := 0) (cur' := l) hs sl25 (hf.eval rfl) (hf.eval rfl) (fun _ => rfl) (hs.oldB hr1) rfl .k0 (by simp [spl]) (by simp) ?_); clear hf hs a; intro w hs a hf
  refine s_nil ?_
  refine then_n ?_
  refine wp_seq ?_
  refine wp_region_lit ?_
  refine s_m hf rfl ?_; clear hf a; intro a hf
  refine s_a hf rfl ?_; clear hf a; intro a hf
  refine s_nil ?_
  refine then_n ?_
  refine wp_ret ?_
  refine r_1 hf Tryd.results60 rfl ?_
  refine ⟨some ⟨b, 0, none⟩, l.length, rfl, ?_⟩
  have := hs.up .k0 (fun h hb => slB_of_bb (n := l.length) (Nat.le_refl _) (by rw [maxLen_eq]; omega) hb)
  simpa using this
theorem dNew_ok (w0 : World) (a1 : Option Addr) (c1 : Nat) (image : List UInt8) (hr1 : RdB (hp w0) (.slice a1 image.length c1) image) (hl1 : image.length ≤ 140737488351232) (cap : Int) (hc1 : 0 ≤ cap) (hc2 : cap ≤ 16777216) (hc3 : image.length ≤ cap) : Calls Tryd.prog 25 #[.slice a1 image.length c1, .int .i64 cap] w0 fun e w' => ∃ p v1 v2 m, e = .returned (.tuple #[.pointer (some ⟨p, 0, none⟩), .int .i64 0]) ∧ St ⟨w0, None_⟩ w' [cb p 94 [.int .i64 cap, v1, v2, .map (some m), .slice none 0 0, .int .i64 0, .int .i64 (-1), .bool false], slB 5 v1 image, slB 5 v2 image, blk m (.map #[] 0)] := by
  have hs := St.start w0 None_
  refine c_enter (N := 32) Tryd.func25 rfl Tryd.ntmps25 (by simp) ?_
  intro a hf
  refine wp_seq ?_
  refine wp_region_lit ?_
  refine s_a hf rfl ?_; clear hf a; intro a hf
  refine s_a hf rfl ?_; clear hf a; intro a hf
  refine s_nil ?_
  refine then_n ?_
  refine wp_seq ?_
  refine wp_seq ?_
  refine wp_region_lit ?_
  refine s_m hf rfl ?_; clear hf a; intro a hf
  refine s_v hf (x_bin (hf.eval rfl) (hf.eval rfl) (r_lt _ _ _ _)) ?_; clear hf a; intro a hf
  refine s_m hf rfl ?_; clear hf a; intro a hf
  replace hf := hf.now (k := 9) (v' := .bool false) rfl (congrArg Value.bool (by simp; omega))
  refine s_do hf (wanted_of hf rfl rfl rfl) (.value (x_move (hf.eval rfl) _) ?_); clear hf a; intro a hf
  refine s_do hf (wanted_of hf rfl rfl rfl) (.value (x_bin (hf.eval rfl) (hf.eval rfl) (r_gt _ _ _ _) _) ?_); clear hf a; intro a hf
  refine s_v hf (x_pick_f (hf.eval rfl) (hf.eval rfl)) ?_; clear hf a; intro a hf
  refine s_nil ?_
  refine then_n ?_
  refine c_cond_f hf rfl (by simp; omega) ?_
  refine wp_skip ?_
  refine then_n ?_
  refine wp_seq ?_
  refine wp_seq ?_
  refine wp_region_lit ?_
  refine s_m hf rfl ?_; clear hf a; intro a hf
  refine s_v hf (x_len Tryd.underlying25 (hf.eval rfl)) ?_; clear hf a; intro a hf
  refine s_m hf rfl ?_; clear hf a; intro a hf
  refine s_v hf (x_bin (hf.eval rfl) (hf.eval rfl) (r_gt _ _ _ _)) ?_; clear hf a; intro a hf
  refine s_nil ?_
  refine then_n ?_
  refine c_cond_f hf rfl (by simp; omega) ?_
  refine wp_skip ?_
  refine then_n ?_
  refine wp_seq ?_
  refine wp_region_lit ?_
  refine s_m hf rfl ?_; clear hf a; intro a hf
  refine s_do hf rfl (y_makeMap hs ?_); clear hf hs a; intro m w hs a hf
  refine s_r hf (x_build (v := .agg #[.int .i64 cap, .slice none 0 0, .slice none 0 0, .map (some m), .slice none 0 0, .int .i64 0, .int .i64 (-1), .bool false]) (hf.parts rfl) (fun w => by kernel_rfl) _) ?_; clear hf a; intro a hf
  refine s_do hf rfl (y_box hs (hf.eval rfl) ?_); clear hf hs a; intro p w hs a hf
  change St _ _ (cb p 94 [.int .i64 cap, .slice none 0 0, .slice none 0 0, .map (some m), .slice none 0 0, .int .i64 0, .int .i64 (-1), .bool false] :: _) at hs
  refine s_a hf rfl ?_; clear hf a; intro a hf
  refine s_nil ?_
  refine then_n ?_
  refine wp_seq ?_
  refine wp_region_lit ?_
  refine s_m hf rfl ?_; clear hf a; intro a hf
  refine s_m hf rfl ?_; clear hf a; intro a hf
  refine s_do hf rfl (y_call (hf.eval rfl) (hf.evals rfl) Tryd.call60 ((dclone_spec _ _ _ image (hs.oldB hr1) hl1).mono ?_))
  rintro e w1 ⟨e1, fe1, rfl, hj⟩
  replace hs := hs.join hj
  simp only [List.cons_append, List.nil_append] at hs
  refine ⟨_, rfl, ?_⟩; clear hf a; intro a hf
  refine s_v hf (x_nilCheck (hf.eval rfl)) ?_; clear hf a; intro a hf
  refine s_v hf (x_fieldAddr fo94_1 (hf.eval rfl)) ?_; clear hf a; intro a hf
  refine s_do0 hf rfl (y_store hs sc25 (hf.eval rfl) (hf.eval rfl) rfl (by first | exact .k0 | exact .k1 | exact .k2 | exact .k3 | exact .k4 | exact .k5) (by simp) ?_); clear hf hs a; intro w hs a hf
  change St _ _ (_ :: cb p 94 [.int .i64 cap, (.slice e1 image.length fe1), .slice none 0 0, .map (some m), .slice none 0 0, .int .i64 0, .int .i64 (-1), .bool false] :: _) at hs
  refine s_nil ?_
  refine then_n ?_
  refine wp_seq ?_
  refine wp_region_lit ?_
  refine s_m hf rfl ?_; clear hf a; intro a hf
  refine s_m hf rfl ?_; clear hf a; intro a hf
  refine s_do hf rfl (y_call (hf.eval rfl) (hf.evals rfl) Tryd.call60 ((dclone_spec _ _ _ image (hs.oldB hr1) hl1).mono ?_))
  rintro e w1 ⟨e2, fe2, rfl, hj⟩
  replace hs := hs.join hj
  simp only [List.cons_append, List.nil_append] at hs
  refine ⟨_, rfl, ?_⟩; clear hf a; intro a hf
  refine s_v hf (x_nilCheck (hf.eval rfl)) ?_; clear hf a; intro a hf
  refine s_v hf (x_fieldAddr fo94_2 (hf.eval rfl)) ?_; clear hf a; intro a hf
  refine s_do0 hf rfl (y_store hs sc25 (hf.eval rfl) (hf.eval rfl) rfl (by first | exact .k0 | exact .k1 | exact .k2 | exact .k3 | exact .k4 | exact .k5) (by simp) ?_); clear hf hs a; intro w hs a hf
  refine s_nil ?_
  refine then_n ?_
  refine wp_seq ?_
  refine wp_region_lit ?_
  refine s_m hf rfl ?_; clear hf a; intro a hf
  refine s_a hf rfl ?_; clear hf a; intro a hf
  refine s_a hf rfl ?_; clear hf a; intro a hf
  refine s_nil ?_
  refine then_n ?_
  refine wp_ret ?_
  refine r_2 hf Tryd.results25 rfl rfl ?_
  refine ⟨p, .slice e1 image.length fe1, .slice e2 image.length fe2, m, rfl, ?_⟩
  exact (hs.take .k1).take .k2
end Go.Proofs.YtehakfbfjpolfaaDoor

namespace Go.Proofs.YtehakfbfjpolfaaDoor
open Go Vw
theorem mpT : MpT Tryd.prog 92 3 111 := ⟨Tryd.underlying92, Tryd.underlying3, fun w => Tryd.zeroValue111 w⟩
theorem spend_spec (σ : Sig) (w : World) (R : List Asrt) (p : Nat) (s : DS) (hs : St σ w (diskA 94 113 5 3 p s :: R)) (hf1 : s.fuse ≤ 9223372036854775807) (hf0 : -1 ≤ s.fuse) (hcl : s.calls ≤ 4611686018427387904) : Calls Tryd.prog 102 #[.pointer (some ⟨p, 0, none⟩)] w fun e w' => e = .returned (.bool (decide (s.fuse ≠ 0))) ∧ St σ w' (diskA 94 113 5 3 p (spent s) :: R) := by
  obtain ⟨⟨v1, v2, m, v4, es, clk⟩, hm, hg, hs⟩ := diskA_open hs
  dsimp only at hm hg hs
  obtain ⟨a1, c1, rfl, hc1⟩ := slB_shape (hs.take .k1)
  obtain ⟨a2, c2, rfl, hc2⟩ := slB_shape (hs.take .k2)
  obtain ⟨a4, c4, rfl⟩ := sl_shape (hs.take .k5)
  refine c_enter (N := 30) Tryd.func102 rfl Tryd.ntmps102 (by simp) ?_
  intro a hf
  refine wp_seq ?_
  refine wp_region_lit ?_
  refine s_a hf rfl ?_; clear hf a; intro a hf
  refine s_nil ?_
  refine then_n ?_
  refine wp_seq ?_
  refine wp_seq ?_
  refine wp_region_lit ?_
  refine s_m hf rfl ?_; clear hf a; intro a hf
  refine s_v hf (x_nilCheck (hf.eval rfl)) ?_; clear hf a; intro a hf
  refine s_v hf (x_fieldAddr fo94_6 (hf.eval rfl)) ?_; clear hf a; intro a hf
  refine s_r hf (x_load sc3 (hf.eval rfl) (by first | exact hs.cell .k0 rfl | exact hs.cell .k1 rfl | exact hs.cell .k2 rfl | exact hs.cell .k3 rfl | exact hs.cell .k4 rfl | exact hs.cell .k5 rfl)) ?_; clear hf a; intro a hf
  refine s_v hf (x_bin (hf.eval rfl) (hf.eval rfl) (r_eq _ _ _ _)) ?_; clear hf a; intro a hf
  refine s_nil ?_
  refine then_n ?_
  refine c_cond hf rfl (fun hi0 => ?_) (fun hi0 => ?_)
  · simp only [decide_eq_true_eq, decide_eq_false_iff_not, Bool.not_eq_true', Bool.not_eq_false', Bool.not_eq_true, Int.not_lt, Int.not_le] at hi0
    refine wp_seq ?_
    refine wp_region_lit ?_
    refine s_m hf rfl ?_; clear hf a; intro a hf
    refine s_v hf (x_nilCheck (hf.eval rfl)) ?_; clear hf a; intro a hf
    refine s_v hf (x_fieldAddr fo94_7 (hf.eval rfl)) ?_; clear hf a; intro a hf
    refine s_do0 hf rfl (y_store hs sc4 (hf.eval rfl) (hf.eval rfl) rfl (by first | exact .k0 | exact .k1 | exact .k2 | exact .k3 | exact .k4 | exact .k5) (by simp) ?_); clear hf hs a; intro w hs a hf
    refine s_nil ?_
    refine then_n ?_
    refine wp_seq ?_
    refine wp_region_lit ?_
    refine s_a hf rfl ?_; clear hf a; intro a hf
    refine s_nil ?_
    refine then_n ?_
    refine wp_ret ?_
    refine then_r ?_
    refine r_1 hf Tryd.results102 rfl ?_
    have hz : s.fuse = 0 := hi0
    refine ⟨by simp [hz], ?_⟩
    rw [spent_0 hz]
    exact diskA_close (x := ⟨_, _, m, _, es, clk⟩) hm hg hs
  · simp only [decide_eq_true_eq, decide_eq_false_iff_not, Bool.not_eq_true', Bool.not_eq_false', Bool.not_eq_true, Int.not_lt, Int.not_le] at hi0
    refine wp_skip ?_
    refine then_n ?_
    refine wp_seq ?_
    refine wp_seq ?_
    refine wp_region_lit ?_
    refine s_m hf rfl ?_; clear hf a; intro a hf
    refine s_v hf (x_nilCheck (hf.eval rfl)) ?_; clear hf a; intro a hf
    refine s_v hf (x_fieldAddr fo94_6 (hf.eval rfl)) ?_; clear hf a; intro a hf
    refine s_r hf (x_load sc3 (hf.eval rfl) (by first | exact hs.cell .k0 rfl | exact hs.cell .k1 rfl | exact hs.cell .k2 rfl | exact hs.cell .k3 rfl | exact hs.cell .k4 rfl | exact hs.cell .k5 rfl)) ?_; clear hf a; intro a hf
    refine s_v hf (x_bin (hf.eval rfl) (hf.eval rfl) (r_gt _ _ _ _)) ?_; clear hf a; intro a hf
    refine s_nil ?_
    refine then_n ?_
    refine c_cond hf rfl (fun hi1 => ?_) (fun hi1 => ?_)
    · simp only [decide_eq_true_eq, decide_eq_false_iff_not, Bool.not_eq_true', Bool.not_eq_false', Bool.not_eq_true, Int.not_lt, Int.not_le] at hi1
      refine wp_region_lit ?_
      refine s_m hf rfl ?_; clear hf a; intro a hf
      refine s_v hf (x_nilCheck (hf.eval rfl)) ?_; clear hf a; intro a hf
      refine s_v hf (x_fieldAddr fo94_6 (hf.eval rfl)) ?_; clear hf a; intro a hf
      refine s_r hf (x_load sc3 (hf.eval rfl) (by first | exact hs.cell .k0 rfl | exact hs.cell .k1 rfl | exact hs.cell .k2 rfl | exact hs.cell .k3 rfl | exact hs.cell .k4 rfl | exact hs.cell .k5 rfl)) ?_; clear hf a; intro a hf
      refine s_v hf (x_bin (hf.eval rfl) (hf.eval rfl) (r_subi _ (by omega) (by omega))) ?_; clear hf a; intro a hf
      refine s_v hf (x_nilCheck (hf.eval rfl)) ?_; clear hf a; intro a hf
      refine s_v hf (x_fieldAddr fo94_6 (hf.eval rfl)) ?_; clear hf a; intro a hf
      refine s_do0 hf rfl (y_store hs sc3 (hf.eval rfl) (hf.eval rfl) rfl (by first | exact .k0 | exact .k1 | exact .k2 | exact .k3 | exact .k4 | exact .k5) (by simp) ?_); clear hf hs a; intro w hs a hf
      refine s_nil ?_
      refine then_n ?_
      refine wp_seq ?_
      refine wp_region_lit ?_
      refine s_m hf rfl ?_; clear hf a; intro a hf
      refine s_v hf (x_nilCheck (hf.eval rfl)) ?_; clear hf a; intro a hf
      refine s_v hf (x_fieldAddr fo94_5 (hf.eval rfl)) ?_; clear hf a; intro a hf
      refine s_r hf (x_load sc3 (hf.eval rfl) (by first | exact hs.cell .k0 rfl | exact hs.cell .k1 rfl | exact hs.cell .k2 rfl | exact hs.cell .k3 rfl | exact hs.cell .k4 rfl | exact hs.cell .k5 rfl)) ?_; clear hf a; intro a hf
      refine s_v hf (x_bin (hf.eval rfl) (hf.eval rfl) (r_addi _ (by omega) (by omega))) ?_; clear hf a; intro a hf
      replace hf := hf.now (k := 27) (v' := .int .i64 ((s.calls + 1 : Nat) : Int)) rfl (by push_cast; rfl)
      refine s_v hf (x_nilCheck (hf.eval rfl)) ?_; clear hf a; intro a hf
      refine s_v hf (x_fieldAddr fo94_5 (hf.eval rfl)) ?_; clear hf a; intro a hf
      refine s_do0 hf rfl (y_store hs sc3 (hf.eval rfl) (hf.eval rfl) rfl (by first | exact .k0 | exact .k1 | exact .k2 | exact .k3 | exact .k4 | exact .k5) (by simp) ?_); clear hf hs a; intro w hs a hf
      refine s_nil ?_
      refine then_n ?_
      refine wp_seq ?_
      refine wp_region_lit ?_
      refine s_a hf rfl ?_; clear hf a; intro a hf
      refine s_nil ?_
      refine then_n ?_
      refine wp_ret ?_
      refine r_1 hf Tryd.results102 rfl ?_
      refine ⟨by simp; omega, ?_⟩
      first | rw [spent_pos (show 0 < s.fuse by omega)] | rw [spent_neg (show s.fuse < 0 by omega)]
      exact diskA_close (x := ⟨_, _, m, _, es, clk⟩) hm hg hs
    · simp only [decide_eq_true_eq, decide_eq_false_iff_not, Bool.not_eq_true', Bool.not_eq_false', Bool.not_eq_true, Int.not_lt, Int.not_le] at hi1
      refine wp_skip ?_
      refine then_n ?_
      refine wp_seq ?_
      refine wp_region_lit ?_
      refine s_m hf rfl ?_; clear hf a; intro a hf
      refine s_v hf (x_nilCheck (hf.eval rfl)) ?_; clear hf a; intro a hf
      refine s_v hf (x_fieldAddr fo94_5 (hf.eval rfl)) ?_; clear hf a; intro a hf
      refine s_r hf (x_load sc3 (hf.eval rfl) (by first | exact hs.cell .k0 rfl | exact hs.cell .k1 rfl | exact hs.cell .k2 rfl | exact hs.cell .k3 rfl | exact hs.cell .k4 rfl | exact hs.cell .k5 rfl)) ?_; clear hf a; intro a hf
      refine s_v hf (x_bin (hf.eval rfl) (hf.eval rfl) (r_addi _ (by omega) (by omega))) ?_; clear hf a; intro a hf
      replace hf := hf.now (k := 27) (v' := .int .i64 ((s.calls + 1 : Nat) : Int)) rfl (by push_cast; rfl)
      refine s_v hf (x_nilCheck (hf.eval rfl)) ?_; clear hf a; intro a hf
      refine s_v hf (x_fieldAddr fo94_5 (hf.eval rfl)) ?_; clear hf a; intro a hf
      refine s_do0 hf rfl (y_store hs sc3 (hf.eval rfl) (hf.eval rfl) rfl (by first | exact .k0 | exact .k1 | exact .k2 | exact .k3 | exact .k4 | exact .k5) (by simp) ?_); clear hf hs a; intro w hs a hf
      refine s_nil ?_
      refine then_n ?_
      refine wp_seq ?_
      refine wp_region_lit ?_
      refine s_a hf rfl ?_; clear hf a; intro a hf
      refine s_nil ?_
      refine then_n ?_
      refine wp_ret ?_
      refine r_1 hf Tryd.results102 rfl ?_
      refine ⟨by simp; omega, ?_⟩
      first | rw [spent_pos (show 0 < s.fuse by omega)] | rw [spent_neg (show s.fuse < 0 by omega)]
      exact diskA_close (x := ⟨_, _, m, _, es, clk⟩) hm hg hs
theorem dCapacity_spec (σ : Sig) (w : World) (R : List Asrt) (p : Nat) (s : DS) (hs : St σ w (diskA 94 113 5 3 p s :: R)) : Calls Tryd.prog 108 #[.pointer (some ⟨p, 0, none⟩)] w fun e w' => e = .returned (.int .i64 s.room) ∧ w' = w := by
  obtain ⟨⟨v1, v2, m, v4, es, clk⟩, hm, hg, hs⟩ := diskA_open hs
  dsimp only at hm hg hs
  obtain ⟨a1, c1, rfl, hc1⟩ := slB_shape (hs.take .k1)
  obtain ⟨a2, c2, rfl, hc2⟩ := slB_shape (hs.take .k2)
  obtain ⟨a4, c4, rfl⟩ := sl_shape (hs.take .k5)
  refine c_enter (N := 9) Tryd.func108 rfl Tryd.ntmps108 (by simp) ?_
  intro a hf
  refine wp_seq ?_
  refine wp_region_lit ?_
  refine s_a hf rfl ?_; clear hf a; intro a hf
  refine s_nil ?_
  refine then_n ?_
  refine wp_seq ?_
  refine wp_seq ?_
  refine wp_region_lit ?_
  refine s_m hf rfl ?_; clear hf a; intro a hf
  refine s_v hf (x_eqNil Tryd.underlying49 (hf.eval rfl) (hf.eval rfl)) ?_; clear hf a; intro a hf
  replace hf := hf.now (k := 4) (v' := .bool false) rfl rfl
  refine s_nil ?_
  refine then_n ?_
  refine c_cond_f hf rfl rfl ?_
  refine wp_skip ?_
  refine then_n ?_
  refine wp_seq ?_
  refine wp_region_lit ?_
  refine s_m hf rfl ?_; clear hf a; intro a hf
  refine s_v hf (x_nilCheck (hf.eval rfl)) ?_; clear hf a; intro a hf
  refine s_v hf (x_fieldAddr fo94_0 (hf.eval rfl)) ?_; clear hf a; intro a hf
  refine s_r hf (x_load sc3 (hf.eval rfl) (by first | exact hs.cell .k0 rfl | exact hs.cell .k1 rfl | exact hs.cell .k2 rfl | exact hs.cell .k3 rfl | exact hs.cell .k4 rfl | exact hs.cell .k5 rfl)) ?_; clear hf a; intro a hf
  refine s_a hf rfl ?_; clear hf a; intro a hf
  refine s_nil ?_
  refine then_n ?_
  refine wp_ret ?_
  refine r_1 hf Tryd.results108 rfl ?_
  exact ⟨rfl, rfl⟩
theorem dCalls_spec (σ : Sig) (w : World) (R : List Asrt) (p : Nat) (s : DS) (hs : St σ w (diskA 94 113 5 3 p s :: R)) : Calls Tryd.prog 35 #[.pointer (some ⟨p, 0, none⟩)] w fun e w' => e = .returned (.int .i64 (s.calls : Int)) ∧ w' = w := by
  obtain ⟨⟨v1, v2, m, v4, es, clk⟩, hm, hg, hs⟩ := diskA_open hs
  dsimp only at hm hg hs
  obtain ⟨a1, c1, rfl, hc1⟩ := slB_shape (hs.take .k1)
  obtain ⟨a2, c2, rfl, hc2⟩ := slB_shape (hs.take .k2)
  obtain ⟨a4, c4, rfl⟩ := sl_shape (hs.take .k5)
  refine c_enter (N := 9) Tryd.func35 rfl Tryd.ntmps35 (by simp) ?_
  intro a hf
  refine wp_seq ?_
  refine wp_region_lit ?_
  refine s_a hf rfl ?_; clear hf a; intro a hf
  refine s_nil ?_
  refine then_n ?_
  refine wp_seq ?_
  refine wp_seq ?_
  refine wp_region_lit ?_
  refine s_m hf rfl ?_; clear hf a; intro a hf
  refine s_v hf (x_eqNil Tryd.underlying49 (hf.eval rfl) (hf.eval rfl)) ?_; clear hf a; intro a hf
  replace hf := hf.now (k := 4) (v' := .bool false) rfl rfl
  refine s_nil ?_
  refine then_n ?_
  refine c_cond_f hf rfl rfl ?_
  refine wp_skip ?_
  refine then_n ?_
  refine wp_seq ?_
  refine wp_region_lit ?_
  refine s_m hf rfl ?_; clear hf a; intro a hf
  refine s_v hf (x_nilCheck (hf.eval rfl)) ?_; clear hf a; intro a hf
  refine s_v hf (x_fieldAddr fo94_5 (hf.eval rfl)) ?_; clear hf a; intro a hf
  refine s_r hf (x_load sc3 (hf.eval rfl) (by first | exact hs.cell .k0 rfl | exact hs.cell .k1 rfl | exact hs.cell .k2 rfl | exact hs.cell .k3 rfl | exact hs.cell .k4 rfl | exact hs.cell .k5 rfl)) ?_; clear hf a; intro a hf
  refine s_a hf rfl ?_; clear hf a; intro a hf
  refine s_nil ?_
  refine then_n ?_
  refine wp_ret ?_
  refine r_1 hf Tryd.results35 rfl ?_
  exact ⟨rfl, rfl⟩
theorem dAlive_spec (σ : Sig) (w : World) (R : List Asrt) (p : Nat) (s : DS) (hs : St σ w (diskA 94 113 5 3 p s :: R)) : Calls Tryd.prog 62 #[.pointer (some ⟨p, 0, none⟩)] w fun e w' => e = .returned (.bool (!s.dead)) ∧ w' = w := by
  obtain ⟨⟨v1, v2, m, v4, es, clk⟩, hm, hg, hs⟩ := diskA_open hs
  dsimp only at hm hg hs
  obtain ⟨a1, c1, rfl, hc1⟩ := slB_shape (hs.take .k1)
  obtain ⟨a2, c2, rfl, hc2⟩ := slB_shape (hs.take .k2)
  obtain ⟨a4, c4, rfl⟩ := sl_shape (hs.take .k5)
  refine c_enter (N := 12) Tryd.func62 rfl Tryd.ntmps62 (by simp) ?_
  intro a hf
  refine wp_seq ?_
  refine wp_region_lit ?_
  refine s_a hf rfl ?_; clear hf a; intro a hf
  refine s_nil ?_
  refine then_n ?_
  refine wp_seq ?_
  refine wp_region_lit ?_
  refine s_m hf rfl ?_; clear hf a; intro a hf
  refine s_v hf (x_neNil Tryd.underlying49 (hf.eval rfl) (hf.eval rfl)) ?_; clear hf a; intro a hf
  replace hf := hf.now (k := 4) (v' := .bool true) rfl rfl
  refine s_m hf rfl ?_; clear hf a; intro a hf
  refine s_do hf (wanted_of hf rfl rfl rfl) (.value (x_move (hf.eval rfl) _) ?_); clear hf a; intro a hf
  refine s_do hf (wanted_of hf rfl rfl rfl) (.value (x_nilCheck (hf.eval rfl) _) ?_); clear hf a; intro a hf
  refine s_do hf (wanted_of hf rfl rfl rfl) (.value (x_fieldAddr fo94_7 (hf.eval rfl) _) ?_); clear hf a; intro a hf
  refine s_do hf (wanted_of hf rfl rfl rfl) (.value (x_load sc4 (hf.eval rfl) (by first | exact hs.cell .k0 rfl | exact hs.cell .k1 rfl | exact hs.cell .k2 rfl | exact hs.cell .k3 rfl | exact hs.cell .k4 rfl | exact hs.cell .k5 rfl)) ?_); clear hf a; intro a hf
  refine s_do hf (wanted_of hf rfl rfl rfl) (.value (x_not (hf.eval rfl) _) ?_); clear hf a; intro a hf
  refine s_v hf (x_pick_t (hf.eval rfl) (hf.eval rfl)) ?_; clear hf a; intro a hf
  refine s_a hf rfl ?_; clear hf a; intro a hf
  refine s_nil ?_
  refine then_n ?_
  refine wp_ret ?_
  refine r_1 hf Tryd.results62 rfl ?_
  exact ⟨rfl, rfl⟩
theorem dImage_spec (σ : Sig) (w : World) (R : List Asrt) (p : Nat) (s : DS) (hs : St σ w (diskA 94 113 5 3 p s :: R)) (hn : s.now.length ≤ 140737488351232) : Calls Tryd.prog 36 #[.pointer (some ⟨p, 0, none⟩)] w fun e w' => ∃ a c, e = .returned (.slice a s.now.length c) ∧ St σ w' (slB 5 (.slice a s.now.length c) s.now :: diskA 94 113 5 3 p s :: R) := by
  obtain ⟨⟨v1, v2, m, v4, es, clk⟩, hm, hg, hs⟩ := diskA_open hs
  dsimp only at hm hg hs
  obtain ⟨a1, c1, rfl, hc1⟩ := slB_shape (hs.take .k1)
  obtain ⟨a2, c2, rfl, hc2⟩ := slB_shape (hs.take .k2)
  obtain ⟨a4, c4, rfl⟩ := sl_shape (hs.take .k5)
  refine c_enter (N := 10) Tryd.func36 rfl Tryd.ntmps36 (by simp) ?_
  intro a hf
  refine wp_seq ?_
  refine wp_region_lit ?_
  refine s_a hf rfl ?_; clear hf a; intro a hf
  refine s_nil ?_
  refine then_n ?_
  refine wp_seq ?_
  refine wp_seq ?_
  refine wp_region_lit ?_
  refine s_m hf rfl ?_; clear hf a; intro a hf
  refine s_v hf (x_eqNil Tryd.underlying49 (hf.eval rfl) (hf.eval rfl)) ?_; clear hf a; intro a hf
  replace hf := hf.now (k := 4) (v' := .bool false) rfl rfl
  refine s_nil ?_
  refine then_n ?_
  refine c_cond_f hf rfl rfl ?_
  refine wp_skip ?_
  refine then_n ?_
  refine wp_seq ?_
  refine wp_region_lit ?_
  refine s_m hf rfl ?_; clear hf a; intro a hf
  refine s_v hf (x_nilCheck (hf.eval rfl)) ?_; clear hf a; intro a hf
  refine s_v hf (x_fieldAddr fo94_1 (hf.eval rfl)) ?_; clear hf a; intro a hf
  refine s_r hf (x_load sc25 (hf.eval rfl) (by first | exact hs.cell .k0 rfl | exact hs.cell .k1 rfl | exact hs.cell .k2 rfl | exact hs.cell .k3 rfl | exact hs.cell .k4 rfl | exact hs.cell .k5 rfl)) ?_; clear hf a; intro a hf
  refine s_do hf rfl (y_call (hf.eval rfl) (hf.evals rfl) Tryd.call60 ((dclone_spec _ _ _ s.now (hs.rdB .k1 fun h => slB_rd) (by omega)).mono ?_))
  rintro e w1 ⟨e1, fe1, rfl, hj⟩
  replace hs := hs.join hj
  simp only [List.cons_append, List.nil_append] at hs
  refine ⟨_, rfl, ?_⟩; clear hf a; intro a hf
  refine s_a hf rfl ?_; clear hf a; intro a hf
  refine s_nil ?_
  refine then_n ?_
  refine wp_ret ?_
  refine r_1 hf Tryd.results36 rfl ?_
  refine ⟨_, _, rfl, ?_⟩
  exact (diskA_close (s := s) (x := ⟨_, _, m, _, es, clk⟩) (R := slB 5 _ s.now :: R) hm hg (St.give (L := _) hs .k6)).take .k1
end Go.Proofs.YtehakfbfjpolfaaDoor

namespace Go.Proofs.YtehakfbfjpolfaaDoor
open Go Vw
theorem lay_spec (σ : Sig) (w : World) (R : List Asrt) (p : Nat) (s : DS) (hs : St σ w (diskA 94 113 5 3 p s :: R)) (at_ : Nat) (ad : Option Addr) (cd : Nat) (data : List UInt8) (hr : Rdy σ R (.slice ad data.length cd) data) (hd : data ≠ []) (hat : at_ ≤ s.now.length) (hsz : at_ + data.length ≤ 16777216) (hnow : s.now.length ≤ 16777216) (hpc : s.pcs.length ≤ 1099511627776) : Calls Tryd.prog 103 #[.pointer (some ⟨p, 0, none⟩), .int .i64 (at_ : Int), .slice ad data.length cd] w fun e w' => e = .returned (.tuple #[]) ∧ St σ w' (diskA 94 113 5 3 p (layS s at_ data) :: R) := by
  have hdl : 0 < data.length := List.length_pos_iff.2 hd
  obtain ⟨E, hE⟩ : ∃ E, E = ext s.now (at_ + data.length) := ⟨_, rfl⟩
  have hEl : E.length = max s.now.length (at_ + data.length) := by rw [hE, ext_length]
  obtain ⟨⟨v1, v2, m, v4, es, clk⟩, hm, hg, hs⟩ := diskA_open hs
  dsimp only at hm hg hs
  obtain ⟨a1, c1, rfl, hc1⟩ := slB_shape (hs.take .k1)
  obtain ⟨a2, c2, rfl, hc2⟩ := slB_shape (hs.take .k2)
  obtain ⟨a4, c4, rfl⟩ := sl_shape (hs.take .k5)
  refine c_enter (N := 82) Tryd.func103 rfl Tryd.ntmps103 (by simp) ?_
  intro a hf
  refine wp_seq ?_
  refine wp_seq ?_
  refine wp_region_lit ?_
  refine s_m hf rfl ?_; clear hf a; intro a hf
  refine s_m hf rfl ?_; clear hf a; intro a hf
  refine s_v hf (x_len Tryd.underlying25 (hf.eval rfl)) ?_; clear hf a; intro a hf
  refine s_v hf (x_bin (hf.eval rfl) (hf.eval rfl) (r_addi _ (by omega) (by omega))) ?_; clear hf a; intro a hf
  refine s_m hf rfl ?_; clear hf a; intro a hf
  refine s_v hf (x_nilCheck (hf.eval rfl)) ?_; clear hf a; intro a hf
  refine s_v hf (x_fieldAddr fo94_1 (hf.eval rfl)) ?_; clear hf a; intro a hf
  refine s_r hf (x_load sc25 (hf.eval rfl) (by first | exact hs.cell .k0 rfl | exact hs.cell .k1 rfl | exact hs.cell .k2 rfl | exact hs.cell .k3 rfl | exact hs.cell .k4 rfl | exact hs.cell .k5 rfl)) ?_; clear hf a; intro a hf
  refine s_v hf (x_len Tryd.underlying25 (hf.eval rfl)) ?_; clear hf a; intro a hf
  refine s_v hf (x_bin (hf.eval rfl) (hf.eval rfl) (r_gt _ _ _ _)) ?_; clear hf a; intro a hf
  refine s_nil ?_
  refine then_n ?_
  refine c_cond hf rfl (fun hi0 => ?_) (fun hi0 => ?_)
  · simp only [decide_eq_true_eq, decide_eq_false_iff_not, Bool.not_eq_true', Bool.not_eq_false', Bool.not_eq_true, Int.not_lt, Int.not_le] at hi0
    refine c_draw hs (fun _ => True) [.held, .held, .held, .held, .read, .held, .held, .held, .held, .held, .held, .held, .read, .held, .held, .eff, .held, .held, .fin] (by kernel_rfl) (by kernel_rfl) (fun _ _ _ => trivial) ?_
    clear hs; intro w hs hC hw
    refine m_held hf rfl (fun w' _ => x_move (hf.eval rfl) w') ?_; clear hf a; intro a hf
    refine m_held hf rfl (fun w' _ => x_move (hf.eval rfl) w') ?_; clear hf a; intro a hf
    refine m_held hf rfl (fun w' _ => x_nilCheck (hf.eval rfl) w') ?_; clear hf a; intro a hf
    refine m_held hf rfl (fun w' _ => x_fieldAddr fo94_1 (hf.eval rfl) w') ?_; clear hf a; intro a hf
    refine m_read hf rfl (x_load sc25 (hf.eval rfl) (by first | exact hs.cell .k0 rfl | exact hs.cell .k1 rfl | exact hs.cell .k2 rfl | exact hs.cell .k3 rfl | exact hs.cell .k4 rfl | exact hs.cell .k5 rfl)) ?_; clear hf a; intro a hf
    refine m_held hf rfl (fun w' _ => x_move (hf.eval rfl) w') ?_; clear hf a; intro a hf
    refine m_held hf rfl (fun w' _ => x_move (hf.eval rfl) w') ?_; clear hf a; intro a hf
    refine m_held hf rfl (fun w' _ => x_len Tryd.underlying25 (hf.eval rfl) w') ?_; clear hf a; intro a hf
    refine m_held hf rfl (fun w' _ => x_bin (hf.eval rfl) (hf.eval rfl) (r_addi _ (by omega) (by omega)) w') ?_; clear hf a; intro a hf
    refine m_held hf rfl (fun w' _ => x_move (hf.eval rfl) w') ?_; clear hf a; intro a hf
    refine m_held hf rfl (fun w' _ => x_nilCheck (hf.eval rfl) w') ?_; clear hf a; intro a hf
    refine m_held hf rfl (fun w' _ => x_fieldAddr fo94_1 (hf.eval rfl) w') ?_; clear hf a; intro a hf
    refine m_read hf rfl (x_load sc25 (hf.eval rfl) (by first | exact hs.cell .k0 rfl | exact hs.cell .k1 rfl | exact hs.cell .k2 rfl | exact hs.cell .k3 rfl | exact hs.cell .k4 rfl | exact hs.cell .k5 rfl)) ?_; clear hf a; intro a hf
    refine m_held hf rfl (fun w' _ => x_len Tryd.underlying25 (hf.eval rfl) w') ?_; clear hf a; intro a hf
    refine m_held hf rfl (fun w' _ => x_bin (hf.eval rfl) (hf.eval rfl) (r_subi _ (by omega) (by omega)) w') ?_; clear hf a; intro a hf
    refine m_eff hf rfl (y_appendZ (n := at_ + data.length - s.now.length) hs sl25 Tryd.underlying3 (hf.eval rfl) (hf.eval rfl) (by omega) (by omega) .k1 (by omega) ?_); clear hf hs a; intro v w hs; refine ⟨trivial, ?_⟩; intro a hf
    rw [show s.now ++ List.replicate (at_ + data.length - s.now.length) 0 = E from hE.symm] at hs
    clear hc1
    obtain ⟨a9, c9, rfl, hc9⟩ := slB_shape hs
    refine m_held hf rfl (fun w' _ => x_nilCheck (hf.eval rfl) w') ?_; clear hf a; intro a hf
    refine m_held hf rfl (fun w' _ => x_fieldAddr fo94_1 (hf.eval rfl) w') ?_; clear hf a; intro a hf
    refine m_fin0 hf rfl (y_store hs sc25 (hf.eval rfl) (hf.eval rfl) rfl (by first | exact .k0 | exact .k1 | exact .k2 | exact .k3 | exact .k4 | exact .k5) (by simp) ?_); clear hf hs a; intro w hs; intro a hf
    replace hs := hs.take .k1
    refine then_n ?_
    refine wp_seq ?_
    refine wp_region_lit ?_
    obtain ⟨b1, cc, hb1, _⟩ := slB_block (hs.take .k1) (by omega)
    injection hb1 with hb1 _ hb1c
    subst hb1
    refine s_m hf rfl ?_; clear hf a; intro a hf
    refine s_v hf (x_nilCheck (hf.eval rfl)) ?_; clear hf a; intro a hf
    refine s_v hf (x_fieldAddr fo94_1 (hf.eval rfl)) ?_; clear hf a; intro a hf
    refine s_r hf (x_load sc25 (hf.eval rfl) (by first | exact hs.cell .k0 rfl | exact hs.cell .k1 rfl | exact hs.cell .k2 rfl | exact hs.cell .k3 rfl | exact hs.cell .k4 rfl | exact hs.cell .k5 rfl)) ?_; clear hf a; intro a hf
    refine s_m hf rfl ?_; clear hf a; intro a hf
    refine s_v hf (x_slice_lo sl25 (hf.eval rfl) (hf.eval rfl)  (by omega) (by omega) ) ?_; clear hf a; intro a hf
    replace hf := hf.now (k := 41) (v' := .slice (subA (some ⟨b1, 0, none⟩) cc at_ 1) (E.length - at_) (cc - at_)) rfl (by rw [hb1c]; rfl)
    refine s_m hf rfl ?_; clear hf a; intro a hf
    subst hb1c
    refine s_do hf rfl (y_copyAt (T := 5) (n := E.length) (o := at_) (s := data) hs sl25 (hf.eval rfl) rfl (hf.eval rfl) .k1 (hr _ [_, _, _, _, _, _] hs) (by omega) rfl ?_); clear hf hs a; intro w hs a hf
    rw [show min data.length (E.length - at_) = data.length by omega, List.take_length] at hs
    have hXl : (spl E at_ data).length = E.length := spl_length _ _ _ (by omega)
    rw [← hXl] at hs
    replace hs := diskA_close (s := { s with now := spl E at_ data }) (x := ⟨_, _, m, _, es, clk⟩) hm hg (hs.take .k1)
    rw [hE] at hs
    replace hs : St σ w (diskA 94 113 5 3 p { s with now := (spl (ext s.now (at_ + data.length)) at_ data), pcs := s.pcs } :: R) := hs
    refine s_nil ?_
    refine then_n ?_
    refine wp_block ?_
    refine c_loop (L0 := [(0, _)]) (fun M w m => ∃ (k : Nat) (a' : Option Addr) (c' : Nat) (P : List Pc), M = [(1, .int .i64 ((at_ + k : Nat) : Int)), (2, .slice a' (data.length - k) c')] ∧ data.length - k = m ∧ k ≤ data.length ∧ P ++ cut (at_ + k) (data.drop k) = s.pcs ++ cut at_ data ∧ Rdy σ R (.slice a' (data.length - k) c') (data.drop k) ∧ St σ w (diskA 94 113 5 3 p { s with now := (spl (ext s.now (at_ + data.length)) at_ data), pcs := P } :: R)) (M0 := _) (⟨0, ad, cd, s.pcs, rfl, rfl, Nat.zero_le _, rfl, hr, hs⟩) (hf.sub ⟨rfl, rfl, rfl, trivial⟩) ?_
    clear hf hs a
    rintro M m a w ⟨k, a', c', P, rfl, rfl, hk, hP, hr', hs⟩ hf
    clear hr
    refine wp_seq ?_
    refine wp_seq ?_
    refine wp_region_lit ?_
    refine s_m hf rfl ?_; clear hf a; intro a hf
    refine s_v hf (x_len Tryd.underlying25 (hf.eval rfl)) ?_; clear hf a; intro a hf
    refine s_v hf (x_bin (hf.eval rfl) (hf.eval rfl) (r_gt _ _ _ _)) ?_; clear hf a; intro a hf
    refine s_nil ?_
    refine then_n ?_
    refine c_cond hf rfl (fun hi1 => ?_) (fun hi1 => ?_)
    · simp only [decide_eq_true_eq, decide_eq_false_iff_not, Bool.not_eq_true', Bool.not_eq_false', Bool.not_eq_true, Int.not_lt, Int.not_le] at hi1
      have hlt : k < data.length := by omega
      obtain ⟨q, hq⟩ : ∃ q, q = secN (at_ + k) (data.length - k) := ⟨_, rfl⟩
      have hq0 : 0 < q := by rw [hq]; exact secN_pos (by omega)
      have hq1 : q ≤ data.length - k := by rw [hq]; exact secN_le _ _
      have hdk : (data.drop k).length = data.length - k := List.length_drop ..
      have hcq : ((data.drop k).take q).length = q := by rw [List.length_take]; omega
      have hP9 : P.length ≤ 1099511700000 := by have h9 := congrArg List.length hP; simp only [List.length_append] at h9; have := cut_len data.length at_ data (Nat.le_refl _); omega
      obtain ⟨⟨v1, v2, m, v4, es, clk⟩, hm, hg, hs⟩ := diskA_open hs
      dsimp only at hm hg hs
      obtain ⟨a1, c1, rfl, hc1⟩ := slB_shape (hs.take .k1)
      obtain ⟨a2, c2, rfl, hc2⟩ := slB_shape (hs.take .k2)
      obtain ⟨a4, c4, rfl⟩ := sl_shape (hs.take .k5)
      refine wp_skip ?_
      refine then_n ?_
      refine wp_block ?_
      refine wp_seq ?_
      refine wp_region_lit ?_
      refine s_m hf rfl ?_; clear hf a; intro a hf
      refine s_v hf (x_bin (hf.eval rfl) (hf.eval rfl) (r_quon _ (by omega) (by omega) (by omega))) ?_; clear hf a; intro a hf
      replace hf := hf.now (k := 48) (v' := .int .i64 (((at_ + k) / 512 : Nat) : Int)) rfl (rfl)
      refine s_a hf rfl ?_; clear hf a; intro a hf
      refine s_nil ?_
      refine then_n ?_
      refine wp_seq ?_
      refine wp_region_lit ?_
      refine s_m hf rfl ?_; clear hf a; intro a hf
      refine s_v hf (x_len Tryd.underlying25 (hf.eval rfl)) ?_; clear hf a; intro a hf
      refine s_m hf rfl ?_; clear hf a; intro a hf
      refine s_v hf (x_bin (hf.eval rfl) (hf.eval rfl) (r_addi _ (by omega) (by omega))) ?_; clear hf a; intro a hf
      refine s_v hf (x_bin (hf.eval rfl) (hf.eval rfl) (r_muli _ (by omega) (by omega))) ?_; clear hf a; intro a hf
      refine s_m hf rfl ?_; clear hf a; intro a hf
      refine s_v hf (x_bin (hf.eval rfl) (hf.eval rfl) (r_subi _ (by omega) (by omega))) ?_; clear hf a; intro a hf
      refine s_v hf (x_minI (hf.eval rfl) (hf.eval rfl)) ?_; clear hf a; intro a hf
      replace hf := hf.now (k := 56) (v' := .int .i64 (q : Int)) rfl (by rw [hq]; unfold secN; congr 1; omega)
      refine s_a hf rfl ?_; clear hf a; intro a hf
      refine s_nil ?_
      refine then_n ?_
      refine wp_seq ?_
      obtain ⟨vv, ps, er, hps, hs, hlook, hupd⟩ := map_open (Q := 113) (T := 5) ((at_ + k) / 512) mpT hm ((hs.take .k4).take .k4)
      have hpl : ps.length ≤ P.length := by have h9 := congrArg List.length hps; rw [List.length_map] at h9; have := eps_len hg ((at_ + k) / 512); omega
      have hcap := (hr' _ [_, _, _, _, _, _, _, _] hs).cap
      refine c_draw hs (fun w' => w'.heap[m]? = some (.map (es.map Ent.mem).toArray clk) ∧ w'.cell? ⟨p, 3, none⟩ = some (.map (some m)) ∧ RdB (hp w') (.slice a' (data.length - k) c') (data.drop k)) [.held, .held, .held, .held, .held, .held, .held, .held, .held, .held, .held, .held, .held, .held, .held, .eff, .held, .eff, .eff, .fin] (by kernel_rfl) (by kernel_rfl) (fun w' _ hs => ⟨hs.blk_at .k2, hs.cell (k := 3) .k4 rfl, hr' _ [_, _, _, _, _, _, _, _] hs⟩) ?_
      clear hs; intro w hs hC hw
      refine m_held hf rfl (fun w' _ => x_move (hf.eval rfl) w') ?_; clear hf a; intro a hf
      refine m_held hf rfl (fun w' _ => x_nilCheck (hf.eval rfl) w') ?_; clear hf a; intro a hf
      refine m_held hf rfl (fun w' _ => x_fieldAddr fo94_3 (hf.eval rfl) w') ?_; clear hf a; intro a hf
      refine m_held hf rfl (fun w' hc => x_load sc92 (hf.eval rfl) hc.2.1) ?_; clear hf a; intro a hf
      refine m_held hf rfl (fun w' _ => x_move (hf.eval rfl) w') ?_; clear hf a; intro a hf
      refine m_held hf rfl (fun w' _ => x_move (hf.eval rfl) w') ?_; clear hf a; intro a hf
      refine m_held hf rfl (fun w' _ => x_nilCheck (hf.eval rfl) w') ?_; clear hf a; intro a hf
      refine m_held hf rfl (fun w' _ => x_fieldAddr fo94_3 (hf.eval rfl) w') ?_; clear hf a; intro a hf
      refine m_held hf rfl (fun w' hc => x_load sc92 (hf.eval rfl) hc.2.1) ?_; clear hf a; intro a hf
      refine m_held hf rfl (fun w' _ => x_move (hf.eval rfl) w') ?_; clear hf a; intro a hf
      refine m_held hf rfl (fun w' hc => x_lookup (hf.eval rfl) (hf.eval rfl) (hlook _ hc.1)) ?_; clear hf a; intro a hf
      refine m_held hf rfl (fun w' _ => x_move (hf.eval rfl) w') ?_; clear hf a; intro a hf
      refine m_held hf rfl (fun w' _ => x_move (hf.eval rfl) w') ?_; clear hf a; intro a hf
      refine m_held hf rfl (fun w' _ => x_move (hf.eval rfl) w') ?_; clear hf a; intro a hf
      refine m_held hf rfl (fun w' _ => x_slice_hi sl25 (hf.eval rfl) (hf.eval rfl)  (by omega) (by omega)  w') ?_; clear hf a; intro a hf
      replace hf := hf.now (k := 71) (v' := .slice a' ((data.drop k).take q).length c') rfl (by first | rfl | (rw [hcq]; done) | (rw [hcq]; rfl))
      refine m_eff hf rfl (y_call (hf.eval rfl) (hf.evals rfl) Tryd.call60 ((dclone_spec _ _ _ ((data.drop k).take q) (by rw [hcq]; exact RdB.pre hC.2.2 hdk (by omega)) (by omega)).mono ?_))
      rintro e w1 ⟨e1, fe1, rfl, hj⟩
      replace hs := hs.join hj
      simp only [List.cons_append, List.nil_append] at hs
      refine ⟨_, rfl, ⟨⟨hs.blk_at .k3, hs.cell (k := 3) .k5 rfl, hr' _ [_, _, _, _, _, _, _, _, _] hs⟩, ?_⟩⟩; clear hf a; intro a hf
      refine m_held hf rfl (fun w' hc => x_build (v := .agg #[.int .i64 ((at_ + k : Nat) : Int), .slice e1 ((data.drop k).take q).length fe1]) (hf.parts rfl) (fun w => by kernel_rfl) _) ?_; clear hf a; intro a hf
      refine m_eff hf rfl (y_lit (xs := [.tmp 73]) hs sl111 (hf.evals rfl) rfl (by simp [Value.cells]) (by decide) ?_); clear hf hs a; intro b2 w hs; refine ⟨⟨hs.blk_at .k4, hs.cell (k := 3) .k6 rfl, hr' _ [_, _, _, _, _, _, _, _, _, _] hs⟩, ?_⟩; intro a hf
      refine m_eff hf rfl (y_append (n := ps.length) (m := 1) (ys := [.int .i64 ((at_ + k : Nat) : Int), .slice e1 ((data.drop k).take q).length fe1]) hs sl111 (hf.eval rfl) (hf.eval rfl) .k2 (hs.rd .k0 fun h hb => rd_rows hb rfl) (by simp [Value.oneCell']) (by omega) (by rw [maxLen_eq]; omega) ?_); clear hf hs a; intro v2 w hs hv; refine ⟨⟨hs.blk_at .k4, hs.cell (k := 3) .k6 rfl, hr' _ [_, _, _, _, _, _, _, _, _, _] hs⟩, ?_⟩; intro a hf
      replace hs := push_form (at_ := at_ + k) (hs.lose .k1) (by simp) (by simp [pcF])
      obtain ⟨es2, clk2, hm2, hi1, hi2, hup⟩ := hupd v2 (ps ++ [(at_ + k, .slice e1 ((data.drop k).take q).length fe1, (data.drop k).take q)])
      obtain ⟨w9, hrun, hs⟩ := hup _ hs
      have hg2 : Grp es2 (P ++ [(at_ + k, (data.drop k).take q)]) := grp_push hg (by rw [hi1, List.map_append, hps]; rfl) hi2
      refine m_fin0 hf rfl (y_mapUpdate (hf.eval rfl) (hf.eval rfl) (hf.eval rfl) hrun ?_); clear hf a; intro a hf
      replace hs := diskA_close (s := { s with now := (spl (ext s.now (at_ + data.length)) at_ data), pcs := P ++ [(at_ + k, (data.drop k).take q)] }) (x := ⟨_, _, m, _, es2, clk2⟩) hm2 hg2 (((hs.take .k4).take .k4).take .k4)
      refine then_n ?_
      refine wp_seq ?_
      refine wp_region_lit ?_
      refine s_m hf rfl ?_; clear hf a; intro a hf
      refine s_m hf rfl ?_; clear hf a; intro a hf
      refine s_v hf (x_bin (hf.eval rfl) (hf.eval rfl) (r_addi _ (by omega) (by omega))) ?_; clear hf a; intro a hf
      replace hf := hf.now (k := 78) (v' := .int .i64 ((at_ + (k + q) : Nat) : Int)) rfl (by congr 1; omega)
      refine s_a hf rfl ?_; clear hf a; intro a hf
      refine s_nil ?_
      refine then_n ?_
      refine wp_region_lit ?_
      refine s_m hf rfl ?_; clear hf a; intro a hf
      refine s_m hf rfl ?_; clear hf a; intro a hf
      refine s_v hf (x_slice_lo sl25 (hf.eval rfl) (hf.eval rfl)  (by omega) (by omega) ) ?_; clear hf a; intro a hf
      replace hf := hf.now (k := 81) (v' := .slice (subA a' c' q 1) (data.length - (k + q)) (c' - q)) rfl (by congr 1; omega)
      have hr2 := Rdy.rest hr' hdk (i := q) (by omega)
      rw [List.drop_drop, show data.length - k - q = data.length - (k + q) by omega] at hr2
      have hP2 : P ++ [(at_ + k, (data.drop k).take q)] ++ cut (at_ + (k + q)) (data.drop (k + q)) = s.pcs ++ cut at_ data := by rw [← hP, cut_cons (l := data.drop k) (by intro h9; rw [h9] at hdk; simp at hdk; omega), hdk, ← hq, List.drop_drop, Nat.add_assoc, List.append_assoc]; rfl
      refine s_a hf rfl ?_; clear hf a; intro a hf
      refine s_nil ?_
      refine blk_n ?_
      exact ⟨_, _, ⟨k + q, _, _, P ++ [(at_ + k, (data.drop k).take q)], rfl, rfl, by omega, hP2, hr2, hs⟩, by omega, hf.sub ⟨rfl, rfl, rfl, trivial⟩⟩
    · simp only [decide_eq_true_eq, decide_eq_false_iff_not, Bool.not_eq_true', Bool.not_eq_false', Bool.not_eq_true, Int.not_lt, Int.not_le] at hi1
      refine wp_exit ?_
      refine then_x ?_
      refine then_x ?_
      refine blk_x ?_
      refine r_0n hf Tryd.results103 ?_
      have hk9 : k = data.length := by omega
      subst hk9
      rw [List.drop_length, cut_nil, List.append_nil] at hP
      subst hP
      exact ⟨rfl, hs⟩
  · simp only [decide_eq_true_eq, decide_eq_false_iff_not, Bool.not_eq_true', Bool.not_eq_false', Bool.not_eq_true, Int.not_lt, Int.not_le] at hi0
    have hEs : E = s.now := by rw [hE, ext_same (by omega)]
    rw [← hEs] at hs
    refine wp_skip ?_
    refine then_n ?_
    refine wp_seq ?_
    refine wp_region_lit ?_
    obtain ⟨b1, cc, hb1, _⟩ := slB_block (hs.take .k1) (by omega)
    injection hb1 with hb1 _ hb1c
    subst hb1
    refine s_m hf rfl ?_; clear hf a; intro a hf
    refine s_v hf (x_nilCheck (hf.eval rfl)) ?_; clear hf a; intro a hf
    refine s_v hf (x_fieldAddr fo94_1 (hf.eval rfl)) ?_; clear hf a; intro a hf
    refine s_r hf (x_load sc25 (hf.eval rfl) (by first | exact hs.cell .k0 rfl | exact hs.cell .k1 rfl | exact hs.cell .k2 rfl | exact hs.cell .k3 rfl | exact hs.cell .k4 rfl | exact hs.cell .k5 rfl)) ?_; clear hf a; intro a hf
    refine s_m hf rfl ?_; clear hf a; intro a hf
    refine s_v hf (x_slice_lo sl25 (hf.eval rfl) (hf.eval rfl)  (by omega) (by omega) ) ?_; clear hf a; intro a hf
    replace hf := hf.now (k := 41) (v' := .slice (subA (some ⟨b1, 0, none⟩) cc at_ 1) (E.length - at_) (cc - at_)) rfl (by rw [hb1c]; rfl)
    refine s_m hf rfl ?_; clear hf a; intro a hf
    subst hb1c
    refine s_do hf rfl (y_copyAt (T := 5) (n := E.length) (o := at_) (s := data) hs sl25 (hf.eval rfl) rfl (hf.eval rfl) .k1 (hr _ [_, _, _, _, _, _] hs) (by omega) rfl ?_); clear hf hs a; intro w hs a hf
    rw [show min data.length (E.length - at_) = data.length by omega, List.take_length] at hs
    have hXl : (spl E at_ data).length = E.length := spl_length _ _ _ (by omega)
    rw [← hXl] at hs
    replace hs := diskA_close (s := { s with now := spl E at_ data }) (x := ⟨_, _, m, _, es, clk⟩) hm hg (hs.take .k1)
    rw [hE] at hs
    replace hs : St σ w (diskA 94 113 5 3 p { s with now := (spl (ext s.now (at_ + data.length)) at_ data), pcs := s.pcs } :: R) := hs
    refine s_nil ?_
    refine then_n ?_
    refine wp_block ?_
    refine c_loop (L0 := [(0, _)]) (fun M w m => ∃ (k : Nat) (a' : Option Addr) (c' : Nat) (P : List Pc), M = [(1, .int .i64 ((at_ + k : Nat) : Int)), (2, .slice a' (data.length - k) c')] ∧ data.length - k = m ∧ k ≤ data.length ∧ P ++ cut (at_ + k) (data.drop k) = s.pcs ++ cut at_ data ∧ Rdy σ R (.slice a' (data.length - k) c') (data.drop k) ∧ St σ w (diskA 94 113 5 3 p { s with now := (spl (ext s.now (at_ + data.length)) at_ data), pcs := P } :: R)) (M0 := _) (⟨0, ad, cd, s.pcs, rfl, rfl, Nat.zero_le _, rfl, hr, hs⟩) (hf.sub ⟨rfl, rfl, rfl, trivial⟩) ?_
    clear hf hs a
    rintro M m a w ⟨k, a', c', P, rfl, rfl, hk, hP, hr', hs⟩ hf
    clear hr
    refine wp_seq ?_
    refine wp_seq ?_
    refine wp_region_lit ?_
    refine s_m hf rfl ?_; clear hf a; intro a hf
    refine s_v hf (x_len Tryd.underlying25 (hf.eval rfl)) ?_; clear hf a; intro a hf
    refine s_v hf (x_bin (hf.eval rfl) (hf.eval rfl) (r_gt _ _ _ _)) ?_; clear hf a; intro a hf
    refine s_nil ?_
    refine then_n ?_
    refine c_cond hf rfl (fun hi1 => ?_) (fun hi1 => ?_)
    · simp only [decide_eq_true_eq, decide_eq_false_iff_not, Bool.not_eq_true', Bool.not_eq_false', Bool.not_eq_true, Int.not_lt, Int.not_le] at hi1
      have hlt : k < data.length := by omega
      obtain ⟨q, hq⟩ : ∃ q, q = secN (at_ + k) (data.length - k) := ⟨_, rfl⟩
      have hq0 : 0 < q := by rw [hq]; exact secN_pos (by omega)
      have hq1 : q ≤ data.length - k := by rw [hq]; exact secN_le _ _
      have hdk : (data.drop k).length = data.length - k := List.length_drop ..
      have hcq : ((data.drop k).take q).length = q := by rw [List.length_take]; omega
      have hP9 : P.length ≤ 1099511700000 := by have h9 := congrArg List.length hP; simp only [List.length_append] at h9; have := cut_len data.length at_ data (Nat.le_refl _); omega
      obtain ⟨⟨v1, v2, m, v4, es, clk⟩, hm, hg, hs⟩ := diskA_open hs
      dsimp only at hm hg hs
      obtain ⟨a1, c1, rfl, hc1⟩ := slB_shape (hs.take .k1)
      obtain ⟨a2, c2, rfl, hc2⟩ := slB_shape (hs.take .k2)
      obtain ⟨a4, c4, rfl⟩ := sl_shape (hs.take .k5)
      refine wp_skip ?_
      refine then_n ?_
      refine wp_block ?_
      refine wp_seq ?_
      refine wp_region_lit ?_
      refine s_m hf rfl ?_; clear hf a; intro a hf
      refine s_v hf (x_bin (hf.eval rfl) (hf.eval rfl) (r_quon _ (by omega) (by omega) (by omega))) ?_; clear hf a; intro a hf
      replace hf := hf.now (k := 48) (v' := .int .i64 (((at_ + k) / 512 : Nat) : Int)) rfl (rfl)
      refine s_a hf rfl ?_; clear hf a; intro a hf
      refine s_nil ?_
      refine then_n ?_
      refine wp_seq ?_
      refine wp_region_lit ?_
      refine s_m hf rfl ?_; clear hf a; intro a hf
      refine s_v hf (x_len Tryd.underlying25 (hf.eval rfl)) ?_; clear hf a; intro a hf
      refine s_m hf rfl ?_; clear hf a; intro a hf
      refine s_v hf (x_bin (hf.eval rfl) (hf.eval rfl) (r_addi _ (by omega) (by omega))) ?_; clear hf a; intro a hf
      refine s_v hf (x_bin (hf.eval rfl) (hf.eval rfl) (r_muli _ (by omega) (by omega))) ?_; clear hf a; intro a hf
      refine s_m hf rfl ?_; clear hf a; intro a hf
      refine s_v hf (x_bin (hf.eval rfl) (hf.eval rfl) (r_subi _ (by omega) (by omega))) ?_; clear hf a; intro a hf
      refine s_v hf (x_minI (hf.eval rfl) (hf.eval rfl)) ?_; clear hf a; intro a hf
      replace hf := hf.now (k := 56) (v' := .int .i64 (q : Int)) rfl (by rw [hq]; unfold secN; congr 1; omega)
      refine s_a hf rfl ?_; clear hf a; intro a hf
      refine s_nil ?_
      refine then_n ?_
      refine wp_seq ?_
      obtain ⟨vv, ps, er, hps, hs, hlook, hupd⟩ := map_open (Q := 113) (T := 5) ((at_ + k) / 512) mpT hm ((hs.take .k4).take .k4)
      have hpl : ps.length ≤ P.length := by have h9 := congrArg List.length hps; rw [List.length_map] at h9; have := eps_len hg ((at_ + k) / 512); omega
      have hcap := (hr' _ [_, _, _, _, _, _, _, _] hs).cap
      refine c_draw hs (fun w' => w'.heap[m]? = some (.map (es.map Ent.mem).toArray clk) ∧ w'.cell? ⟨p, 3, none⟩ = some (.map (some m)) ∧ RdB (hp w') (.slice a' (data.length - k) c') (data.drop k)) [.held, .held, .held, .held, .held, .held, .held, .held, .held, .held, .held, .held, .held, .held, .held, .eff, .held, .eff, .eff, .fin] (by kernel_rfl) (by kernel_rfl) (fun w' _ hs => ⟨hs.blk_at .k2, hs.cell (k := 3) .k4 rfl, hr' _ [_, _, _, _, _, _, _, _] hs⟩) ?_
      clear hs; intro w hs hC hw
      refine m_held hf rfl (fun w' _ => x_move (hf.eval rfl) w') ?_; clear hf a; intro a hf
      refine m_held hf rfl (fun w' _ => x_nilCheck (hf.eval rfl) w') ?_; clear hf a; intro a hf
      refine m_held hf rfl (fun w' _ => x_fieldAddr fo94_3 (hf.eval rfl) w') ?_; clear hf a; intro a hf
      refine m_held hf rfl (fun w' hc => x_load sc92 (hf.eval rfl) hc.2.1) ?_; clear hf a; intro a hf
      refine m_held hf rfl (fun w' _ => x_move (hf.eval rfl) w') ?_; clear hf a; intro a hf
      refine m_held hf rfl (fun w' _ => x_move (hf.eval rfl) w') ?_; clear hf a; intro a hf
      refine m_held hf rfl (fun w' _ => x_nilCheck (hf.eval rfl) w') ?_; clear hf a; intro a hf
      refine m_held hf rfl (fun w' _ => x_fieldAddr fo94_3 (hf.eval rfl) w') ?_; clear hf a; intro a hf
      refine m_held hf rfl (fun w' hc => x_load sc92 (hf.eval rfl) hc.2.1) ?_; clear hf a; intro a hf
      refine m_held hf rfl (fun w' _ => x_move (hf.eval rfl) w') ?_; clear hf a; intro a hf
      refine m_held hf rfl (fun w' hc => x_lookup (hf.eval rfl) (hf.eval rfl) (hlook _ hc.1)) ?_; clear hf a; intro a hf
      refine m_held hf rfl (fun w' _ => x_move (hf.eval rfl) w') ?_; clear hf a; intro a hf
      refine m_held hf rfl (fun w' _ => x_move (hf.eval rfl) w') ?_; clear hf a; intro a hf
      refine m_held hf rfl (fun w' _ => x_move (hf.eval rfl) w') ?_; clear hf a; intro a hf
      refine m_held hf rfl (fun w' _ => x_slice_hi sl25 (hf.eval rfl) (hf.eval rfl)  (by omega) (by omega)  w') ?_; clear hf a; intro a hf
      replace hf := hf.now (k := 71) (v' := .slice a' ((data.drop k).take q).length c') rfl (by first | rfl | (rw [hcq]; done) | (rw [hcq]; rfl))
      refine m_eff hf rfl (y_call (hf.eval rfl) (hf.evals rfl) Tryd.call60 ((dclone_spec _ _ _ ((data.drop k).take q) (by rw [hcq]; exact RdB.pre hC.2.2 hdk (by omega)) (by omega)).mono ?_))
      rintro e w1 ⟨e1, fe1, rfl, hj⟩
      replace hs := hs.join hj
      simp only [List.cons_append, List.nil_append] at hs
      refine ⟨_, rfl, ⟨⟨hs.blk_at .k3, hs.cell (k := 3) .k5 rfl, hr' _ [_, _, _, _, _, _, _, _, _] hs⟩, ?_⟩⟩; clear hf a; intro a hf
      refine m_held hf rfl (fun w' hc => x_build (v := .agg #[.int .i64 ((at_ + k : Nat) : Int), .slice e1 ((data.drop k).take q).length fe1]) (hf.parts rfl) (fun w => by kernel_rfl) _) ?_; clear hf a; intro a hf
      refine m_eff hf rfl (y_lit (xs := [.tmp 73]) hs sl111 (hf.evals rfl) rfl (by simp [Value.cells]) (by decide) ?_); clear hf hs a; intro b2 w hs; refine ⟨⟨hs.blk_at .k4, hs.cell (k := 3) .k6 rfl, hr' _ [_, _, _, _, _, _, _, _, _, _] hs⟩, ?_⟩; intro a hf
      refine m_eff hf rfl (y_append (n := ps.length) (m := 1) (ys := [.int .i64 ((at_ + k : Nat) : Int), .slice e1 ((data.drop k).take q).length fe1]) hs sl111 (hf.eval rfl) (hf.eval rfl) .k2 (hs.rd .k0 fun h hb => rd_rows hb rfl) (by simp [Value.oneCell']) (by omega) (by rw [maxLen_eq]; omega) ?_); clear hf hs a; intro v2 w hs hv; refine ⟨⟨hs.blk_at .k4, hs.cell (k := 3) .k6 rfl, hr' _ [_, _, _, _, _, _, _, _, _, _] hs⟩, ?_⟩; intro a hf
      replace hs := push_form (at_ := at_ + k) (hs.lose .k1) (by simp) (by simp [pcF])
      obtain ⟨es2, clk2, hm2, hi1, hi2, hup⟩ := hupd v2 (ps ++ [(at_ + k, .slice e1 ((data.drop k).take q).length fe1, (data.drop k).take q)])
      obtain ⟨w9, hrun, hs⟩ := hup _ hs
      have hg2 : Grp es2 (P ++ [(at_ + k, (data.drop k).take q)]) := grp_push hg (by rw [hi1, List.map_append, hps]; rfl) hi2
      refine m_fin0 hf rfl (y_mapUpdate (hf.eval rfl) (hf.eval rfl) (hf.eval rfl) hrun ?_); clear hf a; intro a hf
      replace hs := diskA_close (s := { s with now := (spl (ext s.now (at_ + data.length)) at_ data), pcs := P ++ [(at_ + k, (data.drop k).take q)] }) (x := ⟨_, _, m, _, es2, clk2⟩) hm2 hg2 (((hs.take .k4).take .k4).take .k4)
      refine then_n ?_
      refine wp_seq ?_
      refine wp_region_lit ?_
      refine s_m hf rfl ?_; clear hf a; intro a hf
      refine s_m hf rfl ?_; clear hf a; intro a hf
      refine s_v hf (x_bin (hf.eval rfl) (hf.eval rfl) (r_addi _ (by omega) (by omega))) ?_; clear hf a; intro a hf
      replace hf := hf.now (k := 78) (v' := .int .i64 ((at_ + (k + q) : Nat) : Int)) rfl (by congr 1; omega)
      refine s_a hf rfl ?_; clear hf a; intro a hf
      refine s_nil ?_
      refine then_n ?_
      refine wp_region_lit ?_
      refine s_m hf rfl ?_; clear hf a; intro a hf
      refine s_m hf rfl ?_; clear hf a; intro a hf
      refine s_v hf (x_slice_lo sl25 (hf.eval rfl) (hf.eval rfl)  (by omega) (by omega) ) ?_; clear hf a; intro a hf
      replace hf := hf.now (k := 81) (v' := .slice (subA a' c' q 1) (data.length - (k + q)) (c' - q)) rfl (by congr 1; omega)
      have hr2 := Rdy.rest hr' hdk (i := q) (by omega)
      rw [List.drop_drop, show data.length - k - q = data.length - (k + q) by omega] at hr2
      have hP2 : P ++ [(at_ + k, (data.drop k).take q)] ++ cut (at_ + (k + q)) (data.drop (k + q)) = s.pcs ++ cut at_ data := by rw [← hP, cut_cons (l := data.drop k) (by intro h9; rw [h9] at hdk; simp at hdk; omega), hdk, ← hq, List.drop_drop, Nat.add_assoc, List.append_assoc]; rfl
      refine s_a hf rfl ?_; clear hf a; intro a hf
      refine s_nil ?_
      refine blk_n ?_
      exact ⟨_, _, ⟨k + q, _, _, P ++ [(at_ + k, (data.drop k).take q)], rfl, rfl, by omega, hP2, hr2, hs⟩, by omega, hf.sub ⟨rfl, rfl, rfl, trivial⟩⟩
    · simp only [decide_eq_true_eq, decide_eq_false_iff_not, Bool.not_eq_true', Bool.not_eq_false', Bool.not_eq_true, Int.not_lt, Int.not_le] at hi1
      refine wp_exit ?_
      refine then_x ?_
      refine then_x ?_
      refine blk_x ?_
      refine r_0n hf Tryd.results103 ?_
      have hk9 : k = data.length := by omega
      subst hk9
      rw [List.drop_length, cut_nil, List.append_nil] at hP
      subst hP
      exact ⟨rfl, hs⟩
end Go.Proofs.YtehakfbfjpolfaaDoor

namespace Go.Proofs.YtehakfbfjpolfaaDoor
open Go Vw
theorem dWrite_spec (σ : Sig) (w : World) (R : List Asrt) (p : Nat) (s : DS) (hs : St σ w (diskA 94 113 5 3 p s :: R)) (off : Int) (ad : Option Addr) (cd : Nat) (data : List UInt8) (hr : Rdy σ R (.slice ad data.length cd) data) (hdl : data.length ≤ 140737488351232) (ho : DOk s) (hcl : s.calls ≤ 4611686018427387904) (hpc : s.pcs.length ≤ 1099511600000) (hsl : s.sizes.length ≤ 1099511600000) : Calls Tryd.prog 87 #[.pointer (some ⟨p, 0, none⟩), .int .i64 off, .slice ad data.length cd] w fun e w' => e = .returned (.int .i64 (wrS s off data).1) ∧ St σ w' (diskA 94 113 5 3 p (wrS s off data).2 :: R) := by
  have hroom0 := ho.room0
  have hroom1 := ho.room1
  have hnow1 := ho.now
  obtain ⟨⟨v1, v2, m, v4, es, clk⟩, hm, hg, hs⟩ := diskA_open hs
  dsimp only at hm hg hs
  obtain ⟨a1, c1, rfl, hc1⟩ := slB_shape (hs.take .k1)
  obtain ⟨a2, c2, rfl, hc2⟩ := slB_shape (hs.take .k2)
  obtain ⟨a4, c4, rfl⟩ := sl_shape (hs.take .k5)
  refine c_enter (N := 87) Tryd.func87 rfl Tryd.ntmps87 (by simp) ?_
  intro a hf
  refine wp_seq ?_
  refine wp_region_lit ?_
  refine s_a hf rfl ?_; clear hf a; intro a hf
  refine s_nil ?_
  refine then_n ?_
  refine wp_seq ?_
  refine wp_block ?_
  refine wp_seq ?_
  refine wp_region_lit ?_
  refine s_m hf rfl ?_; clear hf a; intro a hf
  refine s_v hf (x_eqNil Tryd.underlying49 (hf.eval rfl) (hf.eval rfl)) ?_; clear hf a; intro a hf
  replace hf := hf.now (k := 10) (v' := .bool false) rfl rfl
  refine s_a hf rfl ?_; clear hf a; intro a hf
  refine s_nil ?_
  refine then_n ?_
  refine c_cond_f hf rfl rfl ?_
  refine wp_seq ?_
  refine wp_region_lit ?_
  refine s_m hf rfl ?_; clear hf a; intro a hf
  refine s_v hf (x_nilCheck (hf.eval rfl)) ?_; clear hf a; intro a hf
  refine s_v hf (x_fieldAddr fo94_7 (hf.eval rfl)) ?_; clear hf a; intro a hf
  refine s_r hf (x_load sc4 (hf.eval rfl) (by first | exact hs.cell .k0 rfl | exact hs.cell .k1 rfl | exact hs.cell .k2 rfl | exact hs.cell .k3 rfl | exact hs.cell .k4 rfl | exact hs.cell .k5 rfl)) ?_; clear hf a; intro a hf
  refine s_a hf rfl ?_; clear hf a; intro a hf
  refine s_nil ?_
  refine then_n ?_
  refine c_cond hf rfl (fun hi1 => ?_) (fun hi1 => ?_)
  · refine wp_seq ?_
    refine wp_region_lit ?_
    refine s_a hf rfl ?_; clear hf a; intro a hf
    refine s_nil ?_
    refine then_n ?_
    refine wp_ret ?_
    refine blk_r (then_r ?_)
    refine r_1 hf Tryd.results87 rfl ?_
    rw [wrS_dead hi1]
    exact ⟨rfl, diskA_close (x := ⟨_, _, m, _, es, clk⟩) hm hg hs⟩
  · refine wp_seq ?_
    refine wp_region_lit ?_
    refine s_m hf rfl ?_; clear hf a; intro a hf
    refine s_v hf (x_bin (hf.eval rfl) (hf.eval rfl) (r_lt _ _ _ _)) ?_; clear hf a; intro a hf
    refine s_a hf rfl ?_; clear hf a; intro a hf
    refine s_nil ?_
    refine then_n ?_
    refine c_cond hf rfl (fun hi2 => ?_) (fun hi2 => ?_)
    · simp only [decide_eq_true_eq, decide_eq_false_iff_not, Bool.not_eq_true', Bool.not_eq_false', Bool.not_eq_true, Int.not_lt, Int.not_le] at hi2
      refine wp_seq ?_
      refine wp_region_lit ?_
      refine s_a hf rfl ?_; clear hf a; intro a hf
      refine s_nil ?_
      refine then_n ?_
      refine wp_ret ?_
      refine blk_r (then_r ?_)
      refine r_1 hf Tryd.results87 rfl ?_
      rw [wrS_neg hi1 (by omega)]
      exact ⟨rfl, diskA_close (x := ⟨_, _, m, _, es, clk⟩) hm hg hs⟩
    · simp only [decide_eq_true_eq, decide_eq_false_iff_not, Bool.not_eq_true', Bool.not_eq_false', Bool.not_eq_true, Int.not_lt, Int.not_le] at hi2
      refine wp_seq ?_
      refine wp_region_lit ?_
      refine s_m hf rfl ?_; clear hf a; intro a hf
      refine s_v hf (x_len Tryd.underlying25 (hf.eval rfl)) ?_; clear hf a; intro a hf
      refine s_m hf rfl ?_; clear hf a; intro a hf
      refine s_v hf (x_nilCheck (hf.eval rfl)) ?_; clear hf a; intro a hf
      refine s_v hf (x_fieldAddr fo94_0 (hf.eval rfl)) ?_; clear hf a; intro a hf
      refine s_r hf (x_load sc3 (hf.eval rfl) (by first | exact hs.cell .k0 rfl | exact hs.cell .k1 rfl | exact hs.cell .k2 rfl | exact hs.cell .k3 rfl | exact hs.cell .k4 rfl | exact hs.cell .k5 rfl)) ?_; clear hf a; intro a hf
      refine s_v hf (x_bin (hf.eval rfl) (hf.eval rfl) (r_gt _ _ _ _)) ?_; clear hf a; intro a hf
      refine s_m hf rfl ?_; clear hf a; intro a hf
      refine s_bool hf (k := 27) rfl (fun hg7_7 hf' => ?_) (fun hg7_7 hf' => ?_)
      · clear hf
        have hf := hf'
        clear hf'
        simp only [decide_eq_true_eq, decide_eq_false_iff_not] at hg7_7
        refine s_pass hf rfl rfl ?_; clear hf a; intro a hf
        refine s_pass hf rfl rfl ?_; clear hf a; intro a hf
        refine s_pass hf rfl rfl ?_; clear hf a; intro a hf
        refine s_pass hf rfl rfl ?_; clear hf a; intro a hf
        refine s_pass hf rfl rfl ?_; clear hf a; intro a hf
        refine s_pass hf rfl rfl ?_; clear hf a; intro a hf
        refine s_pass hf rfl rfl ?_; clear hf a; intro a hf
        refine s_pass hf rfl rfl ?_; clear hf a; intro a hf
        refine s_pass hf rfl rfl ?_; clear hf a; intro a hf
        refine s_v hf (x_pick_t (hf.eval rfl) (hf.eval rfl)) ?_; clear hf a; intro a hf
        refine s_a hf rfl ?_; clear hf a; intro a hf
        refine s_nil ?_
        refine then_n ?_
        refine c_cond_t hf rfl rfl ?_
        refine wp_seq ?_
        refine wp_region_lit ?_
        refine s_a hf rfl ?_; clear hf a; intro a hf
        refine s_nil ?_
        refine then_n ?_
        refine wp_ret ?_
        refine blk_r (then_r ?_)
        refine r_1 hf Tryd.results87 rfl ?_
        rw [wrS_big hi1 (by omega) (by omega)]
        exact ⟨rfl, diskA_close (x := ⟨_, _, m, _, es, clk⟩) hm hg hs⟩
      · clear hf
        have hf := hf'
        clear hf'
        simp only [decide_eq_true_eq, decide_eq_false_iff_not] at hg7_7
        refine s_do hf (wanted_of hf rfl rfl rfl) (.value (x_move (hf.eval rfl) _) ?_); clear hf a; intro a hf
        refine s_do hf (wanted_of hf rfl rfl rfl) (.value (x_move (hf.eval rfl) _) ?_); clear hf a; intro a hf
        refine s_do hf (wanted_of hf rfl rfl rfl) (.value (x_nilCheck (hf.eval rfl) _) ?_); clear hf a; intro a hf
        refine s_do hf (wanted_of hf rfl rfl rfl) (.value (x_fieldAddr fo94_0 (hf.eval rfl) _) ?_); clear hf a; intro a hf
        refine s_do hf (wanted_of hf rfl rfl rfl) (.value (x_load sc3 (hf.eval rfl) (by first | exact hs.cell .k0 rfl | exact hs.cell .k1 rfl | exact hs.cell .k2 rfl | exact hs.cell .k3 rfl | exact hs.cell .k4 rfl | exact hs.cell .k5 rfl)) ?_); clear hf a; intro a hf
        refine s_do hf (wanted_of hf rfl rfl rfl) (.value (x_move (hf.eval rfl) _) ?_); clear hf a; intro a hf
        refine s_do hf (wanted_of hf rfl rfl rfl) (.value (x_len Tryd.underlying25 (hf.eval rfl) _) ?_); clear hf a; intro a hf
        refine s_do hf (wanted_of hf rfl rfl rfl) (.value (x_bin (hf.eval rfl) (hf.eval rfl) (r_subi _ (by omega) (by omega)) _) ?_); clear hf a; intro a hf
        refine s_do hf (wanted_of hf rfl rfl rfl) (.value (x_bin (hf.eval rfl) (hf.eval rfl) (r_gt _ _ _ _) _) ?_); clear hf a; intro a hf
        refine s_v hf (x_pick_f (hf.eval rfl) (hf.eval rfl)) ?_; clear hf a; intro a hf
        refine s_a hf rfl ?_; clear hf a; intro a hf
        refine s_nil ?_
        refine then_n ?_
        refine c_cond hf rfl (fun hi3 => ?_) (fun hi3 => ?_)
        · simp only [decide_eq_true_eq, decide_eq_false_iff_not, Bool.not_eq_true', Bool.not_eq_false', Bool.not_eq_true, Int.not_lt, Int.not_le] at hi3
          refine wp_seq ?_
          refine wp_region_lit ?_
          refine s_a hf rfl ?_; clear hf a; intro a hf
          refine s_nil ?_
          refine then_n ?_
          refine wp_ret ?_
          refine blk_r (then_r ?_)
          refine r_1 hf Tryd.results87 rfl ?_
          rw [wrS_big hi1 (by omega) (by omega)]
          exact ⟨rfl, diskA_close (x := ⟨_, _, m, _, es, clk⟩) hm hg hs⟩
        · simp only [decide_eq_true_eq, decide_eq_false_iff_not, Bool.not_eq_true', Bool.not_eq_false', Bool.not_eq_true, Int.not_lt, Int.not_le] at hi3
          refine wp_seq ?_
          refine wp_region_lit ?_
          refine s_m hf rfl ?_; clear hf a; intro a hf
          replace hs := diskA_close (s := s) (x := ⟨_, _, m, _, es, clk⟩) hm hg hs
          refine s_do hf rfl (y_call (hf.eval rfl) (hf.evals rfl) Tryd.call102 ((spend_spec _ _ _ p s hs ho.fuse.2 ho.fuse.1 hcl).mono ?_))
          rintro e w1 ⟨rfl, hs⟩
          obtain ⟨t, ht⟩ : ∃ t, t = spent s := ⟨_, rfl⟩
          rw [← ht] at hs
          obtain ⟨htn, htr, htd, htp, hts⟩ := spent_now s
          rw [← ht] at htn htr htd htp hts
          have hto := spent_ok ho
          rw [← ht] at hto
          have htn2 : t.now.length = s.now.length := by rw [htn]
          have htp2 : t.pcs.length = s.pcs.length := by rw [htp]
          have hts2 : t.sizes.length = s.sizes.length := by rw [hts]
          refine ⟨_, rfl, ?_⟩; clear hf a; intro a hf
          refine s_v hf (x_not (hf.eval rfl)) ?_; clear hf a; intro a hf
          refine s_a hf rfl ?_; clear hf a; intro a hf
          refine s_nil ?_
          refine then_n ?_
          refine c_cond hf rfl (fun hi4 => ?_) (fun hi4 => ?_)
          · simp only [Bool.not_eq_true', Bool.not_eq_false', decide_eq_true_eq, decide_eq_false_iff_not, ne_eq, Decidable.not_not] at hi4
            refine wp_seq ?_
            refine wp_region_lit ?_
            refine s_a hf rfl ?_; clear hf a; intro a hf
            refine s_nil ?_
            refine then_n ?_
            refine wp_ret ?_
            refine blk_r (then_r ?_)
            refine r_1 hf Tryd.results87 rfl ?_
            rw [wrS_fuse hi1 (by omega) (by omega) hi4, ← ht]
            exact ⟨rfl, hs⟩
          · simp only [Bool.not_eq_true', Bool.not_eq_false', decide_eq_true_eq, decide_eq_false_iff_not, ne_eq, Decidable.not_not] at hi4
            refine wp_skip ?_
            refine blk_n ?_
            refine then_n ?_
            refine wp_seq ?_
            refine wp_seq ?_
            refine wp_region_lit ?_
            refine s_m hf rfl ?_; clear hf a; intro a hf
            refine s_v hf (x_len Tryd.underlying25 (hf.eval rfl)) ?_; clear hf a; intro a hf
            refine s_v hf (x_bin (hf.eval rfl) (hf.eval rfl) (r_eq _ _ _ _)) ?_; clear hf a; intro a hf
            refine s_nil ?_
            refine then_n ?_
            refine c_cond hf rfl (fun hi5 => ?_) (fun hi5 => ?_)
            · simp only [decide_eq_true_eq, decide_eq_false_iff_not, Bool.not_eq_true', Bool.not_eq_false', Bool.not_eq_true, Int.not_lt, Int.not_le] at hi5
              refine wp_seq ?_
              refine wp_region_lit ?_
              refine s_a hf rfl ?_; clear hf a; intro a hf
              refine s_nil ?_
              refine then_n ?_
              refine wp_ret ?_
              refine then_r ?_
              refine r_1 hf Tryd.results87 rfl ?_
              rw [wrS_none hi1 (by omega) (by omega) hi4 (List.eq_nil_of_length_eq_zero (by omega)), ← ht]
              exact ⟨rfl, hs⟩
            · simp only [decide_eq_true_eq, decide_eq_false_iff_not, Bool.not_eq_true', Bool.not_eq_false', Bool.not_eq_true, Int.not_lt, Int.not_le] at hi5
              have hd : data ≠ [] := by intro h9; subst h9; simp at hi5
              obtain ⟨⟨v1, v2, m, v4, es, clk⟩, hm, hg, hs⟩ := diskA_open hs
              dsimp only at hm hg hs
              obtain ⟨a1, c1, rfl, hc1⟩ := slB_shape (hs.take .k1)
              obtain ⟨a2, c2, rfl, hc2⟩ := slB_shape (hs.take .k2)
              obtain ⟨a4, c4, rfl⟩ := sl_shape (hs.take .k5)
              refine wp_skip ?_
              refine then_n ?_
              refine wp_seq ?_
              refine wp_region_lit ?_
              refine s_m hf rfl ?_; clear hf a; intro a hf
              refine s_v hf (x_nilCheck (hf.eval rfl)) ?_; clear hf a; intro a hf
              refine s_v hf (x_fieldAddr fo94_1 (hf.eval rfl)) ?_; clear hf a; intro a hf
              refine s_r hf (x_load sc25 (hf.eval rfl) (by first | exact hs.cell .k0 rfl | exact hs.cell .k1 rfl | exact hs.cell .k2 rfl | exact hs.cell .k3 rfl | exact hs.cell .k4 rfl | exact hs.cell .k5 rfl)) ?_; clear hf a; intro a hf
              refine s_v hf (x_len Tryd.underlying25 (hf.eval rfl)) ?_; clear hf a; intro a hf
              refine s_a hf rfl ?_; clear hf a; intro a hf
              refine s_nil ?_
              refine then_n ?_
              refine wp_seq ?_
              refine wp_seq ?_
              refine wp_region_lit ?_
              refine s_m hf rfl ?_; clear hf a; intro a hf
              refine s_m hf rfl ?_; clear hf a; intro a hf
              refine s_v hf (x_bin (hf.eval rfl) (hf.eval rfl) (r_gt _ _ _ _)) ?_; clear hf a; intro a hf
              refine s_nil ?_
              refine then_n ?_
              refine c_cond hf rfl (fun hi6 => ?_) (fun hi6 => ?_)
              · simp only [decide_eq_true_eq, decide_eq_false_iff_not, Bool.not_eq_true', Bool.not_eq_false', Bool.not_eq_true, Int.not_lt, Int.not_le] at hi6
                refine wp_region_lit ?_
                refine s_m hf rfl ?_; clear hf a; intro a hf
                refine s_m hf rfl ?_; clear hf a; intro a hf
                refine s_m hf rfl ?_; clear hf a; intro a hf
                refine s_m hf rfl ?_; clear hf a; intro a hf
                refine s_v hf (x_bin (hf.eval rfl) (hf.eval rfl) (r_subi _ (by omega) (by omega))) ?_; clear hf a; intro a hf
                refine s_do hf rfl (y_makeB (m := off.toNat - t.now.length) (c := off.toNat - t.now.length) hs sl25 (hf.eval rfl) (hf.eval rfl) (by omega) (by omega) (Nat.le_refl _) (by omega) ?_); clear hf hs a; intro b w hs a hf
                replace hs := hs.ofBb (n := off.toNat - t.now.length) (by simp) (by omega)
                refine s_m hf rfl ?_; clear hf a; intro a hf
                refine s_do hf rfl (y_appendB (s := data) hs sl25 rfl (hf.eval rfl) (hf.eval rfl) .k0 (hr _ [_, _, _, _, _, _, _] hs) (by simp; omega) ?_); clear hf hs a; intro v8 w hs hv a hf
                obtain ⟨a8, c8, rfl, hc8⟩ := slB_shape hs
                replace hs := St.give (L := _) hs .k6
                replace hs := diskA_close (s := t) (x := ⟨_, _, m, _, es, clk⟩) hm hg hs
                refine s_do hf rfl (y_call (hf.eval rfl) (hf.evals rfl) Tryd.call103 ((lay_spec σ _ _ p t hs t.now.length a8 c8 ((List.replicate (off.toNat - t.now.length) (0 : UInt8)) ++ data) (Rdy.own .k0) (by simp [hd]) (Nat.le_refl _) (by simp; omega) (by omega) (by omega)).mono ?_))
                rintro e w1 ⟨rfl, hs⟩
                replace hs := hs.lose .k1
                rw [← layW_hole (by omega)] at hs
                obtain ⟨u, hu⟩ : ∃ u, u = layW t off.toNat data := ⟨_, rfl⟩
                rw [← hu] at hs
                have hul : u.now.length = max t.now.length (off.toNat + data.length) := by rw [hu, layW_len]
                have husz : u.sizes = t.sizes := by rw [hu]; unfold layW; split <;> rfl
                have husz2 : u.sizes.length = t.sizes.length := by rw [husz]
                obtain ⟨⟨v1, v2, m, v4, es, clk⟩, hm, hg, hs⟩ := diskA_open hs
                dsimp only at hm hg hs
                obtain ⟨a1, c1, rfl, hc1⟩ := slB_shape (hs.take .k1)
                obtain ⟨a2, c2, rfl, hc2⟩ := slB_shape (hs.take .k2)
                obtain ⟨a4, c4, rfl⟩ := sl_shape (hs.take .k5)
                refine ⟨_, rfl, ?_⟩; clear hf a; intro a hf
                refine s_nil ?_
                refine then_n ?_
                refine wp_seq ?_
                refine wp_seq ?_
                refine wp_region_lit ?_
                refine s_m hf rfl ?_; clear hf a; intro a hf
                refine s_v hf (x_nilCheck (hf.eval rfl)) ?_; clear hf a; intro a hf
                refine s_v hf (x_fieldAddr fo94_1 (hf.eval rfl)) ?_; clear hf a; intro a hf
                refine s_r hf (x_load sc25 (hf.eval rfl) (by first | exact hs.cell .k0 rfl | exact hs.cell .k1 rfl | exact hs.cell .k2 rfl | exact hs.cell .k3 rfl | exact hs.cell .k4 rfl | exact hs.cell .k5 rfl)) ?_; clear hf a; intro a hf
                refine s_v hf (x_len Tryd.underlying25 (hf.eval rfl)) ?_; clear hf a; intro a hf
                refine s_m hf rfl ?_; clear hf a; intro a hf
                refine s_v hf (x_bin (hf.eval rfl) (hf.eval rfl) (r_ne _ _ _ _)) ?_; clear hf a; intro a hf
                refine s_nil ?_
                refine then_n ?_
                refine c_cond hf rfl (fun hi7 => ?_) (fun hi7 => ?_)
                · simp only [decide_eq_true_eq, decide_eq_false_iff_not, Bool.not_eq_true', Bool.not_eq_false', Bool.not_eq_true, Int.not_lt, Int.not_le] at hi7
                  refine c_draw hs (fun w' => w'.cell? ⟨p, 4, none⟩ = some (.slice a4 u.sizes.length c4)) [.held, .held, .held, .held, .held, .held, .held, .held, .read, .held, .eff, .eff, .held, .held, .fin] (by kernel_rfl) (by kernel_rfl) (fun w' _ hs => hs.cell (k := 4) .k0 rfl) ?_
                  clear hs; intro w hs hC hw
                  refine m_held hf rfl (fun w' _ => x_move (hf.eval rfl) w') ?_; clear hf a; intro a hf
                  refine m_held hf rfl (fun w' _ => x_move (hf.eval rfl) w') ?_; clear hf a; intro a hf
                  refine m_held hf rfl (fun w' _ => x_nilCheck (hf.eval rfl) w') ?_; clear hf a; intro a hf
                  refine m_held hf rfl (fun w' _ => x_fieldAddr fo94_4 (hf.eval rfl) w') ?_; clear hf a; intro a hf
                  refine m_held hf rfl (fun w' hc => x_load sc67 (hf.eval rfl) hc) ?_; clear hf a; intro a hf
                  refine m_held hf rfl (fun w' _ => x_move (hf.eval rfl) w') ?_; clear hf a; intro a hf
                  refine m_held hf rfl (fun w' _ => x_nilCheck (hf.eval rfl) w') ?_; clear hf a; intro a hf
                  refine m_held hf rfl (fun w' _ => x_fieldAddr fo94_1 (hf.eval rfl) w') ?_; clear hf a; intro a hf
                  refine m_read hf rfl (x_load sc25 (hf.eval rfl) (by first | exact hs.cell .k0 rfl | exact hs.cell .k1 rfl | exact hs.cell .k2 rfl | exact hs.cell .k3 rfl | exact hs.cell .k4 rfl | exact hs.cell .k5 rfl)) ?_; clear hf a; intro a hf
                  refine m_held hf rfl (fun w' _ => x_len Tryd.underlying25 (hf.eval rfl) w') ?_; clear hf a; intro a hf
                  refine m_eff hf rfl (y_lit (xs := [.tmp 82]) hs sl67 (hf.evals rfl) rfl (by simp [Value.cells]) (by decide) ?_); clear hf hs a; intro b2 w hs; refine ⟨hs.cell (k := 4) .k1 rfl, ?_⟩; intro a hf
                  refine m_eff hf rfl (y_append (n := u.sizes.length) (m := 1) (ys := [.int .i64 (u.now.length : Int)]) hs sl67 (hf.eval rfl) (hf.eval rfl) .k6 (hs.rd .k0 fun h hb => rd_rows hb rfl) (by simp [Value.oneCell']) (by omega) (by rw [maxLen_eq]; omega) ?_); clear hf hs a; intro v2 w hs hv; refine ⟨hs.cell (k := 4) .k2 rfl, ?_⟩; intro a hf
                  rw [← szC_append, show u.sizes.length + 1 = (u.sizes ++ [u.now.length]).length by simp] at hs
                  obtain ⟨a7, c7, rfl⟩ := sl_shape hs
                  refine m_held hf rfl (fun w' _ => x_nilCheck (hf.eval rfl) w') ?_; clear hf a; intro a hf
                  refine m_held hf rfl (fun w' _ => x_fieldAddr fo94_4 (hf.eval rfl) w') ?_; clear hf a; intro a hf
                  refine m_fin0 hf rfl (y_store hs sc67 (hf.eval rfl) (hf.eval rfl) rfl (by first | exact .k0 | exact .k1 | exact .k2 | exact .k3 | exact .k4 | exact .k5) (by simp) ?_); clear hf hs a; intro w hs; intro a hf
                  replace hs := St.give (L := _) (hs.lose .k1) .k5
                  refine then_n ?_
                  refine wp_seq ?_
                  refine wp_region_lit ?_
                  refine s_a hf rfl ?_; clear hf a; intro a hf
                  refine s_nil ?_
                  refine then_n ?_
                  refine wp_ret ?_
                  refine r_1 hf Tryd.results87 rfl ?_
                  rw [wrS_some hi1 (by omega) (by omega) hi4 hd, ← ht, ← hu]
                  first | (rw [sized_eq (by omega)]; exact ⟨rfl, diskA_close (x := ⟨_, _, m, _, es, clk⟩) hm hg hs⟩) | (rw [sized_ne (by omega)]; exact ⟨rfl, diskA_close (x := ⟨.slice a1 u.now.length c1, .slice a2 u.dur.length c2, m, .slice a7 (u.sizes ++ [u.now.length]).length c7, es, clk⟩) hm hg hs⟩)
                · simp only [decide_eq_true_eq, decide_eq_false_iff_not, Bool.not_eq_true', Bool.not_eq_false', Bool.not_eq_true, Int.not_lt, Int.not_le] at hi7
                  refine wp_skip ?_
                  refine then_n ?_
                  refine wp_seq ?_
                  refine wp_region_lit ?_
                  refine s_a hf rfl ?_; clear hf a; intro a hf
                  refine s_nil ?_
                  refine then_n ?_
                  refine wp_ret ?_
                  refine r_1 hf Tryd.results87 rfl ?_
                  rw [wrS_some hi1 (by omega) (by omega) hi4 hd, ← ht, ← hu]
                  first | (rw [sized_eq (by omega)]; exact ⟨rfl, diskA_close (x := ⟨_, _, m, _, es, clk⟩) hm hg hs⟩) | (rw [sized_ne (by omega)]; exact ⟨rfl, diskA_close (x := ⟨.slice a1 u.now.length c1, .slice a2 u.dur.length c2, m, .slice a7 (u.sizes ++ [u.now.length]).length c7, es, clk⟩) hm hg hs⟩)
              · simp only [decide_eq_true_eq, decide_eq_false_iff_not, Bool.not_eq_true', Bool.not_eq_false', Bool.not_eq_true, Int.not_lt, Int.not_le] at hi6
                refine wp_region_lit ?_
                refine s_m hf rfl ?_; clear hf a; intro a hf
                refine s_m hf rfl ?_; clear hf a; intro a hf
                replace hf := hf.now (k := 63) (v' := .int .i64 (off.toNat : Int)) rfl (by congr 1; omega)
                refine s_m hf rfl ?_; clear hf a; intro a hf
                replace hs := diskA_close (s := t) (x := ⟨_, _, m, _, es, clk⟩) hm hg hs
                refine s_do hf rfl (y_call (hf.eval rfl) (hf.evals rfl) Tryd.call103 ((lay_spec σ _ _ p t hs off.toNat ad cd data hr hd (by omega) (by omega) (by omega) (by omega)).mono ?_))
                rintro e w1 ⟨rfl, hs⟩
                rw [← layW_in (by omega)] at hs
                obtain ⟨u, hu⟩ : ∃ u, u = layW t off.toNat data := ⟨_, rfl⟩
                rw [← hu] at hs
                have hul : u.now.length = max t.now.length (off.toNat + data.length) := by rw [hu, layW_len]
                have husz : u.sizes = t.sizes := by rw [hu]; unfold layW; split <;> rfl
                have husz2 : u.sizes.length = t.sizes.length := by rw [husz]
                obtain ⟨⟨v1, v2, m, v4, es, clk⟩, hm, hg, hs⟩ := diskA_open hs
                dsimp only at hm hg hs
                obtain ⟨a1, c1, rfl, hc1⟩ := slB_shape (hs.take .k1)
                obtain ⟨a2, c2, rfl, hc2⟩ := slB_shape (hs.take .k2)
                obtain ⟨a4, c4, rfl⟩ := sl_shape (hs.take .k5)
                refine ⟨_, rfl, ?_⟩; clear hf a; intro a hf
                refine s_nil ?_
                refine then_n ?_
                refine wp_seq ?_
                refine wp_seq ?_
                refine wp_region_lit ?_
                refine s_m hf rfl ?_; clear hf a; intro a hf
                refine s_v hf (x_nilCheck (hf.eval rfl)) ?_; clear hf a; intro a hf
                refine s_v hf (x_fieldAddr fo94_1 (hf.eval rfl)) ?_; clear hf a; intro a hf
                refine s_r hf (x_load sc25 (hf.eval rfl) (by first | exact hs.cell .k0 rfl | exact hs.cell .k1 rfl | exact hs.cell .k2 rfl | exact hs.cell .k3 rfl | exact hs.cell .k4 rfl | exact hs.cell .k5 rfl)) ?_; clear hf a; intro a hf
                refine s_v hf (x_len Tryd.underlying25 (hf.eval rfl)) ?_; clear hf a; intro a hf
                refine s_m hf rfl ?_; clear hf a; intro a hf
                refine s_v hf (x_bin (hf.eval rfl) (hf.eval rfl) (r_ne _ _ _ _)) ?_; clear hf a; intro a hf
                refine s_nil ?_
                refine then_n ?_
                refine c_cond hf rfl (fun hi7 => ?_) (fun hi7 => ?_)
                · simp only [decide_eq_true_eq, decide_eq_false_iff_not, Bool.not_eq_true', Bool.not_eq_false', Bool.not_eq_true, Int.not_lt, Int.not_le] at hi7
                  refine c_draw hs (fun w' => w'.cell? ⟨p, 4, none⟩ = some (.slice a4 u.sizes.length c4)) [.held, .held, .held, .held, .held, .held, .held, .held, .read, .held, .eff, .eff, .held, .held, .fin] (by kernel_rfl) (by kernel_rfl) (fun w' _ hs => hs.cell (k := 4) .k0 rfl) ?_
                  clear hs; intro w hs hC hw
                  refine m_held hf rfl (fun w' _ => x_move (hf.eval rfl) w') ?_; clear hf a; intro a hf
                  refine m_held hf rfl (fun w' _ => x_move (hf.eval rfl) w') ?_; clear hf a; intro a hf
                  refine m_held hf rfl (fun w' _ => x_nilCheck (hf.eval rfl) w') ?_; clear hf a; intro a hf
                  refine m_held hf rfl (fun w' _ => x_fieldAddr fo94_4 (hf.eval rfl) w') ?_; clear hf a; intro a hf
                  refine m_held hf rfl (fun w' hc => x_load sc67 (hf.eval rfl) hc) ?_; clear hf a; intro a hf
                  refine m_held hf rfl (fun w' _ => x_move (hf.eval rfl) w') ?_; clear hf a; intro a hf
                  refine m_held hf rfl (fun w' _ => x_nilCheck (hf.eval rfl) w') ?_; clear hf a; intro a hf
                  refine m_held hf rfl (fun w' _ => x_fieldAddr fo94_1 (hf.eval rfl) w') ?_; clear hf a; intro a hf
                  refine m_read hf rfl (x_load sc25 (hf.eval rfl) (by first | exact hs.cell .k0 rfl | exact hs.cell .k1 rfl | exact hs.cell .k2 rfl | exact hs.cell .k3 rfl | exact hs.cell .k4 rfl | exact hs.cell .k5 rfl)) ?_; clear hf a; intro a hf
                  refine m_held hf rfl (fun w' _ => x_len Tryd.underlying25 (hf.eval rfl) w') ?_; clear hf a; intro a hf
                  refine m_eff hf rfl (y_lit (xs := [.tmp 82]) hs sl67 (hf.evals rfl) rfl (by simp [Value.cells]) (by decide) ?_); clear hf hs a; intro b2 w hs; refine ⟨hs.cell (k := 4) .k1 rfl, ?_⟩; intro a hf
                  refine m_eff hf rfl (y_append (n := u.sizes.length) (m := 1) (ys := [.int .i64 (u.now.length : Int)]) hs sl67 (hf.eval rfl) (hf.eval rfl) .k6 (hs.rd .k0 fun h hb => rd_rows hb rfl) (by simp [Value.oneCell']) (by omega) (by rw [maxLen_eq]; omega) ?_); clear hf hs a; intro v2 w hs hv; refine ⟨hs.cell (k := 4) .k2 rfl, ?_⟩; intro a hf
                  rw [← szC_append, show u.sizes.length + 1 = (u.sizes ++ [u.now.length]).length by simp] at hs
                  obtain ⟨a7, c7, rfl⟩ := sl_shape hs
                  refine m_held hf rfl (fun w' _ => x_nilCheck (hf.eval rfl) w') ?_; clear hf a; intro a hf
                  refine m_held hf rfl (fun w' _ => x_fieldAddr fo94_4 (hf.eval rfl) w') ?_; clear hf a; intro a hf
                  refine m_fin0 hf rfl (y_store hs sc67 (hf.eval rfl) (hf.eval rfl) rfl (by first | exact .k0 | exact .k1 | exact .k2 | exact .k3 | exact .k4 | exact .k5) (by simp) ?_); clear hf hs a; intro w hs; intro a hf
                  replace hs := St.give (L := _) (hs.lose .k1) .k5
                  refine then_n ?_
                  refine wp_seq ?_
                  refine wp_region_lit ?_
                  refine s_a hf rfl ?_; clear hf a; intro a hf
                  refine s_nil ?_
                  refine then_n ?_
                  refine wp_ret ?_
                  refine r_1 hf Tryd.results87 rfl ?_
                  rw [wrS_some hi1 (by omega) (by omega) hi4 hd, ← ht, ← hu]
                  first | (rw [sized_eq (by omega)]; exact ⟨rfl, diskA_close (x := ⟨_, _, m, _, es, clk⟩) hm hg hs⟩) | (rw [sized_ne (by omega)]; exact ⟨rfl, diskA_close (x := ⟨.slice a1 u.now.length c1, .slice a2 u.dur.length c2, m, .slice a7 (u.sizes ++ [u.now.length]).length c7, es, clk⟩) hm hg hs⟩)
                · simp only [decide_eq_true_eq, decide_eq_false_iff_not, Bool.not_eq_true', Bool.not_eq_false', Bool.not_eq_true, Int.not_lt, Int.not_le] at hi7
                  refine wp_skip ?_
                  refine then_n ?_
                  refine wp_seq ?_
                  refine wp_region_lit ?_
                  refine s_a hf rfl ?_; clear hf a; intro a hf
                  refine s_nil ?_
                  refine then_n ?_
                  refine wp_ret ?_
                  refine r_1 hf Tryd.results87 rfl ?_
                  rw [wrS_some hi1 (by omega) (by omega) hi4 hd, ← ht, ← hu]
                  first | (rw [sized_eq (by omega)]; exact ⟨rfl, diskA_close (x := ⟨_, _, m, _, es, clk⟩) hm hg hs⟩) | (rw [sized_ne (by omega)]; exact ⟨rfl, diskA_close (x := ⟨.slice a1 u.now.length c1, .slice a2 u.dur.length c2, m, .slice a7 (u.sizes ++ [u.now.length]).length c7, es, clk⟩) hm hg hs⟩)
theorem dTrunc_spec (σ : Sig) (w : World) (R : List Asrt) (p : Nat) (s : DS) (hs : St σ w (diskA 94 113 5 3 p s :: R)) (n : Int) (ho : DOk s) (hcl : s.calls ≤ 4611686018427387904) (hpc : s.pcs.length ≤ 1099511600000) (hsl : s.sizes.length ≤ 1099511600000) : Calls Tryd.prog 85 #[.pointer (some ⟨p, 0, none⟩), .int .i64 n] w fun e w' => e = .returned (.int .i64 (trS s n).1) ∧ St σ w' (diskA 94 113 5 3 p (trS s n).2 :: R) := by
  have hroom0 := ho.room0
  have hroom1 := ho.room1
  have hnow1 := ho.now
  obtain ⟨⟨v1, v2, m, v4, es, clk⟩, hm, hg, hs⟩ := diskA_open hs
  dsimp only at hm hg hs
  obtain ⟨a1, c1, rfl, hc1⟩ := slB_shape (hs.take .k1)
  obtain ⟨a2, c2, rfl, hc2⟩ := slB_shape (hs.take .k2)
  obtain ⟨a4, c4, rfl⟩ := sl_shape (hs.take .k5)
  refine c_enter (N := 65) Tryd.func85 rfl Tryd.ntmps85 (by simp) ?_
  intro a hf
  refine wp_seq ?_
  refine wp_region_lit ?_
  refine s_a hf rfl ?_; clear hf a; intro a hf
  refine s_nil ?_
  refine then_n ?_
  refine wp_seq ?_
  refine wp_block ?_
  refine wp_seq ?_
  refine wp_region_lit ?_
  refine s_m hf rfl ?_; clear hf a; intro a hf
  refine s_v hf (x_eqNil Tryd.underlying49 (hf.eval rfl) (hf.eval rfl)) ?_; clear hf a; intro a hf
  replace hf := hf.now (k := 8) (v' := .bool false) rfl rfl
  refine s_a hf rfl ?_; clear hf a; intro a hf
  refine s_nil ?_
  refine then_n ?_
  refine c_cond_f hf rfl rfl ?_
  refine wp_seq ?_
  refine wp_region_lit ?_
  refine s_m hf rfl ?_; clear hf a; intro a hf
  refine s_v hf (x_nilCheck (hf.eval rfl)) ?_; clear hf a; intro a hf
  refine s_v hf (x_fieldAddr fo94_7 (hf.eval rfl)) ?_; clear hf a; intro a hf
  refine s_r hf (x_load sc4 (hf.eval rfl) (by first | exact hs.cell .k0 rfl | exact hs.cell .k1 rfl | exact hs.cell .k2 rfl | exact hs.cell .k3 rfl | exact hs.cell .k4 rfl | exact hs.cell .k5 rfl)) ?_; clear hf a; intro a hf
  refine s_a hf rfl ?_; clear hf a; intro a hf
  refine s_nil ?_
  refine then_n ?_
  refine c_cond hf rfl (fun hi1 => ?_) (fun hi1 => ?_)
  · refine wp_seq ?_
    refine wp_region_lit ?_
    refine s_a hf rfl ?_; clear hf a; intro a hf
    refine s_nil ?_
    refine then_n ?_
    refine wp_ret ?_
    refine blk_r (then_r ?_)
    refine r_1 hf Tryd.results85 rfl ?_
    rw [trS_dead hi1]
    exact ⟨rfl, diskA_close (x := ⟨_, _, m, _, es, clk⟩) hm hg hs⟩
  · refine wp_seq ?_
    refine wp_region_lit ?_
    refine s_m hf rfl ?_; clear hf a; intro a hf
    refine s_v hf (x_bin (hf.eval rfl) (hf.eval rfl) (r_lt _ _ _ _)) ?_; clear hf a; intro a hf
    refine s_a hf rfl ?_; clear hf a; intro a hf
    refine s_nil ?_
    refine then_n ?_
    refine c_cond hf rfl (fun hi2 => ?_) (fun hi2 => ?_)
    · simp only [decide_eq_true_eq, decide_eq_false_iff_not, Bool.not_eq_true', Bool.not_eq_false', Bool.not_eq_true, Int.not_lt, Int.not_le] at hi2
      refine wp_seq ?_
      refine wp_region_lit ?_
      refine s_a hf rfl ?_; clear hf a; intro a hf
      refine s_nil ?_
      refine then_n ?_
      refine wp_ret ?_
      refine blk_r (then_r ?_)
      refine r_1 hf Tryd.results85 rfl ?_
      rw [trS_neg hi1 (by omega)]
      exact ⟨rfl, diskA_close (x := ⟨_, _, m, _, es, clk⟩) hm hg hs⟩
    · simp only [decide_eq_true_eq, decide_eq_false_iff_not, Bool.not_eq_true', Bool.not_eq_false', Bool.not_eq_true, Int.not_lt, Int.not_le] at hi2
      refine wp_seq ?_
      refine wp_region_lit ?_
      refine s_m hf rfl ?_; clear hf a; intro a hf
      refine s_m hf rfl ?_; clear hf a; intro a hf
      refine s_v hf (x_nilCheck (hf.eval rfl)) ?_; clear hf a; intro a hf
      refine s_v hf (x_fieldAddr fo94_0 (hf.eval rfl)) ?_; clear hf a; intro a hf
      refine s_r hf (x_load sc3 (hf.eval rfl) (by first | exact hs.cell .k0 rfl | exact hs.cell .k1 rfl | exact hs.cell .k2 rfl | exact hs.cell .k3 rfl | exact hs.cell .k4 rfl | exact hs.cell .k5 rfl)) ?_; clear hf a; intro a hf
      refine s_v hf (x_bin (hf.eval rfl) (hf.eval rfl) (r_gt _ _ _ _)) ?_; clear hf a; intro a hf
      refine s_a hf rfl ?_; clear hf a; intro a hf
      refine s_nil ?_
      refine then_n ?_
      refine c_cond hf rfl (fun hi3 => ?_) (fun hi3 => ?_)
      · simp only [decide_eq_true_eq, decide_eq_false_iff_not, Bool.not_eq_true', Bool.not_eq_false', Bool.not_eq_true, Int.not_lt, Int.not_le] at hi3
        refine wp_seq ?_
        refine wp_region_lit ?_
        refine s_a hf rfl ?_; clear hf a; intro a hf
        refine s_nil ?_
        refine then_n ?_
        refine wp_ret ?_
        refine blk_r (then_r ?_)
        refine r_1 hf Tryd.results85 rfl ?_
        rw [trS_big hi1 (by omega) (by omega)]
        exact ⟨rfl, diskA_close (x := ⟨_, _, m, _, es, clk⟩) hm hg hs⟩
      · simp only [decide_eq_true_eq, decide_eq_false_iff_not, Bool.not_eq_true', Bool.not_eq_false', Bool.not_eq_true, Int.not_lt, Int.not_le] at hi3
        refine wp_seq ?_
        refine wp_region_lit ?_
        refine s_m hf rfl ?_; clear hf a; intro a hf
        replace hs := diskA_close (s := s) (x := ⟨_, _, m, _, es, clk⟩) hm hg hs
        refine s_do hf rfl (y_call (hf.eval rfl) (hf.evals rfl) Tryd.call102 ((spend_spec _ _ _ p s hs ho.fuse.2 ho.fuse.1 hcl).mono ?_))
        rintro e w1 ⟨rfl, hs⟩
        obtain ⟨t, ht⟩ : ∃ t, t = spent s := ⟨_, rfl⟩
        rw [← ht] at hs
        obtain ⟨htn, htr, htd, htp, hts⟩ := spent_now s
        rw [← ht] at htn htr htd htp hts
        have hto := spent_ok ho
        rw [← ht] at hto
        have htn2 : t.now.length = s.now.length := by rw [htn]
        have htp2 : t.pcs.length = s.pcs.length := by rw [htp]
        have hts2 : t.sizes.length = s.sizes.length := by rw [hts]
        refine ⟨_, rfl, ?_⟩; clear hf a; intro a hf
        refine s_v hf (x_not (hf.eval rfl)) ?_; clear hf a; intro a hf
        refine s_a hf rfl ?_; clear hf a; intro a hf
        refine s_nil ?_
        refine then_n ?_
        refine c_cond hf rfl (fun hi4 => ?_) (fun hi4 => ?_)
        · simp only [Bool.not_eq_true', Bool.not_eq_false', decide_eq_true_eq, decide_eq_false_iff_not, ne_eq, Decidable.not_not] at hi4
          refine wp_seq ?_
          refine wp_region_lit ?_
          refine s_a hf rfl ?_; clear hf a; intro a hf
          refine s_nil ?_
          refine then_n ?_
          refine wp_ret ?_
          refine blk_r (then_r ?_)
          refine r_1 hf Tryd.results85 rfl ?_
          rw [trS_fuse hi1 (by omega) (by omega) hi4, ← ht]
          exact ⟨rfl, hs⟩
        · simp only [Bool.not_eq_true', Bool.not_eq_false', decide_eq_true_eq, decide_eq_false_iff_not, ne_eq, Decidable.not_not] at hi4
          obtain ⟨⟨v1, v2, m, v4, es, clk⟩, hm, hg, hs⟩ := diskA_open hs
          dsimp only at hm hg hs
          obtain ⟨a1, c1, rfl, hc1⟩ := slB_shape (hs.take .k1)
          obtain ⟨a2, c2, rfl, hc2⟩ := slB_shape (hs.take .k2)
          obtain ⟨a4, c4, rfl⟩ := sl_shape (hs.take .k5)
          refine wp_skip ?_
          refine blk_n ?_
          refine then_n ?_
          refine wp_seq ?_
          refine wp_region_lit ?_
          refine s_m hf rfl ?_; clear hf a; intro a hf
          refine s_v hf (x_nilCheck (hf.eval rfl)) ?_; clear hf a; intro a hf
          refine s_v hf (x_fieldAddr fo94_1 (hf.eval rfl)) ?_; clear hf a; intro a hf
          refine s_r hf (x_load sc25 (hf.eval rfl) (by first | exact hs.cell .k0 rfl | exact hs.cell .k1 rfl | exact hs.cell .k2 rfl | exact hs.cell .k3 rfl | exact hs.cell .k4 rfl | exact hs.cell .k5 rfl)) ?_; clear hf a; intro a hf
          refine s_v hf (x_len Tryd.underlying25 (hf.eval rfl)) ?_; clear hf a; intro a hf
          refine s_a hf rfl ?_; clear hf a; intro a hf
          refine s_nil ?_
          refine then_n ?_
          refine wp_seq ?_
          refine wp_seq ?_
          refine wp_region_lit ?_
          refine s_m hf rfl ?_; clear hf a; intro a hf
          refine s_m hf rfl ?_; clear hf a; intro a hf
          refine s_v hf (x_bin (hf.eval rfl) (hf.eval rfl) (r_gt _ _ _ _)) ?_; clear hf a; intro a hf
          refine s_nil ?_
          refine then_n ?_
          refine c_cond hf rfl (fun hi5 => ?_) (fun hi5 => ?_)
          · simp only [decide_eq_true_eq, decide_eq_false_iff_not, Bool.not_eq_true', Bool.not_eq_false', Bool.not_eq_true, Int.not_lt, Int.not_le] at hi5
            refine wp_region_lit ?_
            refine s_m hf rfl ?_; clear hf a; intro a hf
            refine s_m hf rfl ?_; clear hf a; intro a hf
            refine s_m hf rfl ?_; clear hf a; intro a hf
            refine s_m hf rfl ?_; clear hf a; intro a hf
            refine s_v hf (x_bin (hf.eval rfl) (hf.eval rfl) (r_subi _ (by omega) (by omega))) ?_; clear hf a; intro a hf
            refine s_do hf rfl (y_makeB (m := n.toNat - t.now.length) (c := n.toNat - t.now.length) hs sl25 (hf.eval rfl) (hf.eval rfl) (by omega) (by omega) (Nat.le_refl _) (by omega) ?_); clear hf hs a; intro b w hs a hf
            replace hs := hs.ofBb (n := (List.replicate (n.toNat - t.now.length) (0 : UInt8)).length) rfl (by simp; omega)
            replace hf := hf.now (k := 41) (v' := .slice (some ⟨b, 0, none⟩) (List.replicate (n.toNat - t.now.length) (0 : UInt8)).length (List.replicate (n.toNat - t.now.length) (0 : UInt8)).length) rfl (by simp)
            replace hs := St.give (L := _) hs .k6
            replace hs := diskA_close (s := t) (x := ⟨_, _, m, _, es, clk⟩) hm hg hs
            refine s_do hf rfl (y_call (hf.eval rfl) (hf.evals rfl) Tryd.call103 ((lay_spec σ _ _ p t hs t.now.length _ _ (List.replicate (n.toNat - t.now.length) (0 : UInt8)) (Rdy.own .k0) (by intro h9; have h8 := congrArg List.length h9; simp at h8; omega) (Nat.le_refl _) (by simp; omega) (by omega) (by omega)).mono ?_))
            rintro e w1 ⟨rfl, hs⟩
            replace hs := hs.lose .k1
            rw [← trC_up (by omega)] at hs
            obtain ⟨u, hu⟩ : ∃ u, u = trC t n.toNat := ⟨_, rfl⟩
            rw [← hu] at hs
            have husz : u.sizes = t.sizes := by rw [hu]; unfold trC; split <;> rfl
            have husz2 : u.sizes.length = t.sizes.length := by rw [husz]
            have hul : n.toNat ≤ u.now.length := by have h9 := trN_len t n.toNat; unfold trN at h9; rw [← hu] at h9; simp only [List.length_take] at h9; omega
            obtain ⟨⟨v1, v2, m, v4, es, clk⟩, hm, hg, hs⟩ := diskA_open hs
            dsimp only at hm hg hs
            obtain ⟨a1, c1, rfl, hc1⟩ := slB_shape (hs.take .k1)
            obtain ⟨a2, c2, rfl, hc2⟩ := slB_shape (hs.take .k2)
            obtain ⟨a4, c4, rfl⟩ := sl_shape (hs.take .k5)
            refine ⟨_, rfl, ?_⟩; clear hf a; intro a hf
            refine s_nil ?_
            refine then_n ?_
            refine wp_seq ?_
            refine wp_region_lit ?_
            refine s_m hf rfl ?_; clear hf a; intro a hf
            refine s_m hf rfl ?_; clear hf a; intro a hf
            refine s_v hf (x_nilCheck (hf.eval rfl)) ?_; clear hf a; intro a hf
            refine s_v hf (x_fieldAddr fo94_1 (hf.eval rfl)) ?_; clear hf a; intro a hf
            refine s_r hf (x_load sc25 (hf.eval rfl) (by first | exact hs.cell .k0 rfl | exact hs.cell .k1 rfl | exact hs.cell .k2 rfl | exact hs.cell .k3 rfl | exact hs.cell .k4 rfl | exact hs.cell .k5 rfl)) ?_; clear hf a; intro a hf
            refine s_m hf rfl ?_; clear hf a; intro a hf
            refine s_v hf (x_slice_hi sl25 (hf.eval rfl) (hf.eval rfl)  (by omega) (by omega) ) ?_; clear hf a; intro a hf
            refine s_v hf (x_nilCheck (hf.eval rfl)) ?_; clear hf a; intro a hf
            refine s_v hf (x_fieldAddr fo94_1 (hf.eval rfl)) ?_; clear hf a; intro a hf
            refine s_do0 hf rfl (y_store hs sc25 (hf.eval rfl) (hf.eval rfl) rfl (by first | exact .k0 | exact .k1 | exact .k2 | exact .k3 | exact .k4 | exact .k5) (by simp) ?_); clear hf hs a; intro w hs a hf
            have htk : (u.now.take n.toNat).length = n.toNat := by rw [List.length_take]; omega
            replace hs := ((hs.take .k1).cutSl (m := n.toNat) hul).take .k1
            refine s_nil ?_
            refine then_n ?_
            refine wp_seq ?_
            refine wp_seq ?_
            refine wp_region_lit ?_
            refine s_m hf rfl ?_; clear hf a; intro a hf
            refine s_m hf rfl ?_; clear hf a; intro a hf
            refine s_v hf (x_bin (hf.eval rfl) (hf.eval rfl) (r_ne _ _ _ _)) ?_; clear hf a; intro a hf
            refine s_nil ?_
            refine then_n ?_
            refine c_cond hf rfl (fun hi6 => ?_) (fun hi6 => ?_)
            · simp only [decide_eq_true_eq, decide_eq_false_iff_not, Bool.not_eq_true', Bool.not_eq_false', Bool.not_eq_true, Int.not_lt, Int.not_le] at hi6
              refine wp_region_lit ?_
              refine s_m hf rfl ?_; clear hf a; intro a hf
              refine s_m hf rfl ?_; clear hf a; intro a hf
              refine s_v hf (x_nilCheck (hf.eval rfl)) ?_; clear hf a; intro a hf
              refine s_v hf (x_fieldAddr fo94_4 (hf.eval rfl)) ?_; clear hf a; intro a hf
              refine s_r hf (x_load sc67 (hf.eval rfl) (by first | exact hs.cell .k0 rfl | exact hs.cell .k1 rfl | exact hs.cell .k2 rfl | exact hs.cell .k3 rfl | exact hs.cell .k4 rfl | exact hs.cell .k5 rfl)) ?_; clear hf a; intro a hf
              refine s_m hf rfl ?_; clear hf a; intro a hf
              replace hf := hf.now (k := 60) (v' := .int .i64 ((u.now.take n.toNat).length : Int)) rfl (by rw [htk]; congr 1; omega)
              refine s_do hf rfl (y_lit (xs := [.tmp 60]) hs sl67 (hf.evals rfl) rfl (by simp [Value.cells]) (by decide) ?_); clear hf hs a; intro b2 w hs a hf
              refine s_do hf rfl (y_append (n := u.sizes.length) (m := 1) (ys := [.int .i64 (((u.now.take n.toNat).length : Nat) : Int)]) hs sl67 (hf.eval rfl) (hf.eval rfl) .k6 (hs.rd .k0 fun h hb => rd_rows hb rfl) (by simp [Value.oneCell']) (by omega) (by rw [maxLen_eq]; omega) ?_); clear hf hs a; intro v2 w hs hv a hf
              rw [← szC_append, show u.sizes.length + 1 = (u.sizes ++ [((u.now.take n.toNat).length : Nat)]).length by simp] at hs
              obtain ⟨a7, c7, rfl⟩ := sl_shape hs
              refine s_v hf (x_nilCheck (hf.eval rfl)) ?_; clear hf a; intro a hf
              refine s_v hf (x_fieldAddr fo94_4 (hf.eval rfl)) ?_; clear hf a; intro a hf
              refine s_do0 hf rfl (y_store hs sc67 (hf.eval rfl) (hf.eval rfl) rfl (by first | exact .k0 | exact .k1 | exact .k2 | exact .k3 | exact .k4 | exact .k5) (by simp) ?_); clear hf hs a; intro w hs a hf
              replace hs := St.give (L := _) (hs.lose .k1) .k5
              refine s_nil ?_
              refine then_n ?_
              refine wp_seq ?_
              refine wp_region_lit ?_
              refine s_a hf rfl ?_; clear hf a; intro a hf
              refine s_nil ?_
              refine then_n ?_
              refine wp_ret ?_
              refine r_1 hf Tryd.results85 rfl ?_
              rw [trS_some hi1 (by omega) (by omega) hi4, ← ht]
              unfold trN
              rw [← hu]
              first | (rw [sized_eq (show (u.now.take n.toNat).length = s.now.length by omega)]; exact ⟨rfl, diskA_close (s := { u with now := u.now.take n.toNat }) (x := ⟨.slice a1 n.toNat c1, .slice a2 u.dur.length c2, m, .slice a4 u.sizes.length c4, es, clk⟩) hm hg hs⟩) | (rw [sized_ne (show (u.now.take n.toNat).length ≠ s.now.length by omega)]; exact ⟨rfl, diskA_close (s := { { u with now := u.now.take n.toNat } with sizes := u.sizes ++ [(u.now.take n.toNat).length] }) (x := ⟨.slice a1 n.toNat c1, .slice a2 u.dur.length c2, m, .slice a7 (u.sizes ++ [(u.now.take n.toNat).length]).length c7, es, clk⟩) hm hg hs⟩)
            · simp only [decide_eq_true_eq, decide_eq_false_iff_not, Bool.not_eq_true', Bool.not_eq_false', Bool.not_eq_true, Int.not_lt, Int.not_le] at hi6
              refine wp_skip ?_
              refine then_n ?_
              refine wp_seq ?_
              refine wp_region_lit ?_
              refine s_a hf rfl ?_; clear hf a; intro a hf
              refine s_nil ?_
              refine then_n ?_
              refine wp_ret ?_
              refine r_1 hf Tryd.results85 rfl ?_
              rw [trS_some hi1 (by omega) (by omega) hi4, ← ht]
              unfold trN
              rw [← hu]
              first | (rw [sized_eq (show (u.now.take n.toNat).length = s.now.length by omega)]; exact ⟨rfl, diskA_close (s := { u with now := u.now.take n.toNat }) (x := ⟨.slice a1 n.toNat c1, .slice a2 u.dur.length c2, m, .slice a4 u.sizes.length c4, es, clk⟩) hm hg hs⟩) | (rw [sized_ne (show (u.now.take n.toNat).length ≠ s.now.length by omega)]; exact ⟨rfl, diskA_close (s := { { u with now := u.now.take n.toNat } with sizes := u.sizes ++ [(u.now.take n.toNat).length] }) (x := ⟨.slice a1 n.toNat c1, .slice a2 u.dur.length c2, m, .slice a7 (u.sizes ++ [(u.now.take n.toNat).length]).length c7, es, clk⟩) hm hg hs⟩)
          · simp only [decide_eq_true_eq, decide_eq_false_iff_not, Bool.not_eq_true', Bool.not_eq_false', Bool.not_eq_true, Int.not_lt, Int.not_le] at hi5
            replace hs := diskA_close (s := t) (x := ⟨_, _, m, _, es, clk⟩) hm hg hs
            rw [← trC_in (s := t) (n := n.toNat) (by omega)] at hs
            obtain ⟨u, hu⟩ : ∃ u, u = trC t n.toNat := ⟨_, rfl⟩
            rw [← hu] at hs
            have husz : u.sizes = t.sizes := by rw [hu]; unfold trC; split <;> rfl
            have husz2 : u.sizes.length = t.sizes.length := by rw [husz]
            have hul : n.toNat ≤ u.now.length := by have h9 := trN_len t n.toNat; unfold trN at h9; rw [← hu] at h9; simp only [List.length_take] at h9; omega
            obtain ⟨⟨v1, v2, m, v4, es, clk⟩, hm, hg, hs⟩ := diskA_open hs
            dsimp only at hm hg hs
            obtain ⟨a1, c1, rfl, hc1⟩ := slB_shape (hs.take .k1)
            obtain ⟨a2, c2, rfl, hc2⟩ := slB_shape (hs.take .k2)
            obtain ⟨a4, c4, rfl⟩ := sl_shape (hs.take .k5)
            refine wp_skip ?_
            refine then_n ?_
            refine wp_seq ?_
            refine wp_region_lit ?_
            refine s_m hf rfl ?_; clear hf a; intro a hf
            refine s_m hf rfl ?_; clear hf a; intro a hf
            refine s_v hf (x_nilCheck (hf.eval rfl)) ?_; clear hf a; intro a hf
            refine s_v hf (x_fieldAddr fo94_1 (hf.eval rfl)) ?_; clear hf a; intro a hf
            refine s_r hf (x_load sc25 (hf.eval rfl) (by first | exact hs.cell .k0 rfl | exact hs.cell .k1 rfl | exact hs.cell .k2 rfl | exact hs.cell .k3 rfl | exact hs.cell .k4 rfl | exact hs.cell .k5 rfl)) ?_; clear hf a; intro a hf
            refine s_m hf rfl ?_; clear hf a; intro a hf
            refine s_v hf (x_slice_hi sl25 (hf.eval rfl) (hf.eval rfl)  (by omega) (by omega) ) ?_; clear hf a; intro a hf
            refine s_v hf (x_nilCheck (hf.eval rfl)) ?_; clear hf a; intro a hf
            refine s_v hf (x_fieldAddr fo94_1 (hf.eval rfl)) ?_; clear hf a; intro a hf
            refine s_do0 hf rfl (y_store hs sc25 (hf.eval rfl) (hf.eval rfl) rfl (by first | exact .k0 | exact .k1 | exact .k2 | exact .k3 | exact .k4 | exact .k5) (by simp) ?_); clear hf hs a; intro w hs a hf
            have htk : (u.now.take n.toNat).length = n.toNat := by rw [List.length_take]; omega
            replace hs := ((hs.take .k1).cutSl (m := n.toNat) hul).take .k1
            refine s_nil ?_
            refine then_n ?_
            refine wp_seq ?_
            refine wp_seq ?_
            refine wp_region_lit ?_
            refine s_m hf rfl ?_; clear hf a; intro a hf
            refine s_m hf rfl ?_; clear hf a; intro a hf
            refine s_v hf (x_bin (hf.eval rfl) (hf.eval rfl) (r_ne _ _ _ _)) ?_; clear hf a; intro a hf
            refine s_nil ?_
            refine then_n ?_
            refine c_cond hf rfl (fun hi6 => ?_) (fun hi6 => ?_)
            · simp only [decide_eq_true_eq, decide_eq_false_iff_not, Bool.not_eq_true', Bool.not_eq_false', Bool.not_eq_true, Int.not_lt, Int.not_le] at hi6
              refine wp_region_lit ?_
              refine s_m hf rfl ?_; clear hf a; intro a hf
              refine s_m hf rfl ?_; clear hf a; intro a hf
              refine s_v hf (x_nilCheck (hf.eval rfl)) ?_; clear hf a; intro a hf
              refine s_v hf (x_fieldAddr fo94_4 (hf.eval rfl)) ?_; clear hf a; intro a hf
              refine s_r hf (x_load sc67 (hf.eval rfl) (by first | exact hs.cell .k0 rfl | exact hs.cell .k1 rfl | exact hs.cell .k2 rfl | exact hs.cell .k3 rfl | exact hs.cell .k4 rfl | exact hs.cell .k5 rfl)) ?_; clear hf a; intro a hf
              refine s_m hf rfl ?_; clear hf a; intro a hf
              replace hf := hf.now (k := 60) (v' := .int .i64 ((u.now.take n.toNat).length : Int)) rfl (by rw [htk]; congr 1; omega)
              refine s_do hf rfl (y_lit (xs := [.tmp 60]) hs sl67 (hf.evals rfl) rfl (by simp [Value.cells]) (by decide) ?_); clear hf hs a; intro b2 w hs a hf
              refine s_do hf rfl (y_append (n := u.sizes.length) (m := 1) (ys := [.int .i64 (((u.now.take n.toNat).length : Nat) : Int)]) hs sl67 (hf.eval rfl) (hf.eval rfl) .k6 (hs.rd .k0 fun h hb => rd_rows hb rfl) (by simp [Value.oneCell']) (by omega) (by rw [maxLen_eq]; omega) ?_); clear hf hs a; intro v2 w hs hv a hf
              rw [← szC_append, show u.sizes.length + 1 = (u.sizes ++ [((u.now.take n.toNat).length : Nat)]).length by simp] at hs
              obtain ⟨a7, c7, rfl⟩ := sl_shape hs
              refine s_v hf (x_nilCheck (hf.eval rfl)) ?_; clear hf a; intro a hf
              refine s_v hf (x_fieldAddr fo94_4 (hf.eval rfl)) ?_; clear hf a; intro a hf
              refine s_do0 hf rfl (y_store hs sc67 (hf.eval rfl) (hf.eval rfl) rfl (by first | exact .k0 | exact .k1 | exact .k2 | exact .k3 | exact .k4 | exact .k5) (by simp) ?_); clear hf hs a; intro w hs a hf
              replace hs := St.give (L := _) (hs.lose .k1) .k5
              refine s_nil ?_
              refine then_n ?_
              refine wp_seq ?_
              refine wp_region_lit ?_
              refine s_a hf rfl ?_; clear hf a; intro a hf
              refine s_nil ?_
              refine then_n ?_
              refine wp_ret ?_
              refine r_1 hf Tryd.results85 rfl ?_
              rw [trS_some hi1 (by omega) (by omega) hi4, ← ht]
              unfold trN
              rw [← hu]
              first | (rw [sized_eq (show (u.now.take n.toNat).length = s.now.length by omega)]; exact ⟨rfl, diskA_close (s := { u with now := u.now.take n.toNat }) (x := ⟨.slice a1 n.toNat c1, .slice a2 u.dur.length c2, m, .slice a4 u.sizes.length c4, es, clk⟩) hm hg hs⟩) | (rw [sized_ne (show (u.now.take n.toNat).length ≠ s.now.length by omega)]; exact ⟨rfl, diskA_close (s := { { u with now := u.now.take n.toNat } with sizes := u.sizes ++ [(u.now.take n.toNat).length] }) (x := ⟨.slice a1 n.toNat c1, .slice a2 u.dur.length c2, m, .slice a7 (u.sizes ++ [(u.now.take n.toNat).length]).length c7, es, clk⟩) hm hg hs⟩)
            · simp only [decide_eq_true_eq, decide_eq_false_iff_not, Bool.not_eq_true', Bool.not_eq_false', Bool.not_eq_true, Int.not_lt, Int.not_le] at hi6
              refine wp_skip ?_
              refine then_n ?_
              refine wp_seq ?_
              refine wp_region_lit ?_
              refine s_a hf rfl ?_; clear hf a; intro a hf
              refine s_nil ?_
              refine then_n ?_
              refine wp_ret ?_
              refine r_1 hf Tryd.results85 rfl ?_
              rw [trS_some hi1 (by omega) (by omega) hi4, ← ht]
              unfold trN
              rw [← hu]
              first | (rw [sized_eq (show (u.now.take n.toNat).length = s.now.length by omega)]; exact ⟨rfl, diskA_close (s := { u with now := u.now.take n.toNat }) (x := ⟨.slice a1 n.toNat c1, .slice a2 u.dur.length c2, m, .slice a4 u.sizes.length c4, es, clk⟩) hm hg hs⟩) | (rw [sized_ne (show (u.now.take n.toNat).length ≠ s.now.length by omega)]; exact ⟨rfl, diskA_close (s := { { u with now := u.now.take n.toNat } with sizes := u.sizes ++ [(u.now.take n.toNat).length] }) (x := ⟨.slice a1 n.toNat c1, .slice a2 u.dur.length c2, m, .slice a7 (u.sizes ++ [(u.now.take n.toNat).length]).length c7, es, clk⟩) hm hg hs⟩)
theorem dSync_spec (σ : Sig) (w : World) (R : List Asrt) (p : Nat) (s : DS) (hs : St σ w (diskA 94 113 5 3 p s :: R)) (ho : DOk s) (hcl : s.calls ≤ 4611686018427387904) (hpc : s.pcs.length ≤ 1099511600000) (hsl : s.sizes.length ≤ 1099511600000) : Calls Tryd.prog 86 #[.pointer (some ⟨p, 0, none⟩)] w fun e w' => e = .returned (.int .i64 (syS s).1) ∧ St σ w' (diskA 94 113 5 3 p (syS s).2 :: R) := by
  have hroom1 := ho.room1
  have hnow1 := ho.now
  obtain ⟨⟨v1, v2, m, v4, es, clk⟩, hm, hg, hs⟩ := diskA_open hs
  dsimp only at hm hg hs
  obtain ⟨a1, c1, rfl, hc1⟩ := slB_shape (hs.take .k1)
  obtain ⟨a2, c2, rfl, hc2⟩ := slB_shape (hs.take .k2)
  obtain ⟨a4, c4, rfl⟩ := sl_shape (hs.take .k5)
  refine c_enter (N := 31) Tryd.func86 rfl Tryd.ntmps86 (by simp) ?_
  intro a hf
  refine wp_seq ?_
  refine wp_region_lit ?_
  refine s_a hf rfl ?_; clear hf a; intro a hf
  refine s_nil ?_
  refine then_n ?_
  refine wp_seq ?_
  refine wp_block ?_
  refine wp_seq ?_
  refine wp_region_lit ?_
  refine s_m hf rfl ?_; clear hf a; intro a hf
  refine s_v hf (x_eqNil Tryd.underlying49 (hf.eval rfl) (hf.eval rfl)) ?_; clear hf a; intro a hf
  replace hf := hf.now (k := 5) (v' := .bool false) rfl rfl
  refine s_a hf rfl ?_; clear hf a; intro a hf
  refine s_nil ?_
  refine then_n ?_
  refine c_cond_f hf rfl rfl ?_
  refine wp_seq ?_
  refine wp_region_lit ?_
  refine s_m hf rfl ?_; clear hf a; intro a hf
  refine s_v hf (x_nilCheck (hf.eval rfl)) ?_; clear hf a; intro a hf
  refine s_v hf (x_fieldAddr fo94_7 (hf.eval rfl)) ?_; clear hf a; intro a hf
  refine s_r hf (x_load sc4 (hf.eval rfl) (by first | exact hs.cell .k0 rfl | exact hs.cell .k1 rfl | exact hs.cell .k2 rfl | exact hs.cell .k3 rfl | exact hs.cell .k4 rfl | exact hs.cell .k5 rfl)) ?_; clear hf a; intro a hf
  refine s_m hf rfl ?_; clear hf a; intro a hf
  refine s_bool hf (k := 11) rfl (fun hg3_4 hf' => ?_) (fun hg3_4 hf' => ?_)
  · clear hf
    have hf := hf'
    clear hf'
    refine s_pass hf rfl rfl ?_; clear hf a; intro a hf
    refine s_pass hf rfl rfl ?_; clear hf a; intro a hf
    refine s_pass hf rfl rfl ?_; clear hf a; intro a hf
    refine s_v hf (x_pick_t (hf.eval rfl) (hf.eval rfl)) ?_; clear hf a; intro a hf
    refine s_a hf rfl ?_; clear hf a; intro a hf
    refine s_nil ?_
    refine then_n ?_
    refine c_cond_t hf rfl rfl ?_
    refine wp_seq ?_
    refine wp_region_lit ?_
    refine s_a hf rfl ?_; clear hf a; intro a hf
    refine s_nil ?_
    refine then_n ?_
    refine wp_ret ?_
    refine blk_r (then_r ?_)
    refine r_1 hf Tryd.results86 rfl ?_
    first | (rw [syS_dead hg3_4]; exact ⟨rfl, diskA_close (x := ⟨_, _, m, _, es, clk⟩) hm hg hs⟩) | (rw [syS_fuse hg3_4 hi1, ← ht]; exact ⟨rfl, hs⟩)
  · clear hf
    have hf := hf'
    clear hf'
    refine s_do hf (wanted_of hf rfl rfl rfl) (.value (x_move (hf.eval rfl) _) ?_); clear hf a; intro a hf
    replace hs := diskA_close (s := s) (x := ⟨_, _, m, _, es, clk⟩) hm hg hs
    refine s_do hf (wanted_of hf rfl rfl rfl) (y_call (hf.eval rfl) (hf.evals rfl) Tryd.call102 ((spend_spec _ _ _ p s hs ho.fuse.2 ho.fuse.1 hcl).mono ?_))
    rintro e w1 ⟨rfl, hs⟩
    obtain ⟨t, ht⟩ : ∃ t, t = spent s := ⟨_, rfl⟩
    rw [← ht] at hs
    obtain ⟨htn, htr, htd, htp, hts⟩ := spent_now s
    rw [← ht] at htn htr htd htp hts
    have hto := spent_ok ho
    rw [← ht] at hto
    have htn2 : t.now.length = s.now.length := by rw [htn]
    have htp2 : t.pcs.length = s.pcs.length := by rw [htp]
    have hts2 : t.sizes.length = s.sizes.length := by rw [hts]
    refine ⟨_, rfl, ?_⟩; clear hf a; intro a hf
    refine s_do hf (wanted_of hf rfl rfl rfl) (.value (x_not (hf.eval rfl) _) ?_); clear hf a; intro a hf
    refine s_v hf (x_pick_f (hf.eval rfl) (hf.eval rfl)) ?_; clear hf a; intro a hf
    refine s_a hf rfl ?_; clear hf a; intro a hf
    refine s_nil ?_
    refine then_n ?_
    refine c_cond hf rfl (fun hi1 => ?_) (fun hi1 => ?_)
    · simp only [Bool.not_eq_true', Bool.not_eq_false', decide_eq_true_eq, decide_eq_false_iff_not, ne_eq, Decidable.not_not] at hi1
      refine wp_seq ?_
      refine wp_region_lit ?_
      refine s_a hf rfl ?_; clear hf a; intro a hf
      refine s_nil ?_
      refine then_n ?_
      refine wp_ret ?_
      refine blk_r (then_r ?_)
      refine r_1 hf Tryd.results86 rfl ?_
      first | (rw [syS_dead hg3_4]; exact ⟨rfl, diskA_close (x := ⟨_, _, m, _, es, clk⟩) hm hg hs⟩) | (rw [syS_fuse hg3_4 hi1, ← ht]; exact ⟨rfl, hs⟩)
    · simp only [Bool.not_eq_true', Bool.not_eq_false', decide_eq_true_eq, decide_eq_false_iff_not, ne_eq, Decidable.not_not] at hi1
      obtain ⟨⟨v1, v2, m, v4, es, clk⟩, hm, hg, hs⟩ := diskA_open hs
      dsimp only at hm hg hs
      obtain ⟨a1, c1, rfl, hc1⟩ := slB_shape (hs.take .k1)
      obtain ⟨a2, c2, rfl, hc2⟩ := slB_shape (hs.take .k2)
      obtain ⟨a4, c4, rfl⟩ := sl_shape (hs.take .k5)
      refine wp_skip ?_
      refine blk_n ?_
      refine then_n ?_
      refine wp_seq ?_
      refine wp_region_lit ?_
      refine s_m hf rfl ?_; clear hf a; intro a hf
      refine s_m hf rfl ?_; clear hf a; intro a hf
      refine s_v hf (x_nilCheck (hf.eval rfl)) ?_; clear hf a; intro a hf
      refine s_v hf (x_fieldAddr fo94_1 (hf.eval rfl)) ?_; clear hf a; intro a hf
      refine s_r hf (x_load sc25 (hf.eval rfl) (by first | exact hs.cell .k0 rfl | exact hs.cell .k1 rfl | exact hs.cell .k2 rfl | exact hs.cell .k3 rfl | exact hs.cell .k4 rfl | exact hs.cell .k5 rfl)) ?_; clear hf a; intro a hf
      refine s_do hf rfl (y_call (hf.eval rfl) (hf.evals rfl) Tryd.call60 ((dclone_spec _ _ _ t.now (hs.rdB .k1 fun h => slB_rd) (by omega)).mono ?_))
      rintro e w1 ⟨e1, fe1, rfl, hj⟩
      replace hs := hs.join hj
      simp only [List.cons_append, List.nil_append] at hs
      refine ⟨_, rfl, ?_⟩; clear hf a; intro a hf
      refine s_v hf (x_nilCheck (hf.eval rfl)) ?_; clear hf a; intro a hf
      refine s_v hf (x_fieldAddr fo94_2 (hf.eval rfl)) ?_; clear hf a; intro a hf
      refine s_do0 hf rfl (y_store hs sc25 (hf.eval rfl) (hf.eval rfl) rfl (by first | exact .k0 | exact .k1 | exact .k2 | exact .k3 | exact .k4 | exact .k5) (by simp) ?_); clear hf hs a; intro w hs a hf
      replace hs := (((hs.lose .k3).take .k2).take .k2)
      refine s_nil ?_
      refine then_n ?_
      refine wp_seq ?_
      refine wp_region_lit ?_
      refine s_m hf rfl ?_; clear hf a; intro a hf
      refine s_do hf rfl (y_makeMap hs ?_); clear hf hs a; intro m2 w hs a hf
      refine s_v hf (x_nilCheck (hf.eval rfl)) ?_; clear hf a; intro a hf
      refine s_v hf (x_fieldAddr fo94_3 (hf.eval rfl)) ?_; clear hf a; intro a hf
      refine s_do0 hf rfl (y_store hs sc92 (hf.eval rfl) (hf.eval rfl) rfl (by first | exact .k0 | exact .k1 | exact .k2 | exact .k3 | exact .k4 | exact .k5) (by simp) ?_); clear hf hs a; intro w hs a hf
      refine s_nil ?_
      refine then_n ?_
      refine wp_seq ?_
      refine wp_region_lit ?_
      refine s_m hf rfl ?_; clear hf a; intro a hf
      refine s_v hf (x_nilCheck (hf.eval rfl)) ?_; clear hf a; intro a hf
      refine s_v hf (x_fieldAddr fo94_4 (hf.eval rfl)) ?_; clear hf a; intro a hf
      refine s_do0 hf rfl (y_store hs sc67 (hf.eval rfl) (hf.eval rfl) rfl (by first | exact .k0 | exact .k1 | exact .k2 | exact .k3 | exact .k4 | exact .k5) (by simp) ?_); clear hf hs a; intro w hs a hf
      refine s_nil ?_
      refine then_n ?_
      refine wp_seq ?_
      refine wp_region_lit ?_
      refine s_a hf rfl ?_; clear hf a; intro a hf
      refine s_nil ?_
      refine then_n ?_
      refine wp_ret ?_
      refine r_1 hf Tryd.results86 rfl ?_
      rw [syS_some hg3_4 hi1, ← ht, ← htn]
      replace hs := St.give (L := _) (((hs.lose .k4).lose .k4).lose .k4) .k3
      replace hs := St.give (L := _) (hs.emp (A := entsA 113 5 []) (fun _ => trivial)) .k4
      replace hs := St.give (L := _) (hs.emp (A := sl 3 1 (.slice none 0 0) 0 []) (fun _ => ⟨rfl, .inl ⟨rfl, rfl⟩⟩)) .k5
      exact ⟨rfl, diskA_close (s := { t with dur := t.now, pcs := [], sizes := [] }) (x := ⟨.slice a1 t.now.length c1, .slice e1 t.now.length fe1, m2, .slice none 0 0, [], 0⟩) (MOk.nil 0) Grp.nil hs⟩
end Go.Proofs.YtehakfbfjpolfaaDoor

namespace Go.Proofs.YtehakfbfjpolfaaDoor
open Go Vw
theorem update_spec (w0 : World) (hT : Tab 0 (hp w0)) (sum : Nat) (hsum : sum < 4294967296) (a0 : Option Addr) (c : Nat) (l : List UInt8) (hr : RdB (hp w0) (.slice a0 l.length c) l) (hl : l.length ≤ 140737488355328) : Calls Tryd.prog 76 #[.int .u32 ((sum : Nat) : Int), .slice a0 l.length c] w0 fun e w' => e = .returned (.int .u32 ((crcU sum l : Nat) : Int)) ∧ Kept w0 w' None_ := by
  have hs := St.start w0 None_
  refine c_enter (N := 37) Tryd.func76 rfl Tryd.ntmps76 (by simp) ?_
  intro a hf
  refine wp_seq ?_
  refine wp_region_lit ?_
  refine s_a hf rfl ?_; clear hf a; intro a hf
  refine s_nil ?_
  refine then_n ?_
  refine wp_seq ?_
  refine wp_region_lit ?_
  refine s_m hf rfl ?_; clear hf a; intro a hf
  refine s_r hf (x_notU (hf.eval rfl) hsum _) ?_; clear hf a; intro a hf
  refine s_a hf rfl ?_; clear hf a; intro a hf
  refine s_nil ?_
  refine then_n ?_
  refine wp_seq ?_
  refine wp_seq ?_
  refine wp_region_lit ?_
  refine s_m hf rfl ?_; clear hf a; intro a hf
  refine s_v hf (x_len Tryd.underlying25 (hf.eval rfl)) ?_; clear hf a; intro a hf
  refine s_m hf rfl ?_; clear hf a; intro a hf
  refine s_nil ?_
  refine then_n ?_
  refine wp_block ?_
  refine c_loop (L0 := [(4, _), (10, _), (11, _)]) (fun M w m => ∃ i : Nat, M = [(5, .int .u32 ((upd (4294967295 ^^^ sum) (l.take i) : Nat) : Int)), (12, .int .i64 (i : Int))] ∧ l.length - i = m ∧ i ≤ l.length ∧ St ⟨w0, None_⟩ w []) (M0 := [(5, .int .u32 ((4294967295 ^^^ sum : Nat) : Int)), (12, .int .i64 (0 : Nat))]) (⟨0, rfl, rfl, Nat.zero_le _, hs⟩) (hf.sub ⟨rfl, rfl, rfl, rfl, rfl, trivial⟩) ?_
  clear hf hs a
  rintro M m a w ⟨i, rfl, rfl, hi, hs⟩ hf
  refine wp_seq ?_
  refine wp_region_lit ?_
  refine s_v hf (x_bin (hf.eval rfl) (hf.eval rfl) (r_lt _ _ _ _)) ?_; clear hf a; intro a hf
  refine s_nil ?_
  refine then_n ?_
  refine wp_seq ?_
  refine c_cond hf rfl (fun hi0 => ?_) (fun hi0 => ?_)
  · simp only [decide_eq_true_eq, decide_eq_false_iff_not, Bool.not_eq_true', Bool.not_eq_false', Bool.not_eq_true, Int.not_lt, Int.not_le] at hi0
    have hlt : i < l.length := by omega
    obtain ⟨a0, rfl⟩ := hr.some (by omega)
    refine wp_skip ?_
    refine then_n ?_
    refine wp_seq ?_
    refine wp_block ?_
    refine wp_seq ?_
    refine wp_region_lit ?_
    refine s_v hf (x_indexAddr sl25 (hf.eval rfl) (hf.eval rfl) (by omega) (by omega)) ?_; clear hf a; intro a hf
    refine s_r hf (x_loadB sc5 (hs.oldB hr) (hf.eval rfl) (by omega)) ?_; clear hf a; intro a hf
    replace hf := hf.now (k := 15) (v' := u8v l[i]) rfl (rfl)
    refine s_a hf rfl ?_; clear hf a; intro a hf
    refine s_nil ?_
    refine then_n ?_
    refine wp_seq ?_
    refine wp_region_lit ?_
    refine s_m hf rfl ?_; clear hf a; intro a hf
    refine s_m hf rfl ?_; clear hf a; intro a hf
    refine s_v hf (x_convr Tryd.underlying5 Tryd.underlying22 (hf.eval rfl) (by rw [wrap_u32]; have := toNat_lt l[i]; omega : IntKind.u32.wrap (l[i].toNat : Int) = ((l[i].toNat : Nat) : Int))) ?_; clear hf a; intro a hf
    have hX0 := upd_lt (l.take i) (not_lt hsum)
    obtain ⟨X, hXe⟩ : ∃ X, X = upd (4294967295 ^^^ sum) (l.take i) ^^^ l[i].toNat := ⟨_, rfl⟩
    have hX : X < 4294967296 := by rw [hXe]; exact Nat.xor_lt_two_pow (n := 32) hX0 (by have := toNat_lt l[i]; omega)
    refine s_v hf (x_bin (hf.eval rfl) (hf.eval rfl) (r_xor_u32 _ hX0 (by have := toNat_lt l[i]; omega))) ?_; clear hf a; intro a hf
    rw [← hXe] at hf
    refine s_a hf rfl ?_; clear hf a; intro a hf
    refine s_nil ?_
    refine then_n ?_
    refine wp_seq ?_
    refine wp_region_lit ?_
    refine s_m hf rfl ?_; clear hf a; intro a hf
    refine s_v hf (x_bin (hf.eval rfl) (hf.eval rfl) (r_shr_u32 _ (j := 4) (by omega))) ?_; clear hf a; intro a hf
    replace hf := hf.now (k := 21) (v' := .int .u32 ((X / 16 : Nat) : Int)) rfl (rfl)
    refine s_m hf rfl ?_; clear hf a; intro a hf
    refine s_v hf (x_bin (hf.eval rfl) (hf.eval rfl) (r_and_u32 _ (y := 15) hX (by omega))) ?_; clear hf a; intro a hf
    replace hf := hf.now (k := 23) (v' := .int .u32 ((X % 16 : Nat) : Int)) rfl (by rw [and15])
    refine s_v hf (x_indexArr (sz := 1) Tryd.underlying132 (by kernel_rfl) (hf.eval rfl) (hf.eval rfl) (by omega) (by omega)) ?_; clear hf a; intro a hf
    replace hf := hf.now (k := 24) (v' := .pointer (some ⟨0, X % 16, none⟩)) rfl (by rw [addr0])
    have hx16 : X % 16 < tab16.length := Nat.mod_lt _ (by decide)
    refine s_r hf (x_load sc22 (hf.eval rfl) (tab_cell hT hs hx16)) ?_; clear hf a; intro a hf
    refine s_v hf (x_bin (hf.eval rfl) (hf.eval rfl) (r_xor_u32 _ (by omega) (tab16_lt hx16))) ?_; clear hf a; intro a hf
    replace hf := hf.now (k := 26) (v' := .int .u32 ((mvN 4 X : Nat) : Int)) rfl (by rw [nib _ hx16])
    refine s_a hf rfl ?_; clear hf a; intro a hf
    refine s_nil ?_
    refine then_n ?_
    refine wp_region_lit ?_
    refine s_m hf rfl ?_; clear hf a; intro a hf
    refine s_v hf (x_bin (hf.eval rfl) (hf.eval rfl) (r_shr_u32 _ (j := 4) (by omega))) ?_; clear hf a; intro a hf
    replace hf := hf.now (k := 28) (v' := .int .u32 ((mvN 4 X / 16 : Nat) : Int)) rfl (rfl)
    refine s_m hf rfl ?_; clear hf a; intro a hf
    refine s_v hf (x_bin (hf.eval rfl) (hf.eval rfl) (r_and_u32 _ (y := 15) (mvN_lt 4 hX) (by omega))) ?_; clear hf a; intro a hf
    replace hf := hf.now (k := 30) (v' := .int .u32 ((mvN 4 X % 16 : Nat) : Int)) rfl (by rw [and15])
    refine s_v hf (x_indexArr (sz := 1) Tryd.underlying132 (by kernel_rfl) (hf.eval rfl) (hf.eval rfl) (by omega) (by omega)) ?_; clear hf a; intro a hf
    replace hf := hf.now (k := 31) (v' := .pointer (some ⟨0, mvN 4 X % 16, none⟩)) rfl (by rw [addr0])
    have hx16 : mvN 4 X % 16 < tab16.length := Nat.mod_lt _ (by decide)
    refine s_r hf (x_load sc22 (hf.eval rfl) (tab_cell hT hs hx16)) ?_; clear hf a; intro a hf
    refine s_v hf (x_bin (hf.eval rfl) (hf.eval rfl) (r_xor_u32 _ (by have := mvN_lt 4 hX; omega) (tab16_lt hx16))) ?_; clear hf a; intro a hf
    replace hf := hf.now (k := 33) (v' := .int .u32 ((mvN 4 (mvN 4 X) : Nat) : Int)) rfl (by rw [nib _ hx16])
    refine s_a hf rfl ?_; clear hf a; intro a hf
    refine s_nil ?_
    refine blk_n ?_
    refine then_n ?_
    refine wp_region_lit ?_
    refine s_v hf (x_bin (hf.eval rfl) (hf.eval rfl) (r_addi _ (by omega) (by omega))) ?_; clear hf a; intro a hf
    refine s_m hf rfl ?_; clear hf a; intro a hf
    refine s_nil ?_
    replace hf := hf.now (k := 5) (v' := .int .u32 ((upd (4294967295 ^^^ sum) (l.take (i + 1)) : Nat) : Int)) rfl (by rw [upd_take_succ hlt, ← hXe, mvN44])
    exact ⟨_, _, ⟨i + 1, rfl, rfl, by omega, hs⟩, by omega, hf.sub ⟨rfl, rfl, rfl, rfl, rfl, trivial⟩⟩
  · simp only [decide_eq_true_eq, decide_eq_false_iff_not, Bool.not_eq_true', Bool.not_eq_false', Bool.not_eq_true, Int.not_lt, Int.not_le] at hi0
    refine wp_exit ?_
    refine then_x ?_
    refine then_x ?_
    refine blk_x ?_
    refine then_n ?_
    refine wp_seq ?_
    refine wp_region_lit ?_
    refine s_m hf rfl ?_; clear hf a; intro a hf
    refine s_r hf (x_notU (hf.eval rfl) (upd_lt _ (not_lt hsum)) _) ?_; clear hf a; intro a hf
    refine s_a hf rfl ?_; clear hf a; intro a hf
    refine s_nil ?_
    refine then_n ?_
    refine wp_ret ?_
    refine r_1 hf Tryd.results76 rfl ?_
    have hi' : i = l.length := by omega
    exact ⟨by subst hi'; rw [List.take_length]; rfl, hs.kept⟩
theorem sum_spec (w0 : World) (hT : Tab 0 (hp w0)) (a0 : Option Addr) (c : Nat) (l : List UInt8) (hr : RdB (hp w0) (.slice a0 l.length c) l) (hl : l.length ≤ 140737488355328) : Calls Tryd.prog 42 #[.slice a0 l.length c] w0 fun e w' => e = .returned (.int .u32 ((crcU 0 l : Nat) : Int)) ∧ Kept w0 w' None_ := by
  refine c_enter (N := 5) Tryd.func42 rfl Tryd.ntmps42 (by simp) ?_
  intro a hf
  refine wp_seq ?_
  refine wp_region_lit ?_
  refine s_a hf rfl ?_; clear hf a; intro a hf
  refine s_nil ?_
  refine then_n ?_
  refine wp_seq ?_
  refine wp_region_lit ?_
  refine s_m hf rfl ?_; clear hf a; intro a hf
  refine s_do hf rfl (y_call (hf.eval rfl) (hf.evals rfl) Tryd.call76 ((update_spec w0 hT 0 (by decide) a0 c l hr hl).mono ?_))
  rintro e w1 ⟨rfl, hs⟩
  refine ⟨_, rfl, ?_⟩; clear hf a; intro a hf
  refine s_a hf rfl ?_; clear hf a; intro a hf
  refine s_nil ?_
  refine then_n ?_
  refine wp_ret ?_
  refine r_1 hf Tryd.results42 rfl ?_
  exact ⟨rfl, hs⟩
end Go.Proofs.YtehakfbfjpolfaaDoor

namespace Go.Proofs.YtehakfbfjpolfaaDoor
open Go Vw
theorem newBuf_spec (w0 : World) (lim : Int) : Calls Tryd.prog 38 #[.int .i64 lim] w0 fun e w' => ∃ p, e = .returned (.pointer (some ⟨p, 0, none⟩)) ∧ St ⟨w0, None_⟩ w' [bufA 115 5 p [] lim (if lim < 0 then 1 else 0)] := by
  have hs := (St.start w0 None_).emp (slB_nil 5)
  refine c_enter (N := 13) Tryd.func38 rfl Tryd.ntmps38 (by simp) ?_
  intro a hf
  refine wp_seq ?_
  refine wp_region_lit ?_
  refine s_a hf rfl ?_; clear hf a; intro a hf
  refine s_nil ?_
  refine then_n ?_
  refine wp_seq ?_
  refine wp_region_lit ?_
  refine s_m hf rfl ?_; clear hf a; intro a hf
  refine s_r hf (x_build (v := .agg #[.slice none 0 0, .int .i64 lim, .int .i64 0]) (hf.parts rfl) (fun w => by kernel_rfl) _) ?_; clear hf a; intro a hf
  refine s_do hf rfl (y_box hs (hf.eval rfl) ?_); clear hf hs a; intro p w hs a hf
  change St _ _ (cb p 115 [.slice none 0 0, .int .i64 lim, .int .i64 0] :: _) at hs
  refine s_a hf rfl ?_; clear hf a; intro a hf
  refine s_nil ?_
  refine then_n ?_
  refine wp_seq ?_
  refine wp_seq ?_
  refine wp_region_lit ?_
  refine s_m hf rfl ?_; clear hf a; intro a hf
  refine s_v hf (x_bin (hf.eval rfl) (hf.eval rfl) (r_lt _ _ _ _)) ?_; clear hf a; intro a hf
  refine s_nil ?_
  refine then_n ?_
  refine c_cond hf rfl (fun hi0 => ?_) (fun hi0 => ?_)
  · simp only [decide_eq_true_eq, decide_eq_false_iff_not, Bool.not_eq_true', Bool.not_eq_false', Bool.not_eq_true, Int.not_lt, Int.not_le] at hi0
    refine wp_region_lit ?_
    refine s_m hf rfl ?_; clear hf a; intro a hf
    refine s_v hf (x_nilCheck (hf.eval rfl)) ?_; clear hf a; intro a hf
    refine s_v hf (x_fieldAddr fo115_2 (hf.eval rfl)) ?_; clear hf a; intro a hf
    refine s_do0 hf rfl (y_store hs sc26 (hf.eval rfl) (hf.eval rfl) rfl (by first | exact .k0 | exact .k1 | exact .k2 | exact .k3 | exact .k4 | exact .k5) (by simp) ?_); clear hf hs a; intro w hs a hf
    refine s_nil ?_
    refine then_n ?_
    refine wp_seq ?_
    refine wp_region_lit ?_
    refine s_m hf rfl ?_; clear hf a; intro a hf
    refine s_a hf rfl ?_; clear hf a; intro a hf
    refine s_nil ?_
    refine then_n ?_
    refine wp_ret ?_
    refine r_1 hf Tryd.results38 rfl ?_
    first | (rw [if_pos hi0]; exact ⟨p, rfl, bufA_close hs⟩) | (rw [if_neg (by omega)]; exact ⟨p, rfl, bufA_close hs⟩)
  · simp only [decide_eq_true_eq, decide_eq_false_iff_not, Bool.not_eq_true', Bool.not_eq_false', Bool.not_eq_true, Int.not_lt, Int.not_le] at hi0
    refine wp_skip ?_
    refine then_n ?_
    refine wp_seq ?_
    refine wp_region_lit ?_
    refine s_m hf rfl ?_; clear hf a; intro a hf
    refine s_a hf rfl ?_; clear hf a; intro a hf
    refine s_nil ?_
    refine then_n ?_
    refine wp_ret ?_
    refine r_1 hf Tryd.results38 rfl ?_
    first | (rw [if_pos hi0]; exact ⟨p, rfl, bufA_close hs⟩) | (rw [if_neg (by omega)]; exact ⟨p, rfl, bufA_close hs⟩)
theorem bErr_spec (σ : Sig) (w : World) (R : List Asrt) (p : Nat) (data : List UInt8) (lim bad : Int) (hs : St σ w (bufA 115 5 p data lim bad :: R)) (hlim : bad = 0 → 0 ≤ lim) (hlim2 : lim ≤ 9223372036854775807) (hd : data.length ≤ 70368744177664) : Calls Tryd.prog 41 #[.pointer (some ⟨p, 0, none⟩)] w fun e w' => e = .returned (.int .i64 bad) ∧ St σ w' (bufA 115 5 p data lim bad :: R) := by
  obtain ⟨v0, hs⟩ := bufA_open hs
  obtain ⟨a0, c0, rfl, hc0⟩ := slB_shape (hs.take .k1)
  refine c_enter (N := 9) Tryd.func41 rfl Tryd.ntmps41 (by simp) ?_
  intro a hf
  refine wp_seq ?_
  refine wp_region_lit ?_
  refine s_a hf rfl ?_; clear hf a; intro a hf
  refine s_nil ?_
  refine then_n ?_
  refine wp_seq ?_
  refine wp_seq ?_
  refine wp_region_lit ?_
  refine s_m hf rfl ?_; clear hf a; intro a hf
  refine s_v hf (x_eqNil Tryd.underlying70 (hf.eval rfl) (hf.eval rfl)) ?_; clear hf a; intro a hf
  replace hf := hf.now (k := 4) (v' := .bool false) rfl rfl
  refine s_nil ?_
  refine then_n ?_
  refine c_cond_f hf rfl rfl ?_
  refine wp_skip ?_
  refine then_n ?_
  refine wp_seq ?_
  refine wp_region_lit ?_
  refine s_m hf rfl ?_; clear hf a; intro a hf
  refine s_v hf (x_nilCheck (hf.eval rfl)) ?_; clear hf a; intro a hf
  refine s_v hf (x_fieldAddr fo115_2 (hf.eval rfl)) ?_; clear hf a; intro a hf
  refine s_r hf (x_load sc26 (hf.eval rfl) (by first | exact hs.cell .k0 rfl | exact hs.cell .k1 rfl | exact hs.cell .k2 rfl | exact hs.cell .k3 rfl | exact hs.cell .k4 rfl | exact hs.cell .k5 rfl)) ?_; clear hf a; intro a hf
  refine s_a hf rfl ?_; clear hf a; intro a hf
  refine s_nil ?_
  refine then_n ?_
  refine wp_ret ?_
  refine r_1 hf Tryd.results41 rfl ?_
  exact ⟨rfl, bufA_close hs⟩
theorem bTake_spec (σ : Sig) (w : World) (R : List Asrt) (p : Nat) (data : List UInt8) (lim bad : Int) (hs : St σ w (bufA 115 5 p data lim bad :: R)) (hlim : bad = 0 → 0 ≤ lim) (hlim2 : lim ≤ 9223372036854775807) (hd : data.length ≤ 70368744177664) : Calls Tryd.prog 43 #[.pointer (some ⟨p, 0, none⟩)] w fun e w' => ∃ aa c, e = .returned (.slice aa (takeB data bad).length c) ∧ St σ w' (slB 5 (.slice aa (takeB data bad).length c) (takeB data bad) :: bufA 115 5 p data lim bad :: R) := by
  obtain ⟨v0, hs⟩ := bufA_open hs
  obtain ⟨a0, c0, rfl, hc0⟩ := slB_shape (hs.take .k1)
  refine c_enter (N := 17) Tryd.func43 rfl Tryd.ntmps43 (by simp) ?_
  intro a hf
  refine wp_seq ?_
  refine wp_region_lit ?_
  refine s_a hf rfl ?_; clear hf a; intro a hf
  refine s_nil ?_
  refine then_n ?_
  refine wp_seq ?_
  refine wp_seq ?_
  refine wp_region_lit ?_
  refine s_m hf rfl ?_; clear hf a; intro a hf
  refine s_v hf (x_eqNil Tryd.underlying70 (hf.eval rfl) (hf.eval rfl)) ?_; clear hf a; intro a hf
  replace hf := hf.now (k := 4) (v' := .bool false) rfl rfl
  refine s_m hf rfl ?_; clear hf a; intro a hf
  refine s_do hf (wanted_of hf rfl rfl rfl) (.value (x_move (hf.eval rfl) _) ?_); clear hf a; intro a hf
  refine s_do hf (wanted_of hf rfl rfl rfl) (.value (x_nilCheck (hf.eval rfl) _) ?_); clear hf a; intro a hf
  refine s_do hf (wanted_of hf rfl rfl rfl) (.value (x_fieldAddr fo115_2 (hf.eval rfl) _) ?_); clear hf a; intro a hf
  refine s_do hf (wanted_of hf rfl rfl rfl) (.value (x_load sc26 (hf.eval rfl) (by first | exact hs.cell .k0 rfl | exact hs.cell .k1 rfl | exact hs.cell .k2 rfl | exact hs.cell .k3 rfl | exact hs.cell .k4 rfl | exact hs.cell .k5 rfl)) ?_); clear hf a; intro a hf
  refine s_do hf (wanted_of hf rfl rfl rfl) (.value (x_bin (hf.eval rfl) (hf.eval rfl) (r_ne _ _ _ _) _) ?_); clear hf a; intro a hf
  refine s_v hf (x_pick_f (hf.eval rfl) (hf.eval rfl)) ?_; clear hf a; intro a hf
  refine s_nil ?_
  refine then_n ?_
  refine c_cond hf rfl (fun hi0 => ?_) (fun hi0 => ?_)
  · simp only [decide_eq_true_eq, decide_eq_false_iff_not, Bool.not_eq_true', Bool.not_eq_false', Bool.not_eq_true, Int.not_lt, Int.not_le] at hi0
    refine wp_seq ?_
    refine wp_region_lit ?_
    refine s_a hf rfl ?_; clear hf a; intro a hf
    refine s_nil ?_
    refine then_n ?_
    refine wp_ret ?_
    refine then_r ?_
    refine r_1 hf Tryd.results43 rfl ?_
    have hN : takeB data bad = [] := by unfold takeB; rw [if_pos (by simpa using hi0)]
    rw [hN]
    exact ⟨none, 0, rfl, (bufA_close hs).emp (slB_nil _)⟩
  · simp only [decide_eq_true_eq, decide_eq_false_iff_not, Bool.not_eq_true', Bool.not_eq_false', Bool.not_eq_true, Int.not_lt, Int.not_le] at hi0
    have hb : bad = 0 := by simpa using hi0
    subst hb
    have hl0 := hlim rfl
    refine wp_skip ?_
    refine then_n ?_
    refine wp_seq ?_
    refine wp_region_lit ?_
    refine s_m hf rfl ?_; clear hf a; intro a hf
    refine s_v hf (x_nilCheck (hf.eval rfl)) ?_; clear hf a; intro a hf
    refine s_v hf (x_fieldAddr fo115_0 (hf.eval rfl)) ?_; clear hf a; intro a hf
    refine s_r hf (x_load sc25 (hf.eval rfl) (by first | exact hs.cell .k0 rfl | exact hs.cell .k1 rfl | exact hs.cell .k2 rfl | exact hs.cell .k3 rfl | exact hs.cell .k4 rfl | exact hs.cell .k5 rfl)) ?_; clear hf a; intro a hf
    refine s_do hf rfl (y_appendB (s := data) (hs.emp (slB_nil 5)) sl25 rfl (hf.eval rfl) (hf.eval rfl) .k0 (hs.rdB .k1 fun h => slB_rd) (by simp; omega) ?_); clear hf hs a; intro v2 w hs hv a hf
    simp only [List.nil_append] at hs
    obtain ⟨a2, c2, rfl, hc2⟩ := slB_shape hs
    refine s_a hf rfl ?_; clear hf a; intro a hf
    refine s_nil ?_
    refine then_n ?_
    refine wp_ret ?_
    refine r_1 hf Tryd.results43 rfl ?_
    have hN : takeB data 0 = data := by unfold takeB; rw [if_neg (by simp)]
    rw [hN]
    refine ⟨_, _, rfl, ?_⟩
    exact (bufA_close (hs.take .k1 |>.take .k2 |>.take .k1)).take .k1
theorem bnumber_spec (σ : Sig) (w : World) (R : List Asrt) (p : Nat) (data : List UInt8) (lim bad : Int) (hs : St σ w (bufA 115 5 p data lim bad :: R)) (hlim : bad = 0 → 0 ≤ lim) (hlim2 : lim ≤ 9223372036854775807) (hd : data.length ≤ 70368744177664) (v : Int) (n : Nat) (hn : n ≤ 4) : Calls Tryd.prog 75 #[.pointer (some ⟨p, 0, none⟩), .int .i64 v, .int .i64 (n : Int)] w fun e w' => e = .returned (.tuple #[]) ∧ St σ w' (bufA 115 5 p (numB data lim bad v n).1 lim (numB data lim bad v n).2 :: R) := by
  obtain ⟨v0, hs⟩ := bufA_open hs
  obtain ⟨a0, c0, rfl, hc0⟩ := slB_shape (hs.take .k1)
  refine c_enter (N := 59) Tryd.func75 rfl Tryd.ntmps75 (by simp) ?_
  intro a hf
  refine wp_seq ?_
  refine wp_seq ?_
  refine wp_region_lit ?_
  refine s_m hf rfl ?_; clear hf a; intro a hf
  refine s_v hf (x_eqNil Tryd.underlying70 (hf.eval rfl) (hf.eval rfl)) ?_; clear hf a; intro a hf
  replace hf := hf.now (k := 7) (v' := .bool false) rfl rfl
  refine s_m hf rfl ?_; clear hf a; intro a hf
  refine s_do hf (wanted_of hf rfl rfl rfl) (.value (x_move (hf.eval rfl) _) ?_); clear hf a; intro a hf
  refine s_do hf (wanted_of hf rfl rfl rfl) (.value (x_nilCheck (hf.eval rfl) _) ?_); clear hf a; intro a hf
  refine s_do hf (wanted_of hf rfl rfl rfl) (.value (x_fieldAddr fo115_2 (hf.eval rfl) _) ?_); clear hf a; intro a hf
  refine s_do hf (wanted_of hf rfl rfl rfl) (.value (x_load sc26 (hf.eval rfl) (by first | exact hs.cell .k0 rfl | exact hs.cell .k1 rfl | exact hs.cell .k2 rfl | exact hs.cell .k3 rfl | exact hs.cell .k4 rfl | exact hs.cell .k5 rfl)) ?_); clear hf a; intro a hf
  refine s_do hf (wanted_of hf rfl rfl rfl) (.value (x_bin (hf.eval rfl) (hf.eval rfl) (r_ne _ _ _ _) _) ?_); clear hf a; intro a hf
  refine s_v hf (x_pick_f (hf.eval rfl) (hf.eval rfl)) ?_; clear hf a; intro a hf
  refine s_nil ?_
  refine then_n ?_
  refine c_cond hf rfl (fun hi0 => ?_) (fun hi0 => ?_)
  · simp only [decide_eq_true_eq, decide_eq_false_iff_not, Bool.not_eq_true', Bool.not_eq_false', Bool.not_eq_true, Int.not_lt, Int.not_le] at hi0
    refine wp_ret ?_
    refine then_r ?_
    refine r_0 hf Tryd.results75 ?_
    have hN : numB data lim bad v n = (data, bad) := by unfold numB; rw [if_pos (by simpa using hi0)]
    rw [hN]
    exact ⟨rfl, bufA_close hs⟩
  · simp only [decide_eq_true_eq, decide_eq_false_iff_not, Bool.not_eq_true', Bool.not_eq_false', Bool.not_eq_true, Int.not_lt, Int.not_le] at hi0
    have hb : bad = 0 := by simpa using hi0
    subst hb
    have hl0 := hlim rfl
    refine wp_skip ?_
    refine then_n ?_
    refine wp_seq ?_
    refine wp_seq ?_
    refine wp_region_lit ?_
    refine s_m hf rfl ?_; clear hf a; intro a hf
    refine s_v hf (x_bin (hf.eval rfl) (hf.eval rfl) (r_lt _ _ _ _)) ?_; clear hf a; intro a hf
    refine s_m hf rfl ?_; clear hf a; intro a hf
    refine s_bool hf (k := 17) rfl (fun hg1_2 hf' => ?_) (fun hg1_2 hf' => ?_)
    · clear hf
      have hf := hf'
      clear hf'
      simp only [decide_eq_true_eq, decide_eq_false_iff_not, Bool.not_eq_true', Bool.not_eq_false', Bool.not_eq_true, Int.not_lt, Int.not_le] at hg1_2
      refine s_pass hf rfl rfl ?_; clear hf a; intro a hf
      refine s_pass hf rfl rfl ?_; clear hf a; intro a hf
      refine s_pass hf rfl rfl ?_; clear hf a; intro a hf
      refine s_pass hf rfl rfl ?_; clear hf a; intro a hf
      refine s_pass hf rfl rfl ?_; clear hf a; intro a hf
      refine s_v hf (x_pick_t (hf.eval rfl) (hf.eval rfl)) ?_; clear hf a; intro a hf
      refine s_nil ?_
      refine then_n ?_
      refine c_cond_t hf rfl rfl ?_
      refine wp_seq ?_
      refine wp_region_lit ?_
      refine s_m hf rfl ?_; clear hf a; intro a hf
      refine s_v hf (x_nilCheck (hf.eval rfl)) ?_; clear hf a; intro a hf
      refine s_v hf (x_fieldAddr fo115_2 (hf.eval rfl)) ?_; clear hf a; intro a hf
      refine s_do0 hf rfl (y_store hs sc26 (hf.eval rfl) (hf.eval rfl) rfl (by first | exact .k0 | exact .k1 | exact .k2 | exact .k3 | exact .k4 | exact .k5) (by simp) ?_); clear hf hs a; intro w hs a hf
      refine s_nil ?_
      refine then_n ?_
      refine wp_ret ?_
      refine then_r ?_
      refine r_0 hf Tryd.results75 ?_
      have hN : numB data lim 0 v n = (data, 21) := by unfold numB; rw [if_neg (by simp), if_pos (by omega)]
      rw [hN]
      exact ⟨rfl, bufA_close hs⟩
    · clear hf
      have hf := hf'
      clear hf'
      simp only [decide_eq_true_eq, decide_eq_false_iff_not, Bool.not_eq_true', Bool.not_eq_false', Bool.not_eq_true, Int.not_lt, Int.not_le] at hg1_2
      refine s_do hf (wanted_of hf rfl rfl rfl) (.value (x_move (hf.eval rfl) _) ?_); clear hf a; intro a hf
      refine s_do hf (wanted_of hf rfl rfl rfl) (.value (x_move (hf.eval rfl) _) ?_); clear hf a; intro a hf
      refine s_do hf (wanted_of hf rfl rfl rfl) (.value (x_bin (hf.eval rfl) (hf.eval rfl) (r_muli _ (by omega) (by omega)) _) ?_); clear hf a; intro a hf
      refine s_do hf (wanted_of hf rfl rfl rfl) (.value (x_bin (hf.eval rfl) (hf.eval rfl) (r_shl256 _ hn) _) ?_); clear hf a; intro a hf
      refine s_do hf (wanted_of hf rfl rfl rfl) (.value (x_bin (hf.eval rfl) (hf.eval rfl) (r_ge _ _ _ _) _) ?_); clear hf a; intro a hf
      refine s_v hf (x_pick_f (hf.eval rfl) (hf.eval rfl)) ?_; clear hf a; intro a hf
      refine s_nil ?_
      refine then_n ?_
      refine c_cond hf rfl (fun hi1 => ?_) (fun hi1 => ?_)
      · simp only [decide_eq_true_eq, decide_eq_false_iff_not, Bool.not_eq_true', Bool.not_eq_false', Bool.not_eq_true, Int.not_lt, Int.not_le] at hi1
        refine wp_seq ?_
        refine wp_region_lit ?_
        refine s_m hf rfl ?_; clear hf a; intro a hf
        refine s_v hf (x_nilCheck (hf.eval rfl)) ?_; clear hf a; intro a hf
        refine s_v hf (x_fieldAddr fo115_2 (hf.eval rfl)) ?_; clear hf a; intro a hf
        refine s_do0 hf rfl (y_store hs sc26 (hf.eval rfl) (hf.eval rfl) rfl (by first | exact .k0 | exact .k1 | exact .k2 | exact .k3 | exact .k4 | exact .k5) (by simp) ?_); clear hf hs a; intro w hs a hf
        refine s_nil ?_
        refine then_n ?_
        refine wp_ret ?_
        refine then_r ?_
        refine r_0 hf Tryd.results75 ?_
        have hN : numB data lim 0 v n = (data, 21) := by unfold numB; rw [if_neg (by simp), if_pos (by omega)]
        rw [hN]
        exact ⟨rfl, bufA_close hs⟩
      · simp only [decide_eq_true_eq, decide_eq_false_iff_not, Bool.not_eq_true', Bool.not_eq_false', Bool.not_eq_true, Int.not_lt, Int.not_le] at hi1
        refine wp_skip ?_
        refine then_n ?_
        refine wp_seq ?_
        refine wp_seq ?_
        refine c_draw hs (fun _ => True) [.held, .held, .held, .held, .read, .held, .held, .held, .read, .held, .held, .held] (by kernel_rfl) (by kernel_rfl) (fun _ _ _ => trivial) ?_
        clear hs; intro w hs hC hw
        refine m_held hf rfl (fun w' _ => x_move (hf.eval rfl) w') ?_; clear hf a; intro a hf
        refine m_held hf rfl (fun w' _ => x_move (hf.eval rfl) w') ?_; clear hf a; intro a hf
        refine m_held hf rfl (fun w' _ => x_nilCheck (hf.eval rfl) w') ?_; clear hf a; intro a hf
        refine m_held hf rfl (fun w' _ => x_fieldAddr fo115_1 (hf.eval rfl) w') ?_; clear hf a; intro a hf
        refine m_read hf rfl (x_load sc3 (hf.eval rfl) (by first | exact hs.cell .k0 rfl | exact hs.cell .k1 rfl | exact hs.cell .k2 rfl | exact hs.cell .k3 rfl | exact hs.cell .k4 rfl | exact hs.cell .k5 rfl)) ?_; clear hf a; intro a hf
        refine m_held hf rfl (fun w' _ => x_move (hf.eval rfl) w') ?_; clear hf a; intro a hf
        refine m_held hf rfl (fun w' _ => x_nilCheck (hf.eval rfl) w') ?_; clear hf a; intro a hf
        refine m_held hf rfl (fun w' _ => x_fieldAddr fo115_0 (hf.eval rfl) w') ?_; clear hf a; intro a hf
        refine m_read hf rfl (x_load sc25 (hf.eval rfl) (by first | exact hs.cell .k0 rfl | exact hs.cell .k1 rfl | exact hs.cell .k2 rfl | exact hs.cell .k3 rfl | exact hs.cell .k4 rfl | exact hs.cell .k5 rfl)) ?_; clear hf a; intro a hf
        refine m_held hf rfl (fun w' _ => x_len Tryd.underlying25 (hf.eval rfl) w') ?_; clear hf a; intro a hf
        refine m_held hf rfl (fun w' _ => x_bin (hf.eval rfl) (hf.eval rfl) (r_subi _ (by omega) (by omega)) w') ?_; clear hf a; intro a hf
        refine m_held hf rfl (fun w' _ => x_bin (hf.eval rfl) (hf.eval rfl) (r_gt _ _ _ _) w') ?_; clear hf a; intro a hf
        refine m_nil ?_
        refine then_n ?_
        refine c_cond hf rfl (fun hi2 => ?_) (fun hi2 => ?_)
        · simp only [decide_eq_true_eq, decide_eq_false_iff_not, Bool.not_eq_true', Bool.not_eq_false', Bool.not_eq_true, Int.not_lt, Int.not_le] at hi2
          refine wp_seq ?_
          refine wp_region_lit ?_
          refine s_m hf rfl ?_; clear hf a; intro a hf
          refine s_v hf (x_nilCheck (hf.eval rfl)) ?_; clear hf a; intro a hf
          refine s_v hf (x_fieldAddr fo115_2 (hf.eval rfl)) ?_; clear hf a; intro a hf
          refine s_do0 hf rfl (y_store hs sc26 (hf.eval rfl) (hf.eval rfl) rfl (by first | exact .k0 | exact .k1 | exact .k2 | exact .k3 | exact .k4 | exact .k5) (by simp) ?_); clear hf hs a; intro w hs a hf
          refine s_nil ?_
          refine then_n ?_
          refine wp_ret ?_
          refine then_r ?_
          refine r_0 hf Tryd.results75 ?_
          have hN : numB data lim 0 v n = (data, 22) := by unfold numB; rw [if_neg (by simp), if_neg (by omega), if_pos (by omega)]
          rw [hN]
          exact ⟨rfl, bufA_close hs⟩
        · simp only [decide_eq_true_eq, decide_eq_false_iff_not, Bool.not_eq_true', Bool.not_eq_false', Bool.not_eq_true, Int.not_lt, Int.not_le] at hi2
          obtain ⟨V, rfl⟩ := Int.eq_ofNat_of_zero_le (show 0 ≤ v by omega)
          refine wp_skip ?_
          refine then_n ?_
          refine wp_seq ?_
          refine wp_region_lit ?_
          refine s_m hf rfl ?_; clear hf a; intro a hf
          refine s_m hf rfl ?_; clear hf a; intro a hf
          refine s_nil ?_
          refine then_n ?_
          refine wp_block ?_
          refine c_loop (L0 := [(0, _), (42, _)]) (fun M w m => ∃ (j : Nat) (a1 : Option Addr) (c1 : Nat), M = [(1, .int .i64 ((V / 256 ^ j : Nat) : Int)), (43, .int .i64 (j : Int))] ∧ n - j = m ∧ j ≤ n ∧ St σ w (cb p 115 [.slice a1 (data.length + j) c1, .int .i64 lim, .int .i64 0] :: slB 5 (.slice a1 (data.length + j) c1) (data ++ leB j V) :: R)) (M0 := [(1, .int .i64 (V : Int)), (43, .int .i64 0)]) (⟨0, a0, c0, by rw [Nat.pow_zero, Nat.div_one]; rfl, rfl, Nat.zero_le _, by simpa [leB] using hs⟩) (hf.sub ⟨rfl, rfl, rfl, rfl, trivial⟩) ?_
          clear hf hs a
          rintro M m a w ⟨j, a1, c1, rfl, rfl, hj, hs⟩ hf
          refine wp_seq ?_
          refine wp_region_lit ?_
          refine s_v hf (x_bin (hf.eval rfl) (hf.eval rfl) (r_lt _ _ _ _)) ?_; clear hf a; intro a hf
          refine s_nil ?_
          refine then_n ?_
          refine wp_seq ?_
          refine c_cond hf rfl (fun hi3 => ?_) (fun hi3 => ?_)
          · simp only [decide_eq_true_eq, decide_eq_false_iff_not, Bool.not_eq_true', Bool.not_eq_false', Bool.not_eq_true, Int.not_lt, Int.not_le] at hi3
            refine wp_skip ?_
            refine then_n ?_
            refine wp_seq ?_
            refine wp_block ?_
            refine wp_seq ?_
            refine wp_region_lit ?_
            refine s_m hf rfl ?_; clear hf a; intro a hf
            refine s_m hf rfl ?_; clear hf a; intro a hf
            refine s_v hf (x_nilCheck (hf.eval rfl)) ?_; clear hf a; intro a hf
            refine s_v hf (x_fieldAddr fo115_0 (hf.eval rfl)) ?_; clear hf a; intro a hf
            refine s_r hf (x_load sc25 (hf.eval rfl) (by first | exact hs.cell .k0 rfl | exact hs.cell .k1 rfl | exact hs.cell .k2 rfl | exact hs.cell .k3 rfl | exact hs.cell .k4 rfl | exact hs.cell .k5 rfl)) ?_; clear hf a; intro a hf
            refine s_m hf rfl ?_; clear hf a; intro a hf
            refine s_v hf (x_convr Tryd.underlying3 Tryd.underlying5 (hf.eval rfl) (u8_of .i64 rfl _)) ?_; clear hf a; intro a hf
            replace hf := hf.now (k := 51) (v' := u8v (UInt8.ofNat (V / 256 ^ j % 256))) rfl (rfl)
            refine s_do hf rfl (y_lit (xs := [.tmp 51]) hs sl25 (hf.evals rfl) rfl (by simp [Value.cells, u8v]) (by decide) ?_); clear hf hs a; intro b2 w hs a hf
            refine s_do hf rfl (y_appendB (s := [UInt8.ofNat (V / 256 ^ j % 256)]) hs sl25 rfl (hf.eval rfl) (hf.eval rfl) .k2 (hs.rdB .k0 fun h hb => rdB_of_bb (T := 5) (l := [UInt8.ofNat (V / 256 ^ j % 256)]) hb (by simp) (by simp)) (by simp [leB_len]; omega) ?_); clear hf hs a; intro v2 w hs hv a hf
            replace hs := (hs.lose .k1).take .k1
            have he : data ++ leB j V ++ [UInt8.ofNat (V / 256 ^ j % 256)] = data ++ leB (j + 1) V := by rw [List.append_assoc, ← leB_succ]
            rw [he] at hs
            obtain ⟨a2, c2, rfl, hc2⟩ := slB_shape (hs.take .k1)
            have hle : (data ++ leB (j + 1) V).length = data.length + (j + 1) := by simp [leB_len]
            rw [hle] at hs hf
            refine s_v hf (x_nilCheck (hf.eval rfl)) ?_; clear hf a; intro a hf
            refine s_v hf (x_fieldAddr fo115_0 (hf.eval rfl)) ?_; clear hf a; intro a hf
            refine s_do0 hf rfl (y_store hs sc25 (hf.eval rfl) (hf.eval rfl) rfl (by first | exact .k0 | exact .k1 | exact .k2 | exact .k3 | exact .k4 | exact .k5) (by simp) ?_); clear hf hs a; intro w hs a hf
            refine s_nil ?_
            refine then_n ?_
            refine wp_region_lit ?_
            refine s_m hf rfl ?_; clear hf a; intro a hf
            refine s_v hf (x_bin (hf.eval rfl) (hf.eval rfl) (r_shr_i64 _ (j := 8) (by omega))) ?_; clear hf a; intro a hf
            replace hf := hf.now (k := 57) (v' := .int .i64 ((V / 256 ^ (j + 1) : Nat) : Int)) rfl (by rw [Nat.div_div_eq_div_mul, show (2 : Nat) ^ 8 = 256 by decide, show 256 ^ (j + 1) = 256 ^ j * 256 from Nat.pow_succ _ _])
            refine s_a hf rfl ?_; clear hf a; intro a hf
            refine s_nil ?_
            refine blk_n ?_
            refine then_n ?_
            refine wp_region_lit ?_
            refine s_v hf (x_bin (hf.eval rfl) (hf.eval rfl) (r_addi _ (by omega) (by omega))) ?_; clear hf a; intro a hf
            refine s_m hf rfl ?_; clear hf a; intro a hf
            refine s_nil ?_
            exact ⟨_, _, ⟨j + 1, a2, c2, rfl, rfl, by omega, hs⟩, by omega, hf.sub ⟨rfl, rfl, rfl, rfl, trivial⟩⟩
          · simp only [decide_eq_true_eq, decide_eq_false_iff_not, Bool.not_eq_true', Bool.not_eq_false', Bool.not_eq_true, Int.not_lt, Int.not_le] at hi3
            refine wp_exit ?_
            refine then_x ?_
            refine then_x ?_
            refine blk_x ?_
            refine r_0n hf Tryd.results75 ?_
            obtain rfl : n = j := by omega
            have hN : numB data lim 0 (V : Int) n = (data ++ leB n V, 0) := by unfold numB; rw [if_neg (by simp), if_neg (by omega), if_neg (by omega), Int.toNat_natCast]
            rw [hN]
            exact ⟨rfl, bufA_close hs⟩
theorem bU32_spec (σ : Sig) (w : World) (R : List Asrt) (p : Nat) (data : List UInt8) (lim bad : Int) (hs : St σ w (bufA 115 5 p data lim bad :: R)) (hlim : bad = 0 → 0 ≤ lim) (hlim2 : lim ≤ 9223372036854775807) (hd : data.length ≤ 70368744177664) (v : Int) : Calls Tryd.prog 40 #[.pointer (some ⟨p, 0, none⟩), .int .i64 v] w fun e w' => e = .returned (.tuple #[]) ∧ St σ w' (bufA 115 5 p (numB data lim bad v 4).1 lim (numB data lim bad v 4).2 :: R) := by
  refine c_enter (N := 7) Tryd.func40 rfl Tryd.ntmps40 (by simp) ?_
  intro a hf
  refine wp_region_lit ?_
  refine s_m hf rfl ?_; clear hf a; intro a hf
  refine s_m hf rfl ?_; clear hf a; intro a hf
  refine s_do hf rfl (y_call (hf.eval rfl) (hf.evals rfl) Tryd.call75 ((bnumber_spec σ w R p data lim bad hs hlim hlim2 hd v 4 (by omega)).mono ?_))
  rintro e w1 ⟨rfl, hs⟩
  refine ⟨_, rfl, ?_⟩; clear hf a; intro a hf
  refine s_nil ?_
  refine r_0n hf Tryd.results40 ?_
  exact ⟨rfl, hs⟩
theorem bText_spec (σ : Sig) (w : World) (R : List Asrt) (p : Nat) (data : List UInt8) (lim bad : Int) (hs : St σ w (bufA 115 5 p data lim bad :: R)) (hlim : bad = 0 → 0 ≤ lim) (hlim2 : lim ≤ 9223372036854775807) (hd : data.length ≤ 70368744177664) (s : List UInt8) (hsl : s.length ≤ 1048576) : Calls Tryd.prog 39 #[.pointer (some ⟨p, 0, none⟩), .string ⟨s.toArray⟩] w fun e w' => e = .returned (.tuple #[]) ∧ St σ w' (bufA 115 5 p (txtB data lim bad s).1 lim (txtB data lim bad s).2 :: R) := by
  obtain ⟨v0, hs⟩ := bufA_open hs
  obtain ⟨a0, c0, rfl, hc0⟩ := slB_shape (hs.take .k1)
  refine c_enter (N := 38) Tryd.func39 rfl Tryd.ntmps39 (by simp) ?_
  intro a hf
  refine wp_seq ?_
  refine wp_seq ?_
  refine wp_region_lit ?_
  refine s_m hf rfl ?_; clear hf a; intro a hf
  refine s_v hf (x_eqNil Tryd.underlying70 (hf.eval rfl) (hf.eval rfl)) ?_; clear hf a; intro a hf
  replace hf := hf.now (k := 5) (v' := .bool false) rfl rfl
  refine s_m hf rfl ?_; clear hf a; intro a hf
  refine s_do hf (wanted_of hf rfl rfl rfl) (.value (x_move (hf.eval rfl) _) ?_); clear hf a; intro a hf
  refine s_do hf (wanted_of hf rfl rfl rfl) (.value (x_nilCheck (hf.eval rfl) _) ?_); clear hf a; intro a hf
  refine s_do hf (wanted_of hf rfl rfl rfl) (.value (x_fieldAddr fo115_2 (hf.eval rfl) _) ?_); clear hf a; intro a hf
  refine s_do hf (wanted_of hf rfl rfl rfl) (.value (x_load sc26 (hf.eval rfl) (by first | exact hs.cell .k0 rfl | exact hs.cell .k1 rfl | exact hs.cell .k2 rfl | exact hs.cell .k3 rfl | exact hs.cell .k4 rfl | exact hs.cell .k5 rfl)) ?_); clear hf a; intro a hf
  refine s_do hf (wanted_of hf rfl rfl rfl) (.value (x_bin (hf.eval rfl) (hf.eval rfl) (r_ne _ _ _ _) _) ?_); clear hf a; intro a hf
  refine s_v hf (x_pick_f (hf.eval rfl) (hf.eval rfl)) ?_; clear hf a; intro a hf
  refine s_nil ?_
  refine then_n ?_
  refine c_cond hf rfl (fun hi0 => ?_) (fun hi0 => ?_)
  · simp only [decide_eq_true_eq, decide_eq_false_iff_not, Bool.not_eq_true', Bool.not_eq_false', Bool.not_eq_true, Int.not_lt, Int.not_le] at hi0
    refine wp_ret ?_
    refine then_r ?_
    refine r_0 hf Tryd.results39 ?_
    have hN : txtB data lim bad s = (data, bad) := by unfold txtB; rw [if_pos (by simpa using hi0)]
    rw [hN]
    exact ⟨rfl, bufA_close hs⟩
  · simp only [decide_eq_true_eq, decide_eq_false_iff_not, Bool.not_eq_true', Bool.not_eq_false', Bool.not_eq_true, Int.not_lt, Int.not_le] at hi0
    have hb : bad = 0 := by simpa using hi0
    subst hb
    have hl0 := hlim rfl
    refine wp_skip ?_
    refine then_n ?_
    refine wp_seq ?_
    refine wp_seq ?_
    refine c_draw hs (fun _ => True) [.held, .held, .held, .held, .held, .read, .held, .held, .held, .read, .held, .held, .held] (by kernel_rfl) (by kernel_rfl) (fun _ _ _ => trivial) ?_
    clear hs; intro w hs hC hw
    refine m_held hf rfl (fun w' _ => x_move (hf.eval rfl) w') ?_; clear hf a; intro a hf
    refine m_held hf rfl (fun w' _ => x_lenS Tryd.underlying9 (hf.eval rfl) w') ?_; clear hf a; intro a hf
    replace hf := hf.now (k := 14) (v' := .int .i64 (s.length : Int)) rfl (by simp [ByteArray.size])
    refine m_held hf rfl (fun w' _ => x_move (hf.eval rfl) w') ?_; clear hf a; intro a hf
    refine m_held hf rfl (fun w' _ => x_nilCheck (hf.eval rfl) w') ?_; clear hf a; intro a hf
    refine m_held hf rfl (fun w' _ => x_fieldAddr fo115_1 (hf.eval rfl) w') ?_; clear hf a; intro a hf
    refine m_read hf rfl (x_load sc3 (hf.eval rfl) (by first | exact hs.cell .k0 rfl | exact hs.cell .k1 rfl | exact hs.cell .k2 rfl | exact hs.cell .k3 rfl | exact hs.cell .k4 rfl | exact hs.cell .k5 rfl)) ?_; clear hf a; intro a hf
    refine m_held hf rfl (fun w' _ => x_move (hf.eval rfl) w') ?_; clear hf a; intro a hf
    refine m_held hf rfl (fun w' _ => x_nilCheck (hf.eval rfl) w') ?_; clear hf a; intro a hf
    refine m_held hf rfl (fun w' _ => x_fieldAddr fo115_0 (hf.eval rfl) w') ?_; clear hf a; intro a hf
    refine m_read hf rfl (x_load sc25 (hf.eval rfl) (by first | exact hs.cell .k0 rfl | exact hs.cell .k1 rfl | exact hs.cell .k2 rfl | exact hs.cell .k3 rfl | exact hs.cell .k4 rfl | exact hs.cell .k5 rfl)) ?_; clear hf a; intro a hf
    refine m_held hf rfl (fun w' _ => x_len Tryd.underlying25 (hf.eval rfl) w') ?_; clear hf a; intro a hf
    refine m_held hf rfl (fun w' _ => x_bin (hf.eval rfl) (hf.eval rfl) (r_subi _ (by omega) (by omega)) w') ?_; clear hf a; intro a hf
    refine m_held hf rfl (fun w' _ => x_bin (hf.eval rfl) (hf.eval rfl) (r_gt _ _ _ _) w') ?_; clear hf a; intro a hf
    refine m_nil ?_
    refine then_n ?_
    refine c_cond hf rfl (fun hi1 => ?_) (fun hi1 => ?_)
    · simp only [decide_eq_true_eq, decide_eq_false_iff_not, Bool.not_eq_true', Bool.not_eq_false', Bool.not_eq_true, Int.not_lt, Int.not_le] at hi1
      refine wp_seq ?_
      refine wp_region_lit ?_
      refine s_m hf rfl ?_; clear hf a; intro a hf
      refine s_v hf (x_nilCheck (hf.eval rfl)) ?_; clear hf a; intro a hf
      refine s_v hf (x_fieldAddr fo115_2 (hf.eval rfl)) ?_; clear hf a; intro a hf
      refine s_do0 hf rfl (y_store hs sc26 (hf.eval rfl) (hf.eval rfl) rfl (by first | exact .k0 | exact .k1 | exact .k2 | exact .k3 | exact .k4 | exact .k5) (by simp) ?_); clear hf hs a; intro w hs a hf
      refine s_nil ?_
      refine then_n ?_
      refine wp_ret ?_
      refine then_r ?_
      refine r_0 hf Tryd.results39 ?_
      have hN : txtB data lim 0 s = (data, 22) := by unfold txtB; rw [if_neg (by simp), if_pos (by omega)]
      rw [hN]
      exact ⟨rfl, bufA_close hs⟩
    · simp only [decide_eq_true_eq, decide_eq_false_iff_not, Bool.not_eq_true', Bool.not_eq_false', Bool.not_eq_true, Int.not_lt, Int.not_le] at hi1
      refine wp_skip ?_
      refine then_n ?_
      refine wp_region_lit ?_
      refine s_m hf rfl ?_; clear hf a; intro a hf
      refine s_m hf rfl ?_; clear hf a; intro a hf
      refine s_v hf (x_nilCheck (hf.eval rfl)) ?_; clear hf a; intro a hf
      refine s_v hf (x_fieldAddr fo115_0 (hf.eval rfl)) ?_; clear hf a; intro a hf
      refine s_r hf (x_load sc25 (hf.eval rfl) (by first | exact hs.cell .k0 rfl | exact hs.cell .k1 rfl | exact hs.cell .k2 rfl | exact hs.cell .k3 rfl | exact hs.cell .k4 rfl | exact hs.cell .k5 rfl)) ?_; clear hf a; intro a hf
      refine s_m hf rfl ?_; clear hf a; intro a hf
      refine s_do hf rfl (y_appendStr (s := s) hs sl25 rfl Tryd.underlying9 (hf.eval rfl) (hf.eval rfl) .k1 (by omega) ?_); clear hf hs a; intro v2 w hs a hf
      replace hs := hs.take .k1
      obtain ⟨a2, c2, rfl, hc2⟩ := slB_shape (hs.take .k1)
      refine s_v hf (x_nilCheck (hf.eval rfl)) ?_; clear hf a; intro a hf
      refine s_v hf (x_fieldAddr fo115_0 (hf.eval rfl)) ?_; clear hf a; intro a hf
      refine s_do0 hf rfl (y_store hs sc25 (hf.eval rfl) (hf.eval rfl) rfl (by first | exact .k0 | exact .k1 | exact .k2 | exact .k3 | exact .k4 | exact .k5) (by simp) ?_); clear hf hs a; intro w hs a hf
      refine s_nil ?_
      refine r_0n hf Tryd.results39 ?_
      have hN : txtB data lim 0 s = (data ++ s, 0) := by unfold txtB; rw [if_neg (by simp), if_neg (by omega)]
      rw [hN]
      exact ⟨rfl, bufA_close hs⟩
end Go.Proofs.YtehakfbfjpolfaaDoor

namespace Go.Proofs.YtehakfbfjpolfaaDoor
open Go Vw
def mkB (j : Nat) : UInt8 := UInt8.ofNat (j % 200 % 256)
def Mkd (i : Nat) (qs : List Pt) : Prop := ∀ j (h : j < qs.length), j < i → qs[j].2.2 = List.replicate qs[j].2.2.length (mkB j)
theorem Mkd.zero (qs : List Pt) : Mkd 0 qs := fun j h h0 => absurd h0 (Nat.not_lt_zero _)
theorem Mkd.step {i : Nat} {qs : List Pt} (h : Mkd i qs) (hi : i < qs.length) {d : List UInt8} (hd : d = List.replicate d.length (mkB i)) : Mkd (i + 1) (qs.set i (qs[i].1, qs[i].2.1, d)) := fun j hj hji => by
  have hj' : j < qs.length := by simpa using hj
  by_cases e : j = i
  · subst e
    rw [List.getElem_set_self]
    exact hd
  · rw [List.getElem_set_ne (by omega)]
    exact h j hj' (by omega)
theorem all_rep {d : List UInt8} {x : UInt8} {k : Nat} (hk : k = d.length) (h : d.take k = List.replicate k x) : d = List.replicate d.length x := by
  subst hk
  rwa [List.take_length] at h
theorem rep_step {d : List UInt8} {x : UInt8} {k : Nat} (hk : k < d.length) (h : d.take k = List.replicate k x) : (d.set k x).take (k + 1) = List.replicate (k + 1) x := by
  have hk' : k < (d.set k x).length := by simpa using hk
  rw [List.take_succ_eq_append_getElem hk', List.getElem_set_self, List.take_set, List.set_eq_of_length_le (by simp; omega), h, List.replicate_succ']
theorem lens_set {qs : List Pt} {i : Nat} (hi : i < qs.length) {d : List UInt8} (hd : d.length = qs[i].2.2.length) {N : Nat} (h : ∀ p ∈ qs, p.2.2.length ≤ N) : ∀ p ∈ qs.set i (qs[i].1, qs[i].2.1, d), p.2.2.length ≤ N := fun p hp => by
  rcases List.mem_or_eq_of_mem_set hp with h1 | h1
  · exact h p h1
  · subst h1; simp only []; rw [hd]; exact h _ (List.getElem_mem hi)
theorem datA_shut {σ : Sig} {w : World} {R : List Asrt} {T : Nat} {ps : List Pt} {i : Nat} (hi : i < ps.length) (hs : St σ w (slB T ps[i].2.1 ps[i].2.2 :: datA T (ps.take i) :: datA T (ps.drop (i + 1)) :: R)) : St σ w (datA T ps :: R) := by
  have h := datA_close hi hs
  rwa [show ((ps[i].1, ps[i].2.1, ps[i].2.2) : Pt) = ps[i] from rfl, List.set_getElem_self] at h
theorem marked_spec (w0 : World) (a1 : Option Addr) (c1 : Nat) (l : List UInt8) (x : UInt8) (hr1 : RdB (hp w0) (.slice a1 l.length c1) l) (hl : l.length ≤ 140737488351232) (hx : l = List.replicate l.length x) : Calls Tryd.prog 47 #[.slice a1 l.length c1, u8v x] w0 fun e w' => e = .returned (.bool true) ∧ Kept w0 w' None_ := by
  have hs := St.start w0 None_
  refine c_enter (N := 18) Tryd.func47 rfl Tryd.ntmps47 (by simp) ?_
  intro a hf
  refine wp_seq ?_
  refine wp_region_lit ?_
  refine s_a hf rfl ?_; clear hf a; intro a hf
  refine s_nil ?_
  refine then_n ?_
  refine wp_seq ?_
  refine wp_seq ?_
  refine wp_region_lit ?_
  refine s_a hf rfl ?_; clear hf a; intro a hf
  refine s_nil ?_
  refine then_n ?_
  refine wp_block ?_
  refine c_loop (L0 := [(0, _), (1, _)]) (fun M w m => ∃ i : Nat, M = [(5, .int .i64 (i : Int))] ∧ l.length - i = m ∧ i ≤ l.length ∧ St ⟨w0, None_⟩ w []) (M0 := [(5, .int .i64 (0 : Nat))]) (⟨0, rfl, rfl, Nat.zero_le _, hs⟩) (hf.sub ⟨rfl, rfl, rfl, trivial⟩) ?_
  clear hf hs a
  rintro M m a w ⟨i, rfl, rfl, hi, hs⟩ hf
  refine wp_seq ?_
  refine wp_seq ?_
  refine wp_region_lit ?_
  refine s_m hf rfl ?_; clear hf a; intro a hf
  refine s_m hf rfl ?_; clear hf a; intro a hf
  refine s_v hf (x_len Tryd.underlying25 (hf.eval rfl)) ?_; clear hf a; intro a hf
  refine s_v hf (x_bin (hf.eval rfl) (hf.eval rfl) (r_lt _ _ _ _)) ?_; clear hf a; intro a hf
  refine s_nil ?_
  refine then_n ?_
  refine c_cond hf rfl (fun hi0 => ?_) (fun hi0 => ?_)
  · simp only [decide_eq_true_eq, decide_eq_false_iff_not, Bool.not_eq_true', Bool.not_eq_false', Bool.not_eq_true, Int.not_lt, Int.not_le] at hi0
    obtain ⟨a1, rfl⟩ := hr1.some (by omega)
    have hlt : i < l.length := by omega
    have hlx : l[i] = x := (List.eq_replicate_iff.1 hx).2 _ (List.getElem_mem _)
    refine wp_skip ?_
    refine then_n ?_
    refine wp_seq ?_
    refine wp_block ?_
    refine wp_seq ?_
    refine wp_region_lit ?_
    refine s_m hf rfl ?_; clear hf a; intro a hf
    refine s_m hf rfl ?_; clear hf a; intro a hf
    refine s_v hf (x_indexAddr sl25 (hf.eval rfl) (hf.eval rfl) (by omega) (by omega)) ?_; clear hf a; intro a hf
    refine s_r hf (x_loadB (i := (i : Int)) sc5 (hs.oldB hr1) (hf.eval rfl) (by simpa using hlt)) ?_; clear hf a; intro a hf
    replace hf := hf.now (k := 15) (v' := u8v x) rfl (by rw [← hlx]; rfl)
    refine s_m hf rfl ?_; clear hf a; intro a hf
    refine s_v hf (x_bin (hf.eval rfl) (hf.eval rfl) (r_ne _ _ _ _)) ?_; clear hf a; intro a hf
    refine s_nil ?_
    refine then_n ?_
    refine c_cond_f hf rfl (by simp) ?_
    refine wp_skip ?_
    refine blk_n ?_
    refine then_n ?_
    refine wp_region_lit ?_
    refine s_m hf rfl ?_; clear hf a; intro a hf
    refine s_v hf (x_bin (hf.eval rfl) (hf.eval rfl) (r_addi _ (by omega) (by omega))) ?_; clear hf a; intro a hf
    refine s_a hf rfl ?_; clear hf a; intro a hf
    refine s_nil ?_
    exact ⟨_, _, ⟨i + 1, rfl, rfl, by omega, hs⟩, by omega, hf.sub ⟨rfl, rfl, rfl, trivial⟩⟩
  · simp only [decide_eq_true_eq, decide_eq_false_iff_not, Bool.not_eq_true', Bool.not_eq_false', Bool.not_eq_true, Int.not_lt, Int.not_le] at hi0
    refine wp_exit ?_
    refine then_x ?_
    refine then_x ?_
    refine blk_x ?_
    refine then_n ?_
    refine wp_seq ?_
    refine wp_region_lit ?_
    refine s_a hf rfl ?_; clear hf a; intro a hf
    refine s_nil ?_
    refine then_n ?_
    refine wp_ret ?_
    refine r_1 hf Tryd.results47 rfl ?_
    exact ⟨rfl, hs.kept⟩
theorem apart_spec (σ : Sig) (w : World) (R : List Asrt) (av : Option Addr) (cv : Nat) (ps : List Pt) (hs : St σ w (sl 25 1 (.slice av ps.length cv) ps.length (ps.flatMap mF) :: datA 5 ps :: R)) (hpl : ps.length ≤ 1099511627776) (hdl : ∀ p ∈ ps, p.2.2.length ≤ 70368744177664) : Calls Tryd.prog 14 #[.slice av ps.length cv] w fun e w' => e = .returned (.bool true) ∧ St σ w' R := by
  refine c_enter (N := 88) Tryd.func14 rfl Tryd.ntmps14 (by simp) ?_
  intro a hf
  refine wp_seq ?_
  refine wp_region_lit ?_
  refine s_a hf rfl ?_; clear hf a; intro a hf
  refine s_nil ?_
  refine then_n ?_
  refine wp_seq ?_
  refine wp_seq ?_
  refine wp_region_lit ?_
  refine s_a hf rfl ?_; clear hf a; intro a hf
  refine s_nil ?_
  refine then_n ?_
  refine wp_block ?_
  refine c_loop (L0 := [(0, _), (2, _)]) (fun M w m => ∃ (i : Nat) (qs : List Pt), M = [(3, .int .i64 (i : Int))] ∧ ps.length - i = m ∧ i ≤ ps.length ∧ qs.length = ps.length ∧ (∀ p ∈ qs, p.2.2.length ≤ 70368744177664) ∧ Mkd i qs ∧ St σ w (sl 25 1 (.slice av ps.length cv) ps.length (qs.flatMap mF) :: datA 5 qs :: R)) (M0 := [(3, .int .i64 0)]) (⟨0, ps, rfl, rfl, Nat.zero_le _, rfl, hdl, Mkd.zero _, hs⟩) (hf.sub ⟨rfl, rfl, rfl, trivial⟩) ?_
  clear hf hs a
  rintro M m a w ⟨i, qs, rfl, rfl, hi, hql, hdl, hmk, hs⟩ hf
  refine wp_seq ?_
  refine wp_seq ?_
  refine wp_region_lit ?_
  refine s_m hf rfl ?_; clear hf a; intro a hf
  refine s_m hf rfl ?_; clear hf a; intro a hf
  refine s_v hf (x_len Tryd.underlying34 (hf.eval rfl)) ?_; clear hf a; intro a hf
  refine s_v hf (x_bin (hf.eval rfl) (hf.eval rfl) (r_lt _ _ _ _)) ?_; clear hf a; intro a hf
  refine s_nil ?_
  refine then_n ?_
  refine c_cond hf rfl (fun hi0 => ?_) (fun hi0 => ?_)
  · simp only [decide_eq_true_eq, decide_eq_false_iff_not, Bool.not_eq_true', Bool.not_eq_false', Bool.not_eq_true, Int.not_lt, Int.not_le] at hi0
    have hlt : i < qs.length := by omega
    obtain ⟨av, rfl⟩ := sl_some hs (by omega)
    have hpd := hs.datRd .k1 hlt
    obtain ⟨pa, pk, hpv⟩ := hpd.shape
    have hdi := hdl _ (List.getElem_mem hlt)
    refine wp_skip ?_
    refine then_n ?_
    refine wp_seq ?_
    refine wp_block ?_
    refine wp_seq ?_
    refine wp_region_lit ?_
    refine s_a hf rfl ?_; clear hf a; intro a hf
    refine s_nil ?_
    refine then_n ?_
    refine wp_block ?_
    replace hs := datA_open (hs.take .k1) hlt
    have hl9 : qs[i].2.2.take 0 = List.replicate 0 (mkB i) := by simp
    refine c_loop (L0 := [(0, _), (2, _), (3, _), (11, _), (12, _), (13, _), (14, _)]) (fun M w m => ∃ (k : Nat) (d : List UInt8), M = [(4, .int .i64 (k : Int))] ∧ d.length - k = m ∧ k ≤ d.length ∧ d.length = qs[i].2.2.length ∧ d.take k = List.replicate k (mkB i) ∧ St σ w (slB 5 qs[i].2.1 d :: datA 5 (qs.take i) :: datA 5 (qs.drop (i + 1)) :: sl 25 1 (.slice av ps.length cv) ps.length (qs.flatMap mF) :: R)) (M0 := [(4, .int .i64 0)]) (⟨0, qs[i].2.2, rfl, rfl, Nat.zero_le _, rfl, hl9, hs⟩) (hf.sub ⟨rfl, rfl, rfl, rfl, rfl, rfl, rfl, rfl, trivial⟩) ?_
    clear hf hs a
    rintro M m a w ⟨k, d, rfl, rfl, hk, hd9, hrp, hs⟩ hf
    refine wp_seq ?_
    refine wp_seq ?_
    refine wp_region_lit ?_
    refine s_m hf rfl ?_; clear hf a; intro a hf
    refine s_m hf rfl ?_; clear hf a; intro a hf
    refine s_m hf rfl ?_; clear hf a; intro a hf
    refine s_v hf (x_indexAddr sl34 (hf.eval rfl) (hf.eval rfl) (by omega) (by omega)) ?_; clear hf a; intro a hf
    refine s_r hf (x_loadC (i := (i : Int)) hs sc25 .k3 (hf.eval rfl) (by rw [Int.toNat_natCast]; exact mF_get hlt)) ?_; clear hf a; intro a hf
    replace hf := hf.now (k := 21) (v' := .slice pa qs[i].2.2.length pk) rfl (hpv)
    refine s_v hf (x_len Tryd.underlying25 (hf.eval rfl)) ?_; clear hf a; intro a hf
    refine s_v hf (x_bin (hf.eval rfl) (hf.eval rfl) (r_lt _ _ _ _)) ?_; clear hf a; intro a hf
    refine s_nil ?_
    refine then_n ?_
    refine c_cond hf rfl (fun hi1 => ?_) (fun hi1 => ?_)
    · simp only [decide_eq_true_eq, decide_eq_false_iff_not, Bool.not_eq_true', Bool.not_eq_false', Bool.not_eq_true, Int.not_lt, Int.not_le] at hi1
      have hkl : k < d.length := by omega
      obtain ⟨pa, rfl⟩ : ∃ x, pa = some x := by cases pa with
        | some x => exact ⟨x, rfl⟩
        | none => exact absurd hpd (fun h => by rw [hpv] at h; rcases h.2 with ⟨c, e, h9⟩ | ⟨x, c, e, _⟩; omega; cases e)
      refine wp_skip ?_
      refine then_n ?_
      refine wp_seq ?_
      refine wp_block ?_
      refine wp_region_lit ?_
      refine s_m hf rfl ?_; clear hf a; intro a hf
      refine s_m hf rfl ?_; clear hf a; intro a hf
      refine s_v hf (x_indexAddr sl34 (hf.eval rfl) (hf.eval rfl) (by omega) (by omega)) ?_; clear hf a; intro a hf
      refine s_r hf (x_loadC (i := (i : Int)) hs sc25 .k3 (hf.eval rfl) (by rw [Int.toNat_natCast]; exact mF_get hlt)) ?_; clear hf a; intro a hf
      replace hf := hf.now (k := 29) (v' := .slice pa qs[i].2.2.length pk) rfl (hpv)
      refine s_m hf rfl ?_; clear hf a; intro a hf
      refine s_m hf rfl ?_; clear hf a; intro a hf
      refine s_v hf (x_bin (hf.eval rfl) (hf.eval rfl) (r_remn _ _ (Int.natCast_nonneg _) (by decide))) ?_; clear hf a; intro a hf
      replace hf := hf.now (k := 32) (v' := .int .i64 ((i % 200 : Nat) : Int)) rfl (by congr 1)
      refine s_v hf (x_convr Tryd.underlying3 Tryd.underlying5 (hf.eval rfl) (u8_of .i64 rfl _)) ?_; clear hf a; intro a hf
      replace hf := hf.now (k := 33) (v' := u8v (mkB i)) rfl (rfl)
      refine s_v hf (x_indexAddr sl25 (hf.eval rfl) (hf.eval rfl) (by omega) (by omega)) ?_; clear hf a; intro a hf
      unfold slB at hs
      rw [hpv, hd9] at hs
      refine s_do0 hf rfl (y_storeSl (i := k) hs sc5 (hf.eval rfl) (hf.eval rfl) rfl .k0 (by omega) ?_); clear hf hs a; intro w hs a hf
      rw [← hpv, ← List.map_set] at hs
      have hd7 : (d.set k (mkB i)).length = qs[i].2.2.length := by simpa using hd9
      rw [← hd7] at hs
      change St σ w (slB 5 qs[i].2.1 (d.set k (mkB i)) :: _) at hs
      refine s_nil ?_
      refine blk_n ?_
      refine then_n ?_
      refine wp_region_lit ?_
      refine s_m hf rfl ?_; clear hf a; intro a hf
      refine s_v hf (x_bin (hf.eval rfl) (hf.eval rfl) (r_addi _ (by omega) (by omega))) ?_; clear hf a; intro a hf
      refine s_a hf rfl ?_; clear hf a; intro a hf
      refine s_nil ?_
      have hd6 : (d.set k (mkB i)).length = d.length := by simp
      exact ⟨_, _, ⟨k + 1, d.set k (mkB i), rfl, rfl, by simp; omega, by simpa using hd9, rep_step (by omega) hrp, hs⟩, by omega, hf.sub ⟨rfl, rfl, rfl, rfl, rfl, rfl, rfl, rfl, trivial⟩⟩
    · simp only [decide_eq_true_eq, decide_eq_false_iff_not, Bool.not_eq_true', Bool.not_eq_false', Bool.not_eq_true, Int.not_lt, Int.not_le] at hi1
      have hd8 : d = List.replicate d.length (mkB i) := all_rep (by omega) hrp
      replace hs := datA_close hlt hs
      replace hs := hs.take (A := sl 25 1 (.slice (some av) ps.length cv) ps.length (qs.flatMap mF)) (by first | exact .k0 | exact .k1 | exact .k2 | exact .k3 | exact .k4 | exact .k5 | exact .k6 | exact .k7 | exact .k8 | exact .k9)
      refine wp_exit ?_
      refine then_x ?_
      refine then_x ?_
      refine blk_x ?_
      refine blk_n ?_
      refine then_n ?_
      refine wp_region_lit ?_
      refine s_m hf rfl ?_; clear hf a; intro a hf
      refine s_v hf (x_bin (hf.eval rfl) (hf.eval rfl) (r_addi _ (by omega) (by omega))) ?_; clear hf a; intro a hf
      refine s_a hf rfl ?_; clear hf a; intro a hf
      refine s_nil ?_
      exact ⟨_, _, ⟨i + 1, qs.set i (qs[i].1, qs[i].2.1, d), rfl, rfl, by omega, by simpa using hql, lens_set hlt hd9 hdl, hmk.step hlt hd8, by rw [set_vals hlt]; exact hs⟩, by omega, hf.sub ⟨rfl, rfl, rfl, trivial⟩⟩
  · simp only [decide_eq_true_eq, decide_eq_false_iff_not, Bool.not_eq_true', Bool.not_eq_false', Bool.not_eq_true, Int.not_lt, Int.not_le] at hi0
    refine wp_exit ?_
    refine then_x ?_
    refine then_x ?_
    refine blk_x ?_
    refine then_n ?_
    refine wp_seq ?_
    refine wp_region_lit ?_
    refine s_a hf rfl ?_; clear hf a; intro a hf
    refine s_nil ?_
    refine then_n ?_
    refine wp_seq ?_
    refine wp_seq ?_
    refine wp_region_lit ?_
    refine s_a hf rfl ?_; clear hf a; intro a hf
    refine s_nil ?_
    refine then_n ?_
    refine wp_block ?_
    have hq0 : qs.length = ps.length := hql
    replace hmk : Mkd ps.length qs := by rw [show ps.length = i by omega]; exact hmk
    replace hs := hs.emp (A := sl 25 1 (.slice none 0 0) 0 []) (fun _ => ⟨rfl, .inl ⟨rfl, rfl⟩⟩)
    clear hi0 hi
    refine c_loop (L0 := [(0, _), (2, _), (3, _), (11, _), (12, _), (13, _), (14, _)]) (fun M w m => ∃ (i : Nat) (v5 : Value) (ms : List Value), M = [(5, v5), (6, .int .i64 (i : Int))] ∧ ps.length - i = m ∧ i ≤ ps.length ∧ ms.length = i ∧ (∀ j (h : j < ms.length) (h2 : j < qs.length), ∃ a c, ms[j] = .slice a (qs[j].2.2.length + 100) c) ∧ St σ w (sl 25 1 v5 i ms :: sl 25 1 (.slice av ps.length cv) ps.length (qs.flatMap mF) :: datA 5 qs :: R)) (M0 := [(5, .slice none 0 0), (6, .int .i64 0)]) (⟨0, _, [], rfl, rfl, Nat.zero_le _, rfl, (fun j h => absurd h (Nat.not_lt_zero _)), hs⟩) (hf.sub ⟨rfl, rfl, rfl, rfl, rfl, rfl, rfl, rfl, rfl, trivial⟩) ?_
    clear hf hs a
    rintro M m a w ⟨i, v5, ms, rfl, rfl, hi, hml, hms, hs⟩ hf
    refine wp_seq ?_
    refine wp_seq ?_
    refine wp_region_lit ?_
    refine s_m hf rfl ?_; clear hf a; intro a hf
    refine s_m hf rfl ?_; clear hf a; intro a hf
    refine s_v hf (x_len Tryd.underlying34 (hf.eval rfl)) ?_; clear hf a; intro a hf
    refine s_v hf (x_bin (hf.eval rfl) (hf.eval rfl) (r_lt _ _ _ _)) ?_; clear hf a; intro a hf
    refine s_nil ?_
    refine then_n ?_
    refine c_cond hf rfl (fun hi2 => ?_) (fun hi2 => ?_)
    · simp only [decide_eq_true_eq, decide_eq_false_iff_not, Bool.not_eq_true', Bool.not_eq_false', Bool.not_eq_true, Int.not_lt, Int.not_le] at hi2
      have hlt : i < qs.length := by omega
      replace hs := hs.take (A := sl 25 1 (.slice av ps.length cv) ps.length (qs.flatMap mF)) (by first | exact .k0 | exact .k1 | exact .k2 | exact .k3 | exact .k4 | exact .k5 | exact .k6 | exact .k7 | exact .k8 | exact .k9)
      obtain ⟨av, rfl⟩ := sl_some hs (by omega)
      have hpd := hs.datRd .k2 hlt
      obtain ⟨pa, pk, hpv⟩ := hpd.shape
      have hdi := hdl _ (List.getElem_mem hlt)
      replace hs := datA_open (hs.take .k2) hlt
      rw [hpv] at hs
      replace hs := hs.twoB_start
      refine wp_skip ?_
      refine then_n ?_
      refine wp_seq ?_
      refine wp_block ?_
      refine wp_seq ?_
      refine wp_region_lit ?_
      refine s_m hf rfl ?_; clear hf a; intro a hf
      refine s_m hf rfl ?_; clear hf a; intro a hf
      refine s_v hf (x_indexAddr sl34 (hf.eval rfl) (hf.eval rfl) (by omega) (by omega)) ?_; clear hf a; intro a hf
      refine s_r hf (x_loadC (i := (i : Int)) hs sc25 .k3 (hf.eval rfl) (by rw [Int.toNat_natCast]; exact mF_get hlt)) ?_; clear hf a; intro a hf
      replace hf := hf.now (k := 44) (v' := .slice pa qs[i].2.2.length pk) rfl (hpv)
      refine s_do hf rfl (y_lit (xs := [.const (.int .u8 241)]) hs sl25 (hf.evals rfl) rfl (by simp [Value.cells]) (by decide) ?_); clear hf hs a; intro b2 w hs a hf
      refine s_do hf rfl (y_appendB2 (s := [241]) hs sl25 rfl (hf.eval rfl) (hf.eval rfl) .k1 (hs.rdB .k0 fun h hb => rdB_of_bb (T := 5) (l := [241]) hb (by simp) (by simp)) (by simp; omega) ?_); clear hf hs a; intro v2 w hs a hf
      replace hs := hs.lose .k1
      refine s_a hf rfl ?_; clear hf a; intro a hf
      refine s_nil ?_
      refine then_n ?_
      refine wp_seq ?_
      refine wp_seq ?_
      refine wp_region_lit ?_
      refine s_a hf rfl ?_; clear hf a; intro a hf
      refine s_nil ?_
      refine then_n ?_
      refine wp_block ?_
      refine c_loop (L0 := [(0, _), (2, _), (3, _), (5, _), (6, _), (11, _), (12, _), (13, _), (14, _), (35, _), (36, _), (37, _), (38, _), (41, _), (42, _), (43, _), (44, _), (45, _), (46, _)]) (fun M w m => ∃ (k : Nat) (v2 : Value), M = [(7, v2), (8, .int .i64 (k : Int))] ∧ 99 - k = m ∧ k ≤ 99 ∧ St σ w (twoB 5 (.slice pa qs[i].2.2.length pk) qs[i].2.2 v2 (qs[i].2.2 ++ [241] ++ List.replicate k 242) :: datA 5 (qs.take i) :: datA 5 (qs.drop (i + 1)) :: sl 25 1 (.slice (some av) ps.length cv) ps.length (qs.flatMap mF) :: sl 25 1 v5 i ms :: R)) (M0 := _) (⟨0, _, rfl, rfl, by omega, by simpa using hs⟩) (hf.sub ⟨rfl, rfl, rfl, rfl, rfl, rfl, rfl, rfl, rfl, rfl, rfl, rfl, rfl, rfl, rfl, rfl, rfl, rfl, rfl, rfl, rfl, trivial⟩) ?_
      clear hf hs a
      rintro M m a w ⟨k, v2, rfl, rfl, hk, hs⟩ hf
      refine wp_seq ?_
      refine wp_seq ?_
      refine wp_region_lit ?_
      refine s_m hf rfl ?_; clear hf a; intro a hf
      refine s_v hf (x_bin (hf.eval rfl) (hf.eval rfl) (r_lt _ _ _ _)) ?_; clear hf a; intro a hf
      refine s_nil ?_
      refine then_n ?_
      refine c_cond hf rfl (fun hi3 => ?_) (fun hi3 => ?_)
      · simp only [decide_eq_true_eq, decide_eq_false_iff_not, Bool.not_eq_true', Bool.not_eq_false', Bool.not_eq_true, Int.not_lt, Int.not_le] at hi3
        refine wp_skip ?_
        refine then_n ?_
        refine wp_seq ?_
        refine wp_block ?_
        refine wp_region_lit ?_
        refine s_m hf rfl ?_; clear hf a; intro a hf
        refine s_do hf rfl (y_lit (xs := [.const (.int .u8 242)]) hs sl25 (hf.evals rfl) rfl (by simp [Value.cells]) (by decide) ?_); clear hf hs a; intro b2 w hs a hf
        refine s_do hf rfl (y_appendB2 (s := [242]) hs sl25 rfl (hf.eval rfl) (hf.eval rfl) .k1 (hs.rdB .k0 fun h hb => rdB_of_bb (T := 5) (l := [242]) hb (by simp) (by simp)) (by simp; omega) ?_); clear hf hs a; intro v3 w hs a hf
        replace hs := hs.lose .k1
        rw [List.append_assoc, ← List.replicate_succ'] at hs
        refine s_a hf rfl ?_; clear hf a; intro a hf
        refine s_nil ?_
        refine blk_n ?_
        refine then_n ?_
        refine wp_region_lit ?_
        refine s_m hf rfl ?_; clear hf a; intro a hf
        refine s_v hf (x_bin (hf.eval rfl) (hf.eval rfl) (r_addi _ (by omega) (by omega))) ?_; clear hf a; intro a hf
        refine s_a hf rfl ?_; clear hf a; intro a hf
        refine s_nil ?_
        exact ⟨_, _, ⟨k + 1, _, rfl, rfl, by omega, hs⟩, by omega, hf.sub ⟨rfl, rfl, rfl, rfl, rfl, rfl, rfl, rfl, rfl, rfl, rfl, rfl, rfl, rfl, rfl, rfl, rfl, rfl, rfl, rfl, rfl, trivial⟩⟩
      · simp only [decide_eq_true_eq, decide_eq_false_iff_not, Bool.not_eq_true', Bool.not_eq_false', Bool.not_eq_true, Int.not_lt, Int.not_le] at hi3
        obtain rfl : k = 99 := by omega
        obtain ⟨xa, xc, hx2⟩ := twoB_shape hs
        have hx3 : (qs[i].2.2 ++ [241] ++ List.replicate 99 242 : List UInt8).length = qs[i].2.2.length + 100 := by simp
        rw [hx3] at hx2
        subst hx2
        replace hs := hs.twoB_fst
        rw [← hpv] at hs
        replace hs := datA_shut hlt hs
        replace hs := hs.take (A := sl 25 1 v5 i ms) (by first | exact .k0 | exact .k1 | exact .k2 | exact .k3 | exact .k4 | exact .k5 | exact .k6 | exact .k7 | exact .k8 | exact .k9)
        refine wp_exit ?_
        refine then_x ?_
        refine then_x ?_
        refine blk_x ?_
        refine then_n ?_
        refine wp_region_lit ?_
        refine s_m hf rfl ?_; clear hf a; intro a hf
        refine s_m hf rfl ?_; clear hf a; intro a hf
        refine s_do hf rfl (y_lit (xs := [.tmp 55]) hs sl34 (hf.evals rfl) rfl (by simp [Value.cells]) (by decide) ?_); clear hf hs a; intro b2 w hs a hf
        refine s_do hf rfl (y_append (n := i) (m := 1) (ys := [.slice xa (qs[i].2.2.length + 100) xc]) hs sl34 (hf.eval rfl) (hf.eval rfl) .k1 (hs.rd .k0 fun h hb => rd_rows hb rfl) (by simp [Value.oneCell']) (by omega) (by rw [maxLen_eq]; omega) ?_); clear hf hs a; intro v4 w hs hv a hf
        replace hs := hs.lose .k1
        replace hs := hs.take (A := datA 5 qs) (by first | exact .k0 | exact .k1 | exact .k2 | exact .k3 | exact .k4 | exact .k5 | exact .k6 | exact .k7 | exact .k8 | exact .k9)
        replace hs := hs.take (A := sl 25 1 (.slice (some av) ps.length cv) ps.length (qs.flatMap mF)) (by first | exact .k0 | exact .k1 | exact .k2 | exact .k3 | exact .k4 | exact .k5 | exact .k6 | exact .k7 | exact .k8 | exact .k9)
        replace hs := hs.take (A := sl 25 1 v4 (i + 1) (ms ++ [.slice xa (qs[i].2.2.length + 100) xc])) (by first | exact .k0 | exact .k1 | exact .k2 | exact .k3 | exact .k4 | exact .k5 | exact .k6 | exact .k7 | exact .k8 | exact .k9)
        have hms9 : ∀ j (h : j < (ms ++ [Value.slice xa (qs[i].2.2.length + 100) xc]).length) (h2 : j < qs.length), ∃ a c, (ms ++ [Value.slice xa (qs[i].2.2.length + 100) xc])[j] = .slice a (qs[j].2.2.length + 100) c := by
          intro j h h2
          by_cases hj : j < ms.length
          · rw [List.getElem_append_left hj]; exact hms j hj h2
          · have hji : j = i := by simp at h; omega
            subst hji
            rw [List.getElem_append_right (by omega)]
            exact ⟨xa, xc, by simp⟩
        refine s_a hf rfl ?_; clear hf a; intro a hf
        refine s_nil ?_
        refine blk_n ?_
        refine then_n ?_
        refine wp_region_lit ?_
        refine s_m hf rfl ?_; clear hf a; intro a hf
        refine s_v hf (x_bin (hf.eval rfl) (hf.eval rfl) (r_addi _ (by omega) (by omega))) ?_; clear hf a; intro a hf
        refine s_a hf rfl ?_; clear hf a; intro a hf
        refine s_nil ?_
        exact ⟨_, _, ⟨i + 1, _, ms ++ [.slice xa (qs[i].2.2.length + 100) xc], rfl, rfl, by omega, by simp [hml], hms9, hs⟩, by omega, hf.sub ⟨rfl, rfl, rfl, rfl, rfl, rfl, rfl, rfl, rfl, trivial⟩⟩
    · simp only [decide_eq_true_eq, decide_eq_false_iff_not, Bool.not_eq_true', Bool.not_eq_false', Bool.not_eq_true, Int.not_lt, Int.not_le] at hi2
      refine wp_exit ?_
      refine then_x ?_
      refine then_x ?_
      refine blk_x ?_
      refine then_n ?_
      refine wp_seq ?_
      refine wp_seq ?_
      refine wp_region_lit ?_
      refine s_a hf rfl ?_; clear hf a; intro a hf
      refine s_nil ?_
      refine then_n ?_
      refine wp_block ?_
      have hml9 : ms.length = qs.length := by omega
      refine c_loop (L0 := [(0, _), (3, _), (5, _), (6, _), (11, _), (12, _), (13, _), (14, _), (35, _), (36, _), (37, _), (38, _)]) (fun M w m => ∃ (j : Nat), M = [(9, .int .i64 (j : Int))] ∧ ps.length - j = m ∧ j ≤ ps.length ∧ St σ w (sl 25 1 v5 i ms :: sl 25 1 (.slice av ps.length cv) ps.length (qs.flatMap mF) :: datA 5 qs :: R)) (M0 := [(9, .int .i64 0)]) (⟨0, rfl, rfl, Nat.zero_le _, hs⟩) (hf.sub ⟨rfl, rfl, rfl, rfl, rfl, rfl, rfl, rfl, rfl, rfl, rfl, rfl, rfl, trivial⟩) ?_
      clear hf hs a
      rintro M m a w ⟨j, rfl, rfl, hj, hs⟩ hf
      refine wp_seq ?_
      refine wp_seq ?_
      refine wp_region_lit ?_
      refine s_m hf rfl ?_; clear hf a; intro a hf
      refine s_m hf rfl ?_; clear hf a; intro a hf
      refine s_v hf (x_len Tryd.underlying34 (hf.eval rfl)) ?_; clear hf a; intro a hf
      refine s_v hf (x_bin (hf.eval rfl) (hf.eval rfl) (r_lt _ _ _ _)) ?_; clear hf a; intro a hf
      refine s_nil ?_
      refine then_n ?_
      refine c_cond hf rfl (fun hi4 => ?_) (fun hi4 => ?_)
      · simp only [decide_eq_true_eq, decide_eq_false_iff_not, Bool.not_eq_true', Bool.not_eq_false', Bool.not_eq_true, Int.not_lt, Int.not_le] at hi4
        have hlt : j < qs.length := by omega
        have hltm : j < ms.length := by omega
        replace hs := hs.take (A := sl 25 1 (.slice av ps.length cv) ps.length (qs.flatMap mF)) (by first | exact .k0 | exact .k1 | exact .k2 | exact .k3 | exact .k4 | exact .k5 | exact .k6 | exact .k7 | exact .k8 | exact .k9)
        obtain ⟨av, rfl⟩ := sl_some hs (by omega)
        replace hs := hs.take (A := sl 25 1 v5 i ms) (by first | exact .k0 | exact .k1 | exact .k2 | exact .k3 | exact .k4 | exact .k5 | exact .k6 | exact .k7 | exact .k8 | exact .k9)
        obtain ⟨v5, c5, rfl⟩ := sl_shape hs
        obtain ⟨v5, rfl⟩ := sl_some hs (by omega)
        have hpd := hs.datRd .k2 hlt
        obtain ⟨pa, pk, hpv⟩ := hpd.shape
        have hdi := hdl _ (List.getElem_mem hlt)
        obtain ⟨ya, yc, hyv⟩ := hms j hltm hlt
        refine wp_skip ?_
        refine then_n ?_
        refine wp_seq ?_
        refine wp_block ?_
        refine wp_seq ?_
        refine c_draw hs (fun _ => True) [.held, .held, .held, .read, .held, .held, .held, .eff, .held, .held, .held, .held, .read, .held, .held, .held, .held, .read, .held, .held, .held, .held, .held] (by kernel_rfl) (by kernel_rfl) (fun _ _ _ => trivial) ?_
        clear hs; intro w hs hC hw
        refine m_held hf rfl (fun w' _ => x_move (hf.eval rfl) w') ?_; clear hf a; intro a hf
        refine m_held hf rfl (fun w' _ => x_move (hf.eval rfl) w') ?_; clear hf a; intro a hf
        refine m_held hf rfl (fun w' _ => x_indexAddr sl34 (hf.eval rfl) (hf.eval rfl) (by omega) (by omega) w') ?_; clear hf a; intro a hf
        refine m_read hf rfl (x_loadC (i := (j : Int)) hs sc25 .k1 (hf.eval rfl) (by rw [Int.toNat_natCast]; exact mF_get hlt)) ?_; clear hf a; intro a hf
        replace hf := hf.now (k := 67) (v' := .slice pa qs[j].2.2.length pk) rfl (hpv)
        refine m_held hf rfl (fun w' _ => x_move (hf.eval rfl) w') ?_; clear hf a; intro a hf
        refine m_held hf rfl (fun w' _ => x_bin (hf.eval rfl) (hf.eval rfl) (r_remn _ _ (Int.natCast_nonneg _) (by decide)) w') ?_; clear hf a; intro a hf
        replace hf := hf.now (k := 69) (v' := .int .i64 ((j % 200 : Nat) : Int)) rfl (by congr 1)
        refine m_held hf rfl (fun w' _ => x_convr Tryd.underlying3 Tryd.underlying5 (hf.eval rfl) (u8_of .i64 rfl _) w') ?_; clear hf a; intro a hf
        replace hf := hf.now (k := 70) (v' := u8v (mkB j)) rfl (rfl)
        refine m_eff hf rfl (y_call (hf.eval rfl) (hf.evals rfl) Tryd.call47 ((marked_spec _ pa pk qs[j].2.2 (mkB j) (by rw [← hpv]; exact hs.datRd .k2 hlt) (by omega) (hmk j hlt (by omega))).mono ?_))
        rintro e w1 ⟨rfl, hk9⟩
        replace hs := hs.ext hk9
        refine ⟨_, rfl, ⟨trivial, ?_⟩⟩; clear hf a; intro a hf
        refine m_held hf rfl (fun w' _ => x_move (hf.eval rfl) w') ?_; clear hf a; intro a hf
        replace hf := hf.now (k := 72) (v' := .bool true) rfl (congrArg Value.bool rfl)
        refine m_held hf (wanted_of hf rfl rfl rfl) (fun w' _ => x_move (hf.eval rfl) w') ?_; clear hf a; intro a hf
        refine m_held hf (wanted_of hf rfl rfl rfl) (fun w' _ => x_move (hf.eval rfl) w') ?_; clear hf a; intro a hf
        refine m_held hf (wanted_of hf rfl rfl rfl) (fun w' _ => x_indexAddr sl34 (hf.eval rfl) (hf.eval rfl) (by omega) (by omega) w') ?_; clear hf a; intro a hf
        refine m_read hf (wanted_of hf rfl rfl rfl) (x_loadC (i := (j : Int)) hs sc25 .k0 (hf.eval rfl) (by rw [Int.toNat_natCast]; exact List.getElem?_eq_getElem hltm)) ?_; clear hf a; intro a hf
        replace hf := hf.now (k := 76) (v' := .slice ya (qs[j].2.2.length + 100) yc) rfl (hyv)
        refine m_held hf (wanted_of hf rfl rfl rfl) (fun w' _ => x_len Tryd.underlying25 (hf.eval rfl) w') ?_; clear hf a; intro a hf
        refine m_held hf (wanted_of hf rfl rfl rfl) (fun w' _ => x_move (hf.eval rfl) w') ?_; clear hf a; intro a hf
        refine m_held hf (wanted_of hf rfl rfl rfl) (fun w' _ => x_move (hf.eval rfl) w') ?_; clear hf a; intro a hf
        refine m_held hf (wanted_of hf rfl rfl rfl) (fun w' _ => x_indexAddr sl34 (hf.eval rfl) (hf.eval rfl) (by omega) (by omega) w') ?_; clear hf a; intro a hf
        refine m_read hf (wanted_of hf rfl rfl rfl) (x_loadC (i := (j : Int)) hs sc25 .k1 (hf.eval rfl) (by rw [Int.toNat_natCast]; exact mF_get hlt)) ?_; clear hf a; intro a hf
        replace hf := hf.now (k := 81) (v' := .slice pa qs[j].2.2.length pk) rfl (hpv)
        refine m_held hf (wanted_of hf rfl rfl rfl) (fun w' _ => x_len Tryd.underlying25 (hf.eval rfl) w') ?_; clear hf a; intro a hf
        refine m_held hf (wanted_of hf rfl rfl rfl) (fun w' _ => x_bin (hf.eval rfl) (hf.eval rfl) (r_addi _ (by omega) (by omega)) w') ?_; clear hf a; intro a hf
        refine m_held hf (wanted_of hf rfl rfl rfl) (fun w' _ => x_bin (hf.eval rfl) (hf.eval rfl) (r_eq _ _ _ _) w') ?_; clear hf a; intro a hf
        refine m_held hf rfl (fun w' _ => x_pick_t (hf.eval rfl) (hf.eval rfl) w') ?_; clear hf a; intro a hf
        refine m_held hf rfl (fun w' _ => x_assign (hf.eval rfl) w') ?_; clear hf a; intro a hf
        refine m_nil ?_
        refine then_n ?_
        refine wp_seq ?_
        refine wp_region_lit ?_
        refine s_m hf rfl ?_; clear hf a; intro a hf
        refine s_v hf (x_not (hf.eval rfl)) ?_; clear hf a; intro a hf
        refine s_nil ?_
        refine then_n ?_
        refine c_cond_f hf rfl (by simp) ?_
        refine wp_skip ?_
        refine blk_n ?_
        refine then_n ?_
        refine wp_region_lit ?_
        refine s_m hf rfl ?_; clear hf a; intro a hf
        refine s_v hf (x_bin (hf.eval rfl) (hf.eval rfl) (r_addi _ (by omega) (by omega))) ?_; clear hf a; intro a hf
        refine s_a hf rfl ?_; clear hf a; intro a hf
        refine s_nil ?_
        exact ⟨_, _, ⟨j + 1, rfl, rfl, by omega, hs⟩, by omega, hf.sub ⟨rfl, rfl, rfl, rfl, rfl, rfl, rfl, rfl, rfl, rfl, rfl, rfl, rfl, trivial⟩⟩
      · simp only [decide_eq_true_eq, decide_eq_false_iff_not, Bool.not_eq_true', Bool.not_eq_false', Bool.not_eq_true, Int.not_lt, Int.not_le] at hi4
        refine wp_exit ?_
        refine then_x ?_
        refine then_x ?_
        refine blk_x ?_
        refine then_n ?_
        refine wp_seq ?_
        refine wp_region_lit ?_
        refine s_a hf rfl ?_; clear hf a; intro a hf
        refine s_nil ?_
        refine then_n ?_
        refine wp_ret ?_
        refine r_1 hf Tryd.results14 rfl ?_
        exact ⟨rfl, hs.drop.drop.drop⟩
end Go.Proofs.YtehakfbfjpolfaaDoor

namespace Go.Proofs.YtehakfbfjpolfaaDoor
open Go Vw
theorem iF_at {l : List Int} {i : Nat} (h : i < l.length) : (l.flatMap iF)[i]? = some (.int .i64 l[i]) := by
  have h1 := flatMap_get (f := iF) (sz := 1) (fun _ => rfl) l i 0 h (by decide)
  rw [Nat.mul_one, Nat.add_zero] at h1
  rw [h1]; rfl
theorem puts_len : ∀ (l : List Int) (d : List UInt8 × Int), (puts l d).1.length ≤ d.1.length + 4 * l.length
  | [], d => by show d.1.length ≤ _; omega
  | v :: l, d => by
    have h1 := puts_len l (numB d.1 512 d.2 v 4)
    have h2 := numB_len d.1 512 d.2 v 4
    show (puts l (numB d.1 512 d.2 v 4)).1.length ≤ _
    rw [List.length_cons]; omega
theorem hc_num (s : Sl) : numB (hdS s) 512 0 ((crcU 0 (hdS s) : Nat) : Int) 4 = (hcS s, 0) := by
  have h := crcU_lt (s := 0) (by decide) (hdS s)
  unfold numB
  rw [if_neg (by simp), if_neg (by omega), if_neg (by rw [hdS_len]; decide), Int.toNat_natCast]
  rfl
theorem sec_spl (s : Sl) : secS s = spl (List.replicate 512 (0 : UInt8)) 0 ((hcS s).take (min (hcS s).length 512)) := by
  have h1 : (hcS s).take (min (hcS s).length 512) = hcS s := List.take_of_length_le (by rw [hcS_len]; decide)
  unfold spl secS
  rw [h1, hcS_len, List.drop_replicate]
  rfl
theorem enc_no {s : Sl} (h : slOk s = false) : encE s = 1 ∧ encV s = [] := by unfold encE encV; rw [h]; exact ⟨rfl, rfl⟩
theorem enc_ok {s : Sl} (h : slOk s = true) : encE s = 0 ∧ encV s = secS s := by unfold encE encV; rw [h]; exact ⟨rfl, rfl⟩
theorem no_st {s : Sl} (h : ¬ (2 ≤ s.1 ∧ s.1 ≤ 4)) : slOk s = false := by
  cases e : slOk s with
  | false => rfl
  | true => exact absurd (slOk_st e) h
theorem slOk_in {s : Sl} (h : slOk s = true) : (0 ≤ s.2.1 ∧ s.2.1 ≤ 4294967295) ∧ (0 ≤ s.2.2.1 ∧ s.2.2.1 ≤ 4294967295) ∧ (0 ≤ s.2.2.2.1 ∧ s.2.2.2.1 ≤ 4294967295) ∧ (0 ≤ s.2.2.2.2.1 ∧ s.2.2.2.2.1 ≤ 4294967295) ∧ (0 ≤ s.2.2.2.2.2.1 ∧ s.2.2.2.2.2.1 ≤ 4294967295) := by
  unfold slOk inF at h
  simp only [Bool.and_eq_true, decide_eq_true_eq] at h
  exact ⟨h.1.1.1.1.2, h.1.1.1.2, h.1.1.2, h.1.2, h.2⟩
theorem encode_spec (w0 : World) (hT : Tab 0 (hp w0)) (s : Sl) (hsu : s.2.2.2.2.2.2 < 4294967296) : Calls Tryd.prog 10 #[.agg (slF s).toArray] w0 fun e w' => ∃ a c, e = .returned (.tuple #[.slice a (encV s).length c, .int .i64 (encE s)]) ∧ St ⟨w0, None_⟩ w' [slB 5 (.slice a (encV s).length c) (encV s)] := by
  have hs := St.start w0 None_
  refine c_enter (N := 59) Tryd.func10 rfl Tryd.ntmps10 (by simp) ?_
  intro a hf
  refine wp_seq ?_
  refine wp_region_lit ?_
  refine s_do hf rfl (y_box hs (hf.eval rfl) ?_); clear hf hs a; intro bx w hs a hf
  replace hs : St _ w (cb bx 24 (slF s) :: _) := hs
  refine s_a hf rfl ?_; clear hf a; intro a hf
  refine s_a hf rfl ?_; clear hf a; intro a hf
  refine s_nil ?_
  refine then_n ?_
  refine wp_seq ?_
  refine wp_seq ?_
  refine wp_region_lit ?_
  refine s_v hf (x_fieldAddr fo24_0 (hf.eval rfl)) ?_; clear hf a; intro a hf
  refine s_r hf (x_load sc3 (hf.eval rfl) (by first | exact hs.cell .k0 rfl | exact hs.cell .k1 rfl | exact hs.cell .k2 rfl | exact hs.cell .k3 rfl | exact hs.cell .k4 rfl | exact hs.cell .k5 rfl)) ?_; clear hf a; intro a hf
  refine s_v hf (x_bin (hf.eval rfl) (hf.eval rfl) (r_lt _ _ _ _)) ?_; clear hf a; intro a hf
  refine s_m hf rfl ?_; clear hf a; intro a hf
  refine s_bool hf (k := 11) rfl (fun hg1_3 hf' => ?_) (fun hg1_3 hf' => ?_)
  · clear hf
    have hf := hf'
    clear hf'
    first | simp only [decide_eq_true_eq, decide_eq_false_iff_not, Bool.not_eq_true', Bool.not_eq_false'] at hg1_3 | skip
    refine s_pass hf rfl rfl ?_; clear hf a; intro a hf
    refine s_pass hf rfl rfl ?_; clear hf a; intro a hf
    refine s_pass hf rfl rfl ?_; clear hf a; intro a hf
    refine s_v hf (x_pick_t (hf.eval rfl) (hf.eval rfl)) ?_; clear hf a; intro a hf
    refine s_nil ?_
    refine then_n ?_
    refine c_cond_t hf rfl rfl ?_
    refine wp_seq ?_
    refine wp_region_lit ?_
    refine s_a hf rfl ?_; clear hf a; intro a hf
    refine s_a hf rfl ?_; clear hf a; intro a hf
    refine s_nil ?_
    refine then_n ?_
    refine wp_ret ?_
    refine then_r ?_
    refine r_2 hf Tryd.results10 rfl rfl ?_
    obtain ⟨hE, hV⟩ := enc_no (no_st (s := s) (by omega))
    rw [hE, hV]
    exact ⟨none, 0, rfl, (St.keep [] _ hs).emp (slB_nil _)⟩
  · clear hf
    have hf := hf'
    clear hf'
    first | simp only [decide_eq_true_eq, decide_eq_false_iff_not, Bool.not_eq_true', Bool.not_eq_false'] at hg1_3 | skip
    refine s_do hf (wanted_of hf rfl rfl rfl) (.value (x_fieldAddr fo24_0 (hf.eval rfl) _) ?_); clear hf a; intro a hf
    refine s_do hf (wanted_of hf rfl rfl rfl) (.value (x_load sc3 (hf.eval rfl) (by first | exact hs.cell .k0 rfl | exact hs.cell .k1 rfl | exact hs.cell .k2 rfl | exact hs.cell .k3 rfl | exact hs.cell .k4 rfl | exact hs.cell .k5 rfl)) ?_); clear hf a; intro a hf
    refine s_do hf (wanted_of hf rfl rfl rfl) (.value (x_bin (hf.eval rfl) (hf.eval rfl) (r_gt _ _ _ _) _) ?_); clear hf a; intro a hf
    refine s_v hf (x_pick_f (hf.eval rfl) (hf.eval rfl)) ?_; clear hf a; intro a hf
    refine s_nil ?_
    refine then_n ?_
    refine c_cond hf rfl (fun hi0 => ?_) (fun hi0 => ?_)
    · first | simp only [decide_eq_true_eq, decide_eq_false_iff_not, Bool.not_eq_true', Bool.not_eq_false'] at hi0 | skip
      refine wp_seq ?_
      refine wp_region_lit ?_
      refine s_a hf rfl ?_; clear hf a; intro a hf
      refine s_a hf rfl ?_; clear hf a; intro a hf
      refine s_nil ?_
      refine then_n ?_
      refine wp_ret ?_
      refine then_r ?_
      refine r_2 hf Tryd.results10 rfl rfl ?_
      obtain ⟨hE, hV⟩ := enc_no (no_st (s := s) (by omega))
      rw [hE, hV]
      exact ⟨none, 0, rfl, (St.keep [] _ hs).emp (slB_nil _)⟩
    · first | simp only [decide_eq_true_eq, decide_eq_false_iff_not, Bool.not_eq_true', Bool.not_eq_false'] at hi0 | skip
      refine wp_skip ?_
      refine then_n ?_
      refine wp_seq ?_
      refine wp_region_lit ?_
      refine s_do hf rfl (y_call (hf.eval rfl) (hf.evals rfl) Tryd.call38 ((newBuf_spec _ 512).mono ?_))
      rintro e w1 ⟨p, rfl, hj⟩
      replace hs := hs.join hj
      simp only [List.cons_append, List.nil_append] at hs
      rw [if_neg (show ¬ ((512 : Int) < 0) by decide)] at hs
      refine ⟨_, rfl, ?_⟩; clear hf a; intro a hf
      refine s_a hf rfl ?_; clear hf a; intro a hf
      refine s_nil ?_
      refine then_n ?_
      refine wp_seq ?_
      refine wp_region_lit ?_
      refine s_m hf rfl ?_; clear hf a; intro a hf
      replace hs := hs.take (A := bufA 115 5 p [] 512 0) (by first | exact .k0 | exact .k1 | exact .k2 | exact .k3 | exact .k4 | exact .k5 | exact .k6 | exact .k7 | exact .k8 | exact .k9 | exact .k10 | exact .k11)
      refine s_do hf rfl (y_call (hf.eval rfl) (hf.evals rfl) Tryd.call39 ((bText_spec _ _ _ p [] 512 0 hs (fun _ => by decide) (by decide) (by simp) MAG (by decide)).mono ?_))
      rintro e w1 ⟨rfl, hs⟩
      rw [show txtB [] 512 0 MAG = (MAG, 0) by unfold txtB; rw [if_neg (by simp), if_neg (by decide)]; rfl] at hs
      refine ⟨_, rfl, ?_⟩; clear hf a; intro a hf
      refine s_nil ?_
      refine then_n ?_
      refine wp_seq ?_
      refine wp_seq ?_
      refine wp_region_lit ?_
      refine s_v hf (x_fieldAddr fo24_0 (hf.eval rfl)) ?_; clear hf a; intro a hf
      refine s_r hf (x_load sc3 (hf.eval rfl) (by first | exact hs.cell .k0 rfl | exact hs.cell .k1 rfl | exact hs.cell .k2 rfl | exact hs.cell .k3 rfl | exact hs.cell .k4 rfl | exact hs.cell .k5 rfl)) ?_; clear hf a; intro a hf
      refine s_v hf (x_fieldAddr fo24_1 (hf.eval rfl)) ?_; clear hf a; intro a hf
      refine s_r hf (x_load sc3 (hf.eval rfl) (by first | exact hs.cell .k0 rfl | exact hs.cell .k1 rfl | exact hs.cell .k2 rfl | exact hs.cell .k3 rfl | exact hs.cell .k4 rfl | exact hs.cell .k5 rfl)) ?_; clear hf a; intro a hf
      refine s_v hf (x_fieldAddr fo24_2 (hf.eval rfl)) ?_; clear hf a; intro a hf
      refine s_r hf (x_load sc3 (hf.eval rfl) (by first | exact hs.cell .k0 rfl | exact hs.cell .k1 rfl | exact hs.cell .k2 rfl | exact hs.cell .k3 rfl | exact hs.cell .k4 rfl | exact hs.cell .k5 rfl)) ?_; clear hf a; intro a hf
      refine s_v hf (x_fieldAddr fo24_3 (hf.eval rfl)) ?_; clear hf a; intro a hf
      refine s_r hf (x_load sc3 (hf.eval rfl) (by first | exact hs.cell .k0 rfl | exact hs.cell .k1 rfl | exact hs.cell .k2 rfl | exact hs.cell .k3 rfl | exact hs.cell .k4 rfl | exact hs.cell .k5 rfl)) ?_; clear hf a; intro a hf
      refine s_v hf (x_fieldAddr fo24_4 (hf.eval rfl)) ?_; clear hf a; intro a hf
      refine s_r hf (x_load sc3 (hf.eval rfl) (by first | exact hs.cell .k0 rfl | exact hs.cell .k1 rfl | exact hs.cell .k2 rfl | exact hs.cell .k3 rfl | exact hs.cell .k4 rfl | exact hs.cell .k5 rfl)) ?_; clear hf a; intro a hf
      refine s_v hf (x_fieldAddr fo24_5 (hf.eval rfl)) ?_; clear hf a; intro a hf
      refine s_r hf (x_load sc3 (hf.eval rfl) (by first | exact hs.cell .k0 rfl | exact hs.cell .k1 rfl | exact hs.cell .k2 rfl | exact hs.cell .k3 rfl | exact hs.cell .k4 rfl | exact hs.cell .k5 rfl)) ?_; clear hf a; intro a hf
      refine s_v hf (x_fieldAddr fo24_6 (hf.eval rfl)) ?_; clear hf a; intro a hf
      refine s_r hf (x_load sc22 (hf.eval rfl) (by first | exact hs.cell .k0 rfl | exact hs.cell .k1 rfl | exact hs.cell .k2 rfl | exact hs.cell .k3 rfl | exact hs.cell .k4 rfl | exact hs.cell .k5 rfl)) ?_; clear hf a; intro a hf
      refine s_v hf (x_conv Tryd.underlying22 Tryd.underlying3 (hf.eval rfl)) ?_; clear hf a; intro a hf
      replace hf := hf.now (k := 33) (v' := .int .i64 ((s.2.2.2.2.2.2 : Nat) : Int)) rfl (by rw [wrap_i64 (by omega) (by omega)])
      refine s_do hf rfl (y_lit (xs := [.tmp 20, .tmp 22, .tmp 24, .tmp 26, .tmp 28, .tmp 30, .tmp 33]) hs sl67 (hf.evals rfl) rfl (by simp [Value.cells]) (by decide) ?_); clear hf hs a; intro b9 w hs a hf
      replace hs := hs.ofCb (sz := 1) (n := 7) rfl (by rw [maxLen_eq]; omega)
      replace hs : St _ _ (sl 3 1 (.slice (some ⟨b9, 0, none⟩) 7 7) 7 ((fldL s).flatMap iF) :: _) := hs
      replace hs := hs.take (A := bufA 115 5 p MAG 512 0) (by first | exact .k0 | exact .k1 | exact .k2 | exact .k3 | exact .k4 | exact .k5 | exact .k6 | exact .k7 | exact .k8 | exact .k9 | exact .k10 | exact .k11)
      refine s_v hf (x_len Tryd.underlying67 (hf.eval rfl)) ?_; clear hf a; intro a hf
      refine s_m hf rfl ?_; clear hf a; intro a hf
      refine s_nil ?_
      refine then_n ?_
      refine wp_block ?_
      refine c_loop (L0 := [(2, _), (3, _), (4, _), (34, _), (35, _)]) (fun M w m => ∃ i : Nat, M = [(36, .int .i64 (i : Int))] ∧ 7 - i = m ∧ i ≤ 7 ∧ St ⟨w0, None_⟩ w [bufA 115 5 p (puts ((fldL s).take i) (MAG, 0)).1 512 (puts ((fldL s).take i) (MAG, 0)).2, sl 3 1 (.slice (some ⟨b9, 0, none⟩) 7 7) 7 ((fldL s).flatMap iF), cb bx 24 (slF s)]) (M0 := _) (⟨0, rfl, rfl, Nat.zero_le _, hs⟩) (hf.sub ⟨rfl, rfl, rfl, rfl, rfl, rfl, trivial⟩) ?_
      clear hf hs a
      rintro M m a w ⟨i, rfl, rfl, hi, hs⟩ hf
      refine wp_seq ?_
      refine wp_region_lit ?_
      refine s_v hf (x_bin (hf.eval rfl) (hf.eval rfl) (r_lt _ _ _ _)) ?_; clear hf a; intro a hf
      refine s_nil ?_
      refine then_n ?_
      refine wp_seq ?_
      refine c_cond hf rfl (fun hi1 => ?_) (fun hi1 => ?_)
      · simp only [decide_eq_true_eq, decide_eq_false_iff_not, Bool.not_eq_true', Bool.not_eq_false', Bool.not_eq_true, Int.not_lt, Int.not_le] at hi1
        have hlt : i < (fldL s).length := by show i < 7; omega
        have hpl := puts_len ((fldL s).take i) (MAG, 0)
        rw [List.length_take] at hpl
        have hmg : MAG.length = 8 := rfl
        have hps := puts_succ hlt (MAG, 0)
        generalize (puts ((fldL s).take i) (MAG, 0)) = D at hs hpl hps
        refine wp_skip ?_
        refine then_n ?_
        refine wp_seq ?_
        refine wp_block ?_
        refine wp_seq ?_
        refine wp_region_lit ?_
        refine s_v hf (x_indexAddr sl67 (hf.eval rfl) (hf.eval rfl) (by omega) (by omega)) ?_; clear hf a; intro a hf
        refine s_r hf (x_loadC (i := (i : Int)) hs sc3 .k1 (hf.eval rfl) (by rw [Int.toNat_natCast]; exact iF_at hlt)) ?_; clear hf a; intro a hf
        replace hf := hf.now (k := 39) (v' := .int .i64 (fldL s)[i]) rfl (rfl)
        refine s_a hf rfl ?_; clear hf a; intro a hf
        refine s_nil ?_
        refine then_n ?_
        refine wp_region_lit ?_
        refine s_m hf rfl ?_; clear hf a; intro a hf
        refine s_m hf rfl ?_; clear hf a; intro a hf
        refine s_do hf rfl (y_call (hf.eval rfl) (hf.evals rfl) Tryd.call40 ((bU32_spec _ _ _ p D.1 512 D.2 hs (fun _ => by decide) (by decide) (by simp only [] at hpl; omega) (fldL s)[i]).mono ?_))
        rintro e w1 ⟨rfl, hs⟩
        rw [← hps] at hs
        refine ⟨_, rfl, ?_⟩; clear hf a; intro a hf
        refine s_nil ?_
        refine blk_n ?_
        refine then_n ?_
        refine wp_region_lit ?_
        refine s_v hf (x_bin (hf.eval rfl) (hf.eval rfl) (r_addi _ (by omega) (by omega))) ?_; clear hf a; intro a hf
        refine s_m hf rfl ?_; clear hf a; intro a hf
        refine s_nil ?_
        exact ⟨_, _, ⟨i + 1, rfl, rfl, by omega, hs⟩, by omega, hf.sub ⟨rfl, rfl, rfl, rfl, rfl, rfl, trivial⟩⟩
      · simp only [decide_eq_true_eq, decide_eq_false_iff_not, Bool.not_eq_true', Bool.not_eq_false', Bool.not_eq_true, Int.not_lt, Int.not_le] at hi1
        obtain rfl : i = 7 := by omega
        rw [show (fldL s).take 7 = fldL s from rfl] at hs
        have hdl := puts_len (fldL s) (MAG, 0)
        have hfl : (fldL s).length = 7 := rfl
        have hmg : MAG.length = 8 := rfl
        obtain ⟨d, b, hdb⟩ : ∃ d b, puts (fldL s) (MAG, 0) = (d, b) := ⟨_, _, rfl⟩
        rw [hdb] at hs hdl
        simp only [] at hs hdl
        refine wp_exit ?_
        refine then_x ?_
        refine then_x ?_
        refine blk_x ?_
        refine then_n ?_
        refine wp_seq ?_
        refine wp_seq ?_
        refine wp_region_lit ?_
        refine s_m hf rfl ?_; clear hf a; intro a hf
        refine s_do hf rfl (y_call (hf.eval rfl) (hf.evals rfl) Tryd.call41 ((bErr_spec _ _ _ p d 512 b hs (fun _ => by decide) (by decide) (by omega)).mono ?_))
        rintro e w1 ⟨rfl, hs⟩
        refine ⟨_, rfl, ?_⟩; clear hf a; intro a hf
        refine s_v hf (x_bin (hf.eval rfl) (hf.eval rfl) (r_ne _ _ _ _)) ?_; clear hf a; intro a hf
        refine s_nil ?_
        refine then_n ?_
        refine c_cond hf rfl (fun hi2 => ?_) (fun hi2 => ?_)
        · first | simp only [decide_eq_true_eq, decide_eq_false_iff_not, Bool.not_eq_true', Bool.not_eq_false', ne_eq, Classical.not_not] at hi2 | skip
          refine wp_seq ?_
          refine wp_region_lit ?_
          refine s_a hf rfl ?_; clear hf a; intro a hf
          refine s_a hf rfl ?_; clear hf a; intro a hf
          refine s_nil ?_
          refine then_n ?_
          refine wp_ret ?_
          refine then_r ?_
          refine r_2 hf Tryd.results10 rfl rfl ?_
          obtain ⟨hE, hV⟩ := enc_no (by cases e9 : slOk s with | false => rfl | true => exact absurd (congrArg Prod.snd (hdb.symm.trans (puts_ok (fldL s) MAG ((slOk_flds hsu (by omega) (by omega)).1 e9) (by show 8 + 4 * 7 ≤ 512; omega)))) hi2)
          rw [hE, hV]
          exact ⟨none, 0, rfl, (St.keep [] _ hs).emp (slB_nil _)⟩
        · first | simp only [decide_eq_true_eq, decide_eq_false_iff_not, Bool.not_eq_true', Bool.not_eq_false', ne_eq, Classical.not_not] at hi2 | skip
          obtain rfl : b = 0 := by omega
          have hall := puts_good (fldL s) MAG (by show 8 + 4 * 7 ≤ 512; omega) (by rw [hdb])
          have hok : slOk s = true := (slOk_flds hsu (by omega) (by omega)).2 hall
          have hd9 := puts_ok (fldL s) MAG hall (by show 8 + 4 * 7 ≤ 512; omega)
          rw [hdb] at hd9
          obtain rfl : d = hdS s := congrArg Prod.fst hd9
          obtain ⟨hE, hV⟩ := enc_ok hok
          have hhl := hdS_len s
          have hcl := hcS_len s
          refine wp_skip ?_
          refine then_n ?_
          refine wp_seq ?_
          refine wp_region_lit ?_
          refine s_m hf rfl ?_; clear hf a; intro a hf
          refine s_m hf rfl ?_; clear hf a; intro a hf
          replace hs := hs.take (A := bufA 115 5 p (hdS s) 512 0) (by first | exact .k0 | exact .k1 | exact .k2 | exact .k3 | exact .k4 | exact .k5 | exact .k6 | exact .k7 | exact .k8 | exact .k9 | exact .k10 | exact .k11)
          refine s_do hf rfl (y_call (hf.eval rfl) (hf.evals rfl) Tryd.call43 ((bTake_spec _ _ _ p (hdS s) 512 0 hs (fun _ => by decide) (by decide) (by omega)).mono ?_))
          rintro e w1 ⟨g1, fg1, rfl, hs⟩
          rw [show takeB (hdS s) 0 = hdS s by unfold takeB; rw [if_neg (by simp)]] at hs ⊢
          refine ⟨_, rfl, ?_⟩; clear hf a; intro a hf
          refine s_do hf rfl (y_call (hf.eval rfl) (hf.evals rfl) Tryd.call42 ((sum_spec _ (hT.kept hs.kept) _ _ (hdS s) (hs.rdB .k0 fun h => slB_rd) (by omega)).mono ?_))
          rintro e w1 ⟨rfl, hk⟩
          replace hs := hs.ext hk
          refine ⟨_, rfl, ?_⟩; clear hf a; intro a hf
          have hcr := crcU_lt (s := 0) (by decide) (hdS s)
          refine s_v hf (x_conv Tryd.underlying22 Tryd.underlying3 (hf.eval rfl)) ?_; clear hf a; intro a hf
          replace hf := hf.now (k := 51) (v' := .int .i64 ((crcU 0 (hdS s) : Nat) : Int)) rfl (by rw [wrap_i64 (by omega) (by omega)])
          replace hs := hs.take (A := bufA 115 5 p (hdS s) 512 0) (by first | exact .k0 | exact .k1 | exact .k2 | exact .k3 | exact .k4 | exact .k5 | exact .k6 | exact .k7 | exact .k8 | exact .k9 | exact .k10 | exact .k11)
          refine s_do hf rfl (y_call (hf.eval rfl) (hf.evals rfl) Tryd.call40 ((bU32_spec _ _ _ p (hdS s) 512 0 hs (fun _ => by decide) (by decide) (by omega) ((crcU 0 (hdS s) : Nat) : Int)).mono ?_))
          rintro e w1 ⟨rfl, hs⟩
          rw [hc_num] at hs
          simp only [] at hs
          refine ⟨_, rfl, ?_⟩; clear hf a; intro a hf
          refine s_nil ?_
          refine then_n ?_
          refine wp_seq ?_
          refine wp_region_lit ?_
          refine s_do hf rfl (y_makeB (m := 512) (c := 512) hs sl25 (hf.eval rfl) (hf.eval rfl) rfl rfl (by omega) (by omega) ?_); clear hf hs a; intro b w hs a hf
          refine s_a hf rfl ?_; clear hf a; intro a hf
          refine s_nil ?_
          refine then_n ?_
          refine wp_seq ?_
          refine wp_region_lit ?_
          refine s_m hf rfl ?_; clear hf a; intro a hf
          refine s_m hf rfl ?_; clear hf a; intro a hf
          replace hs := hs.take (A := bufA 115 5 p (hcS s) 512 0) (by first | exact .k0 | exact .k1 | exact .k2 | exact .k3 | exact .k4 | exact .k5 | exact .k6 | exact .k7 | exact .k8 | exact .k9 | exact .k10 | exact .k11)
          refine s_do hf rfl (y_call (hf.eval rfl) (hf.evals rfl) Tryd.call43 ((bTake_spec _ _ _ p (hcS s) 512 0 hs (fun _ => by decide) (by decide) (by omega)).mono ?_))
          rintro e w1 ⟨g2, fg2, rfl, hs⟩
          rw [show takeB (hcS s) 0 = hcS s by unfold takeB; rw [if_neg (by simp)]] at hs ⊢
          refine ⟨_, rfl, ?_⟩; clear hf a; intro a hf
          refine s_do hf rfl (y_copyB (o := 0) (cur' := secS s) hs sl25 (hf.eval rfl) (hf.eval rfl) (fun _ => rfl) (hs.rdB .k0 fun h => slB_rd) rfl .k2 (sec_spl s) (by simp) ?_); clear hf hs a; intro w hs a hf
          refine s_nil ?_
          refine then_n ?_
          refine wp_seq ?_
          refine wp_region_lit ?_
          refine s_m hf rfl ?_; clear hf a; intro a hf
          refine s_a hf rfl ?_; clear hf a; intro a hf
          refine s_a hf rfl ?_; clear hf a; intro a hf
          refine s_nil ?_
          refine then_n ?_
          refine wp_ret ?_
          refine r_2 hf Tryd.results10 rfl rfl ?_
          rw [hE, hV]
          replace hs := hs.take (A := bb b 5 (secS s)) (by first | exact .k0 | exact .k1 | exact .k2 | exact .k3 | exact .k4 | exact .k5 | exact .k6 | exact .k7 | exact .k8 | exact .k9 | exact .k10 | exact .k11)
          rw [secS_len]
          exact ⟨_, _, rfl, St.keep [_] _ (St.ofBb hs (secS_len s) (by decide))⟩
end Go.Proofs.YtehakfbfjpolfaaDoor
