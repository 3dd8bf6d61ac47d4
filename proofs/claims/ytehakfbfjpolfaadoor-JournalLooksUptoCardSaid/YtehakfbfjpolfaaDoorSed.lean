/- The statement JournalDecodes. -/
import Derived.Test.YtehakfbfjpolfaaDoorVU
import Derived.Test.YtehakfbfjpolfaaDoorSec
import Derived.Test.YtehakfbfjpolfaaDoorProg
import Derived.Test.YtehakfbfjpolfaaDoorFacts
set_option maxRecDepth 100000
set_option linter.all false
namespace Go.Proofs.YtehakfbfjpolfaaDoor
open Go Vw
theorem rd32_sum {l : List UInt8} {k : Nat} (h : k + 4 ≤ l.length) : rd32 l k = l[k].toNat + 256 * l[k + 1].toNat + 65536 * l[k + 2].toNat + 16777216 * l[k + 3].toNat := by
  unfold rd32
  rw [List.drop_eq_getElem_cons (show k < l.length by omega), List.drop_eq_getElem_cons (show k + 1 < l.length by omega), List.drop_eq_getElem_cons (show k + 1 + 1 < l.length by omega), List.drop_eq_getElem_cons (show k + 1 + 1 + 1 < l.length by omega)]
  simp only [List.take_succ_cons, List.take_zero, leN]
  have e2 : l[k + 1 + 1].toNat = l[k + 2].toNat := rfl
  have e3 : l[k + 1 + 1 + 1].toNat = l[k + 3].toNat := rfl
  omega

theorem at32_spec (w0 : World) (a1 : Option Addr) (c1 : Nat) (l : List UInt8) (hr1 : RdB (hp w0) (.slice a1 l.length c1) l) (k : Nat) (hk : k + 4 ≤ l.length) (hl : l.length ≤ 140737488351232) : Calls Tryd.prog 53 #[.slice a1 l.length c1, .int .i64 (k : Int)] w0 fun e w' => e = .returned (.int .i64 ((rd32 l k : Nat) : Int)) ∧ Kept w0 w' None_ := by
  have hs := St.start w0 None_
  obtain ⟨a1, rfl⟩ := hr1.some (by omega)
  have hb0 := toNat_lt l[k + 0]
  have hb1 := toNat_lt l[k + 1]
  have hb2 := toNat_lt l[k + 2]
  have hb3 := toNat_lt l[k + 3]
  refine c_enter (N := 34) Tryd.func53 rfl Tryd.ntmps53 (by simp) ?_
  intro a hf
  refine wp_seq ?_
  refine wp_region_lit ?_
  refine s_a hf rfl ?_; clear hf a; intro a hf
  refine s_nil ?_
  refine then_n ?_
  refine wp_seq ?_
  refine c_draw hs (fun _ => True) [.held, .held, .held, .read, .held, .held, .held, .held, .held, .read, .held, .held, .held, .held, .held, .held, .held, .read, .held, .held, .held, .held, .held, .held, .held, .read, .held, .held, .held, .held] (by kernel_rfl) (by kernel_rfl) (fun _ _ _ => trivial) ?_
  clear hs; intro w hs hC hw
  refine m_held hf rfl (fun w' _ => x_move (hf.eval rfl) w') ?_; clear hf a; intro a hf
  refine m_held hf rfl (fun w' _ => x_move (hf.eval rfl) w') ?_; clear hf a; intro a hf
  replace hf := hf.now (k := 6) (v' := .int .i64 ((k + 0 : Nat) : Int)) rfl (rfl)
  refine m_held hf rfl (fun w' _ => x_indexAddr sl25 (hf.eval rfl) (hf.eval rfl) (by omega) (by omega) w') ?_; clear hf a; intro a hf
  refine m_read hf rfl (x_loadB (i := ((k + 0 : Nat) : Int)) sc5 (hs.oldB hr1) (hf.eval rfl) (by rw [Int.toNat_natCast]; omega)) ?_; clear hf a; intro a hf
  replace hf := hf.now (k := 8) (v' := u8v l[k + 0]) rfl (rfl)
  refine m_held hf rfl (fun w' _ => x_convr Tryd.underlying5 Tryd.underlying3 (hf.eval rfl) (wrap_byte _) w') ?_; clear hf a; intro a hf
  refine m_held hf rfl (fun w' _ => x_move (hf.eval rfl) w') ?_; clear hf a; intro a hf
  refine m_held hf rfl (fun w' _ => x_move (hf.eval rfl) w') ?_; clear hf a; intro a hf
  refine m_held hf rfl (fun w' _ => x_bin (hf.eval rfl) (hf.eval rfl) (r_addi _ (by omega) (by omega)) w') ?_; clear hf a; intro a hf
  replace hf := hf.now (k := 12) (v' := .int .i64 ((k + 1 : Nat) : Int)) rfl (rfl)
  refine m_held hf rfl (fun w' _ => x_indexAddr sl25 (hf.eval rfl) (hf.eval rfl) (by omega) (by omega) w') ?_; clear hf a; intro a hf
  refine m_read hf rfl (x_loadB (i := ((k + 1 : Nat) : Int)) sc5 (hs.oldB hr1) (hf.eval rfl) (by rw [Int.toNat_natCast]; omega)) ?_; clear hf a; intro a hf
  replace hf := hf.now (k := 14) (v' := u8v l[k + 1]) rfl (rfl)
  refine m_held hf rfl (fun w' _ => x_convr Tryd.underlying5 Tryd.underlying3 (hf.eval rfl) (wrap_byte _) w') ?_; clear hf a; intro a hf
  refine m_held hf rfl (fun w' _ => x_bin (hf.eval rfl) (hf.eval rfl) (r_muli _ (by omega) (by omega)) w') ?_; clear hf a; intro a hf
  refine m_held hf rfl (fun w' _ => x_bin (hf.eval rfl) (hf.eval rfl) (r_addi _ (by omega) (by omega)) w') ?_; clear hf a; intro a hf
  refine m_held hf rfl (fun w' _ => x_move (hf.eval rfl) w') ?_; clear hf a; intro a hf
  refine m_held hf rfl (fun w' _ => x_move (hf.eval rfl) w') ?_; clear hf a; intro a hf
  refine m_held hf rfl (fun w' _ => x_bin (hf.eval rfl) (hf.eval rfl) (r_addi _ (by omega) (by omega)) w') ?_; clear hf a; intro a hf
  replace hf := hf.now (k := 20) (v' := .int .i64 ((k + 2 : Nat) : Int)) rfl (rfl)
  refine m_held hf rfl (fun w' _ => x_indexAddr sl25 (hf.eval rfl) (hf.eval rfl) (by omega) (by omega) w') ?_; clear hf a; intro a hf
  refine m_read hf rfl (x_loadB (i := ((k + 2 : Nat) : Int)) sc5 (hs.oldB hr1) (hf.eval rfl) (by rw [Int.toNat_natCast]; omega)) ?_; clear hf a; intro a hf
  replace hf := hf.now (k := 22) (v' := u8v l[k + 2]) rfl (rfl)
  refine m_held hf rfl (fun w' _ => x_convr Tryd.underlying5 Tryd.underlying3 (hf.eval rfl) (wrap_byte _) w') ?_; clear hf a; intro a hf
  refine m_held hf rfl (fun w' _ => x_bin (hf.eval rfl) (hf.eval rfl) (r_muli _ (by omega) (by omega)) w') ?_; clear hf a; intro a hf
  refine m_held hf rfl (fun w' _ => x_bin (hf.eval rfl) (hf.eval rfl) (r_addi _ (by omega) (by omega)) w') ?_; clear hf a; intro a hf
  refine m_held hf rfl (fun w' _ => x_move (hf.eval rfl) w') ?_; clear hf a; intro a hf
  refine m_held hf rfl (fun w' _ => x_move (hf.eval rfl) w') ?_; clear hf a; intro a hf
  refine m_held hf rfl (fun w' _ => x_bin (hf.eval rfl) (hf.eval rfl) (r_addi _ (by omega) (by omega)) w') ?_; clear hf a; intro a hf
  replace hf := hf.now (k := 28) (v' := .int .i64 ((k + 3 : Nat) : Int)) rfl (rfl)
  refine m_held hf rfl (fun w' _ => x_indexAddr sl25 (hf.eval rfl) (hf.eval rfl) (by omega) (by omega) w') ?_; clear hf a; intro a hf
  refine m_read hf rfl (x_loadB (i := ((k + 3 : Nat) : Int)) sc5 (hs.oldB hr1) (hf.eval rfl) (by rw [Int.toNat_natCast]; omega)) ?_; clear hf a; intro a hf
  replace hf := hf.now (k := 30) (v' := u8v l[k + 3]) rfl (rfl)
  refine m_held hf rfl (fun w' _ => x_convr Tryd.underlying5 Tryd.underlying3 (hf.eval rfl) (wrap_byte _) w') ?_; clear hf a; intro a hf
  refine m_held hf rfl (fun w' _ => x_bin (hf.eval rfl) (hf.eval rfl) (r_muli _ (by omega) (by omega)) w') ?_; clear hf a; intro a hf
  refine m_held hf rfl (fun w' _ => x_bin (hf.eval rfl) (hf.eval rfl) (r_addi _ (by omega) (by omega)) w') ?_; clear hf a; intro a hf
  refine m_held hf rfl (fun w' _ => x_assign (hf.eval rfl) w') ?_; clear hf a; intro a hf
  refine m_nil ?_
  refine then_n ?_
  refine wp_ret ?_
  refine r_1 hf Tryd.results53 rfl ?_
  refine ⟨?_, hs.kept⟩
  rw [rd32_sum hk]
  simp only [Nat.add_zero]
  congr 2 <;> omega

theorem rsame_spec (w0 : World) (a1 : Option Addr) (c1 : Nat) (l1 : List UInt8) (hr1 : RdB (hp w0) (.slice a1 l1.length c1) l1) (a2 : Option Addr) (c2 : Nat) (l2 : List UInt8) (hr2 : RdB (hp w0) (.slice a2 l2.length c2) l2) (hl1 : l1.length ≤ 140737488355328) : Calls Tryd.prog 54 #[.slice a1 l1.length c1, .slice a2 l2.length c2] w0 fun e w' => e = .returned (.bool (decide (l1 = l2))) ∧ Kept w0 w' None_ := by
  have hs := St.start w0 None_
  refine c_enter (N := 26) Tryd.func54 rfl Tryd.ntmps54 (by simp) ?_
  intro a hf
  refine wp_seq ?_
  refine wp_region_lit ?_
  refine s_a hf rfl ?_; clear hf a; intro a hf
  refine s_nil ?_
  refine then_n ?_
  refine wp_seq ?_
  refine wp_seq ?_
  refine wp_region_lit ?_
  refine s_m hf rfl ?_; clear hf a; intro a hf
  refine s_v hf (x_len Tryd.underlying25 (hf.eval rfl)) ?_; clear hf a; intro a hf
  refine s_m hf rfl ?_; clear hf a; intro a hf
  refine s_v hf (x_len Tryd.underlying25 (hf.eval rfl)) ?_; clear hf a; intro a hf
  refine s_v hf (x_bin (hf.eval rfl) (hf.eval rfl) (r_ne _ _ _ _)) ?_; clear hf a; intro a hf
  refine s_nil ?_
  refine then_n ?_
  refine c_cond hf rfl (fun hi0 => ?_) (fun hi0 => ?_)
  · simp only [decide_eq_true_eq, decide_eq_false_iff_not, Bool.not_eq_true', Bool.not_eq_false', Bool.not_eq_true, Int.not_lt, Int.not_le] at hi0
    refine wp_seq ?_
    refine wp_region_lit ?_
    refine s_a hf rfl ?_; clear hf a; intro a hf
    refine s_nil ?_
    refine then_n ?_
    refine wp_ret ?_
    refine then_r ?_
    refine r_1 hf Tryd.results54 rfl ?_
    exact ⟨by rw [decide_eq_false (fun e => hi0 (by rw [e]))], hs.kept⟩
  · simp only [decide_eq_true_eq, decide_eq_false_iff_not, Bool.not_eq_true', Bool.not_eq_false', Bool.not_eq_true, Int.not_lt, Int.not_le] at hi0
    refine wp_skip ?_
    refine then_n ?_
    refine wp_seq ?_
    refine wp_seq ?_
    refine wp_region_lit ?_
    refine s_a hf rfl ?_; clear hf a; intro a hf
    refine s_nil ?_
    refine then_n ?_
    refine wp_block ?_
    refine c_loop (L0 := [(0, _), (1, _)]) (fun M w m => ∃ i : Nat, M = [(5, .int .i64 (i : Int))] ∧ l1.length - i = m ∧ i ≤ l1.length ∧ l1.take i = l2.take i ∧ St ⟨w0, None_⟩ w []) (M0 := [(5, .int .i64 (0 : Nat))]) (⟨0, rfl, rfl, Nat.zero_le _, rfl, hs⟩) (hf.sub ⟨rfl, rfl, rfl, trivial⟩) ?_
    clear hf hs a
    rintro M m a w ⟨i, rfl, rfl, hi, hq, hs⟩ hf
    refine wp_seq ?_
    refine wp_seq ?_
    refine wp_region_lit ?_
    refine s_m hf rfl ?_; clear hf a; intro a hf
    refine s_m hf rfl ?_; clear hf a; intro a hf
    refine s_v hf (x_len Tryd.underlying25 (hf.eval rfl)) ?_; clear hf a; intro a hf
    refine s_v hf (x_bin (hf.eval rfl) (hf.eval rfl) (r_lt _ _ _ _)) ?_; clear hf a; intro a hf
    refine s_nil ?_
    refine then_n ?_
    refine c_cond hf rfl (fun hi1 => ?_) (fun hi1 => ?_)
    · simp only [decide_eq_true_eq, decide_eq_false_iff_not, Bool.not_eq_true', Bool.not_eq_false', Bool.not_eq_true, Int.not_lt, Int.not_le] at hi1
      obtain ⟨x1, rfl⟩ := hr1.some (by omega)
      obtain ⟨x2, rfl⟩ := hr2.some (by omega)
      have hlt : i < l1.length := by omega
      have hlt2 : i < l2.length := by omega
      refine wp_skip ?_
      refine then_n ?_
      refine wp_seq ?_
      refine wp_block ?_
      refine wp_seq ?_
      refine c_draw hs (fun _ => True) [.held, .held, .held, .read, .held, .held, .held, .read, .held] (by kernel_rfl) (by kernel_rfl) (fun _ _ _ => trivial) ?_
      clear hs; intro w hs hC hw
      refine m_held hf rfl (fun w' _ => x_move (hf.eval rfl) w') ?_; clear hf a; intro a hf
      refine m_held hf rfl (fun w' _ => x_move (hf.eval rfl) w') ?_; clear hf a; intro a hf
      refine m_held hf rfl (fun w' _ => x_indexAddr sl25 (hf.eval rfl) (hf.eval rfl) (by omega) (by omega) w') ?_; clear hf a; intro a hf
      refine m_read hf rfl (x_loadB sc5 (hs.oldB hr1) (hf.eval rfl) (by omega)) ?_; clear hf a; intro a hf
      replace hf := hf.now (k := 20) (v' := u8v l1[i]) rfl rfl
      refine m_held hf rfl (fun w' _ => x_move (hf.eval rfl) w') ?_; clear hf a; intro a hf
      refine m_held hf rfl (fun w' _ => x_move (hf.eval rfl) w') ?_; clear hf a; intro a hf
      refine m_held hf rfl (fun w' _ => x_indexAddr sl25 (hf.eval rfl) (hf.eval rfl) (by omega) (by omega) w') ?_; clear hf a; intro a hf
      refine m_read hf rfl (x_loadB sc5 (hs.oldB hr2) (hf.eval rfl) (by omega)) ?_; clear hf a; intro a hf
      replace hf := hf.now (k := 24) (v' := u8v l2[i]) rfl rfl
      refine m_held hf rfl (fun w' _ => x_bin (hf.eval rfl) (hf.eval rfl) (r_ne _ _ _ _) w') ?_; clear hf a; intro a hf
      refine m_nil ?_
      refine then_n ?_
      refine c_cond hf rfl (fun hi2 => ?_) (fun hi2 => ?_)
      · simp only [decide_eq_true_eq, decide_eq_false_iff_not, Bool.not_eq_true', Bool.not_eq_false', Bool.not_eq_true, Int.not_lt, Int.not_le] at hi2
        refine wp_seq ?_
        refine wp_region_lit ?_
        refine s_a hf rfl ?_; clear hf a; intro a hf
        refine s_nil ?_
        refine then_n ?_
        refine wp_ret ?_
        refine blk_r (then_r (then_r (blk_r (then_r ?_))))
        refine r_1 hf Tryd.results54 rfl ?_
        exact ⟨by rw [decide_eq_false (fun e => hi2 (by subst e; rfl))], hs.kept⟩
      · simp only [decide_eq_true_eq, decide_eq_false_iff_not, Bool.not_eq_true', Bool.not_eq_false', Bool.not_eq_true, Int.not_lt, Int.not_le] at hi2
        have heq : l1[i] = l2[i] := UInt8.toNat_inj.1 (by omega)
        refine wp_skip ?_
        refine blk_n ?_
        refine then_n ?_
        refine wp_region_lit ?_
        refine s_m hf rfl ?_; clear hf a; intro a hf
        refine s_v hf (x_bin (hf.eval rfl) (hf.eval rfl) (r_addi _ (by omega) (by omega))) ?_; clear hf a; intro a hf
        refine s_a hf rfl ?_; clear hf a; intro a hf
        refine s_nil ?_
        have hlt : i < l1.length := by omega
        exact ⟨_, _, ⟨i + 1, rfl, rfl, by omega, by rw [List.take_succ_eq_append_getElem hlt, List.take_succ_eq_append_getElem (show i < l2.length by omega), hq, heq], hs⟩, by omega, hf.sub ⟨rfl, rfl, rfl, trivial⟩⟩
    · simp only [decide_eq_true_eq, decide_eq_false_iff_not, Bool.not_eq_true', Bool.not_eq_false', Bool.not_eq_true, Int.not_lt, Int.not_le] at hi1
      refine wp_exit ?_
      refine then_x ?_
      refine then_x ?_
      refine blk_x ?_
      refine then_n ?_
      refine wp_seq ?_
      refine wp_region_lit ?_
      refine s_a hf rfl ?_; clear hf a; intro a hf
      refine s_nil ?_
      refine then_n ?_
      refine wp_ret ?_
      refine r_1 hf Tryd.results54 rfl ?_
      have hi' : i = l1.length := by omega
      exact ⟨by rw [decide_eq_true (by rw [hi', List.take_length, show l1.length = l2.length by omega, List.take_length] at hq; exact hq)], hs.kept⟩

theorem rdecode_spec (w0 : World) (a1 : Option Addr) (c1 : Nat) (data : List UInt8) (hr1 : RdB (hp w0) (.slice a1 data.length c1) data) (hl1 : data.length ≤ 140737488351232) : Calls Tryd.prog 17 #[.slice a1 data.length c1] w0 fun e w' => e = .returned (.tuple #[.agg (slF (decV data)).toArray, .int .i64 (decE data)]) ∧ Kept w0 w' None_ := by
  have hs := St.start w0 None_
  refine c_enter (N := 42) Tryd.func17 rfl Tryd.ntmps17 (by simp) ?_
  intro a hf
  refine wp_seq ?_
  refine wp_region_lit ?_
  refine s_do hf rfl (y_alloc hs Tryd.zeroValue24 ?_); clear hf hs a; intro b2 w hs a hf
  change St _ _ (cb b2 24 (slF zSl) :: _) at hs
  refine s_a hf rfl ?_; clear hf a; intro a hf
  refine s_nil ?_
  refine then_n ?_
  refine wp_seq ?_
  refine wp_seq ?_
  refine wp_region_lit ?_
  refine s_m hf rfl ?_; clear hf a; intro a hf
  refine s_v hf (x_len Tryd.underlying25 (hf.eval rfl)) ?_; clear hf a; intro a hf
  refine s_v hf (x_bin (hf.eval rfl) (hf.eval rfl) (r_ne _ _ _ _)) ?_; clear hf a; intro a hf
  refine s_nil ?_
  refine then_n ?_
  refine c_cond hf rfl (fun hi0 => ?_) (fun hi0 => ?_)
  · first | simp only [decide_eq_true_eq, decide_eq_false_iff_not, Bool.not_eq_true', Bool.not_eq_false'] at hi0 | skip
    have hno : decOk data = false := by unfold decOk; rw [decide_eq_false (show ¬ data.length = 512 by omega)]; simp
    refine wp_seq ?_
    refine wp_region_lit ?_
    refine s_r hf (x_build (v := .agg (slF zSl).toArray) (hf.parts rfl) (fun w => by kernel_rfl) _) ?_; clear hf a; intro a hf
    replace hs := hs.take (A := cb b2 24 (slF zSl)) (by first | exact .here _ | exact .there _ (.here _) | exact .there _ (.there _ (.here _)) | exact .there _ (.there _ (.there _ (.here _))) | exact .there _ (.there _ (.there _ (.there _ (.here _)))) | exact .there _ (.there _ (.there _ (.there _ (.there _ (.here _))))) | exact .there _ (.there _ (.there _ (.there _ (.there _ (.there _ (.here _)))))) | exact .there _ (.there _ (.there _ (.there _ (.there _ (.there _ (.there _ (.here _))))))) | exact .there _ (.there _ (.there _ (.there _ (.there _ (.there _ (.there _ (.there _ (.here _)))))))) | exact .there _ (.there _ (.there _ (.there _ (.there _ (.there _ (.there _ (.there _ (.there _ (.here _))))))))) | exact .there _ (.there _ (.there _ (.there _ (.there _ (.there _ (.there _ (.there _ (.there _ (.there _ (.here _)))))))))) | exact .there _ (.there _ (.there _ (.there _ (.there _ (.there _ (.there _ (.there _ (.there _ (.there _ (.there _ (.here _))))))))))))
    refine s_do0 hf rfl (y_storeAgg (cs := slF zSl) hs (n := 7) (by kernel_rfl) (hf.eval rfl) (hf.eval rfl) (by simp [Value.oneCell', slF]) rfl rfl (.here _) ?_); clear hf hs a; intro w hs a hf
    refine s_a hf rfl ?_; clear hf a; intro a hf
    refine s_nil ?_
    refine then_n ?_
    refine wp_ret ?_
    refine then_r ?_
    refine r_2c hf Tryd.results17 rfl rfl hs ag24 rfl (.here _) ?_
    rw [(dec_no hno).1, (dec_no hno).2]
    exact ⟨rfl, hs.kept⟩
  · first | simp only [decide_eq_true_eq, decide_eq_false_iff_not, Bool.not_eq_true', Bool.not_eq_false'] at hi0 | skip
    have hl5 : data.length = 512 := by omega
    refine wp_skip ?_
    refine then_n ?_
    refine wp_seq ?_
    refine wp_region_lit ?_
    refine s_m hf rfl ?_; clear hf a; intro a hf
    refine s_do hf rfl (y_call (hf.eval rfl) (hf.evals rfl) Tryd.call53 ((at32_spec _ _ _ data (hs.oldB hr1) 8 (by omega) hl1).mono ?_))
    rintro e w1 ⟨rfl, hk⟩
    replace hs := hs.ext hk
    refine ⟨_, rfl, ?_⟩; clear hf a; intro a hf
    refine s_m hf rfl ?_; clear hf a; intro a hf
    refine s_do hf rfl (y_call (hf.eval rfl) (hf.evals rfl) Tryd.call53 ((at32_spec _ _ _ data (hs.oldB hr1) 12 (by omega) hl1).mono ?_))
    rintro e w1 ⟨rfl, hk⟩
    replace hs := hs.ext hk
    refine ⟨_, rfl, ?_⟩; clear hf a; intro a hf
    refine s_m hf rfl ?_; clear hf a; intro a hf
    refine s_do hf rfl (y_call (hf.eval rfl) (hf.evals rfl) Tryd.call53 ((at32_spec _ _ _ data (hs.oldB hr1) 16 (by omega) hl1).mono ?_))
    rintro e w1 ⟨rfl, hk⟩
    replace hs := hs.ext hk
    refine ⟨_, rfl, ?_⟩; clear hf a; intro a hf
    refine s_m hf rfl ?_; clear hf a; intro a hf
    refine s_do hf rfl (y_call (hf.eval rfl) (hf.evals rfl) Tryd.call53 ((at32_spec _ _ _ data (hs.oldB hr1) 20 (by omega) hl1).mono ?_))
    rintro e w1 ⟨rfl, hk⟩
    replace hs := hs.ext hk
    refine ⟨_, rfl, ?_⟩; clear hf a; intro a hf
    refine s_m hf rfl ?_; clear hf a; intro a hf
    refine s_do hf rfl (y_call (hf.eval rfl) (hf.evals rfl) Tryd.call53 ((at32_spec _ _ _ data (hs.oldB hr1) 24 (by omega) hl1).mono ?_))
    rintro e w1 ⟨rfl, hk⟩
    replace hs := hs.ext hk
    refine ⟨_, rfl, ?_⟩; clear hf a; intro a hf
    refine s_m hf rfl ?_; clear hf a; intro a hf
    refine s_do hf rfl (y_call (hf.eval rfl) (hf.evals rfl) Tryd.call53 ((at32_spec _ _ _ data (hs.oldB hr1) 28 (by omega) hl1).mono ?_))
    rintro e w1 ⟨rfl, hk⟩
    replace hs := hs.ext hk
    refine ⟨_, rfl, ?_⟩; clear hf a; intro a hf
    refine s_m hf rfl ?_; clear hf a; intro a hf
    refine s_do hf rfl (y_call (hf.eval rfl) (hf.evals rfl) Tryd.call53 ((at32_spec _ _ _ data (hs.oldB hr1) 32 (by omega) hl1).mono ?_))
    rintro e w1 ⟨rfl, hk⟩
    replace hs := hs.ext hk
    refine ⟨_, rfl, ?_⟩; clear hf a; intro a hf
    have hlast := rd32_lt data 32
    refine s_v hf (x_conv Tryd.underlying3 Tryd.underlying22 (hf.eval rfl)) ?_; clear hf a; intro a hf
    replace hf := hf.now (k := 25) (v' := .int .u32 ((rd32 data 32 : Nat) : Int)) rfl (by rw [wrap_u32]; congr 1; omega)
    refine s_r hf (x_build (v := .agg (slF (dsF data : Sl)).toArray) (hf.parts rfl) (fun w => by kernel_rfl) _) ?_; clear hf a; intro a hf
    refine s_do hf rfl (y_alloc hs Tryd.zeroValue24 ?_); clear hf hs a; intro b4 w hs a hf
    change St _ _ (cb b4 24 (slF zSl) :: _) at hs
    refine s_do0 hf rfl (y_storeAgg (cs := slF (dsF data : Sl)) hs (n := 7) (by kernel_rfl) (hf.eval rfl) (hf.eval rfl) (by simp [Value.oneCell', slF]) rfl rfl (.here _) ?_); clear hf hs a; intro w hs a hf
    refine s_nil ?_
    refine then_n ?_
    refine wp_seq ?_
    refine wp_region_lit ?_
    replace hs := hs.take (A := cb b4 24 (slF (dsF data : Sl))) (by first | exact .here _ | exact .there _ (.here _) | exact .there _ (.there _ (.here _)) | exact .there _ (.there _ (.there _ (.here _))) | exact .there _ (.there _ (.there _ (.there _ (.here _)))) | exact .there _ (.there _ (.there _ (.there _ (.there _ (.here _))))) | exact .there _ (.there _ (.there _ (.there _ (.there _ (.there _ (.here _)))))) | exact .there _ (.there _ (.there _ (.there _ (.there _ (.there _ (.there _ (.here _))))))) | exact .there _ (.there _ (.there _ (.there _ (.there _ (.there _ (.there _ (.there _ (.here _)))))))) | exact .there _ (.there _ (.there _ (.there _ (.there _ (.there _ (.there _ (.there _ (.there _ (.here _))))))))) | exact .there _ (.there _ (.there _ (.there _ (.there _ (.there _ (.there _ (.there _ (.there _ (.there _ (.here _)))))))))) | exact .there _ (.there _ (.there _ (.there _ (.there _ (.there _ (.there _ (.there _ (.there _ (.there _ (.there _ (.here _))))))))))))
    refine s_r hf (x_loadBlk hs ag24 (hf.eval rfl) rfl (by first | exact .here _ | exact .there _ (.here _) | exact .there _ (.there _ (.here _)) | exact .there _ (.there _ (.there _ (.here _))) | exact .there _ (.there _ (.there _ (.there _ (.here _)))) | exact .there _ (.there _ (.there _ (.there _ (.there _ (.here _))))) | exact .there _ (.there _ (.there _ (.there _ (.there _ (.there _ (.here _)))))) | exact .there _ (.there _ (.there _ (.there _ (.there _ (.there _ (.there _ (.here _))))))) | exact .there _ (.there _ (.there _ (.there _ (.there _ (.there _ (.there _ (.there _ (.here _)))))))) | exact .there _ (.there _ (.there _ (.there _ (.there _ (.there _ (.there _ (.there _ (.there _ (.here _))))))))))) ?_; clear hf a; intro a hf
    refine s_do hf rfl (y_call (hf.eval rfl) (hf.evals rfl) Tryd.call11 ((rencode_spec _ (dsF data : Sl) (rd32_lt data 32)).mono ?_))
    rintro e w1 ⟨g, cg, rfl, hj⟩
    replace hs := hs.join hj
    simp only [List.cons_append, List.nil_append] at hs
    refine ⟨_, rfl, ?_⟩; clear hf a; intro a hf
    refine s_m hf rfl ?_; clear hf a; intro a hf
    refine s_v hf (x_extract (hf.eval rfl) rfl) ?_; clear hf a; intro a hf
    refine s_v hf (x_extract (hf.eval rfl) rfl) ?_; clear hf a; intro a hf
    refine s_a hf rfl ?_; clear hf a; intro a hf
    refine s_a hf rfl ?_; clear hf a; intro a hf
    refine s_nil ?_
    refine then_n ?_
    refine wp_seq ?_
    refine wp_seq ?_
    refine wp_region_lit ?_
    refine s_m hf rfl ?_; clear hf a; intro a hf
    refine s_v hf (x_bin (hf.eval rfl) (hf.eval rfl) (r_ne _ _ _ _)) ?_; clear hf a; intro a hf
    refine s_m hf rfl ?_; clear hf a; intro a hf
    refine s_bool hf (k := 34) rfl (fun hg5_2 hf' => ?_) (fun hg5_2 hf' => ?_)
    · clear hf
      have hf := hf'
      clear hf'
      first | simp only [decide_eq_true_eq, decide_eq_false_iff_not, Bool.not_eq_true', Bool.not_eq_false'] at hg5_2 | skip
      refine s_pass hf rfl rfl ?_; clear hf a; intro a hf
      refine s_pass hf rfl rfl ?_; clear hf a; intro a hf
      refine s_pass hf rfl rfl ?_; clear hf a; intro a hf
      refine s_pass hf rfl rfl ?_; clear hf a; intro a hf
      refine s_v hf (x_pick_t (hf.eval rfl) (hf.eval rfl)) ?_; clear hf a; intro a hf
      refine s_nil ?_
      refine then_n ?_
      refine c_cond_t hf rfl rfl ?_
      have hno : decOk data = false := by
        unfold decOk
        by_cases h8 : data.length = 512
        · cases h9 : slOk (dsF data) with
          | false => simp
          | true =>
            obtain ⟨he1, he2⟩ := enc_ok h9
            first
            | exact absurd he1 hg5_2
            | (rw [he2] at hi1; rw [decide_eq_false hi1]; simp)
        · simp [h8]
      refine wp_seq ?_
      refine wp_region_lit ?_
      refine s_r hf (x_build (v := .agg (slF zSl).toArray) (hf.parts rfl) (fun w => by kernel_rfl) _) ?_; clear hf a; intro a hf
      replace hs := hs.take (A := cb b2 24 (slF zSl)) (by first | exact .here _ | exact .there _ (.here _) | exact .there _ (.there _ (.here _)) | exact .there _ (.there _ (.there _ (.here _))) | exact .there _ (.there _ (.there _ (.there _ (.here _)))) | exact .there _ (.there _ (.there _ (.there _ (.there _ (.here _))))) | exact .there _ (.there _ (.there _ (.there _ (.there _ (.there _ (.here _)))))) | exact .there _ (.there _ (.there _ (.there _ (.there _ (.there _ (.there _ (.here _))))))) | exact .there _ (.there _ (.there _ (.there _ (.there _ (.there _ (.there _ (.there _ (.here _)))))))) | exact .there _ (.there _ (.there _ (.there _ (.there _ (.there _ (.there _ (.there _ (.there _ (.here _))))))))) | exact .there _ (.there _ (.there _ (.there _ (.there _ (.there _ (.there _ (.there _ (.there _ (.there _ (.here _)))))))))) | exact .there _ (.there _ (.there _ (.there _ (.there _ (.there _ (.there _ (.there _ (.there _ (.there _ (.there _ (.here _))))))))))))
      refine s_do0 hf rfl (y_storeAgg (cs := slF zSl) hs (n := 7) (by kernel_rfl) (hf.eval rfl) (hf.eval rfl) (by simp [Value.oneCell', slF]) rfl rfl (.here _) ?_); clear hf hs a; intro w hs a hf
      refine s_a hf rfl ?_; clear hf a; intro a hf
      refine s_nil ?_
      refine then_n ?_
      refine wp_ret ?_
      refine then_r ?_
      refine r_2c hf Tryd.results17 rfl rfl hs ag24 rfl (.here _) ?_
      rw [(dec_no hno).1, (dec_no hno).2]
      exact ⟨rfl, hs.kept⟩
    · clear hf
      have hf := hf'
      clear hf'
      first | simp only [decide_eq_true_eq, decide_eq_false_iff_not, Bool.not_eq_true', Bool.not_eq_false'] at hg5_2 | skip
      refine s_do hf (wanted_of hf rfl rfl rfl) (.value (x_move (hf.eval rfl) _) ?_); clear hf a; intro a hf
      refine s_do hf (wanted_of hf rfl rfl rfl) (.value (x_move (hf.eval rfl) _) ?_); clear hf a; intro a hf
      replace hs := hs.take (A := slB 5 (.slice g (encV (dsF data : Sl)).length cg) (encV (dsF data : Sl))) (by first | exact .here _ | exact .there _ (.here _) | exact .there _ (.there _ (.here _)) | exact .there _ (.there _ (.there _ (.here _))) | exact .there _ (.there _ (.there _ (.there _ (.here _)))) | exact .there _ (.there _ (.there _ (.there _ (.there _ (.here _))))) | exact .there _ (.there _ (.there _ (.there _ (.there _ (.there _ (.here _)))))) | exact .there _ (.there _ (.there _ (.there _ (.there _ (.there _ (.there _ (.here _))))))) | exact .there _ (.there _ (.there _ (.there _ (.there _ (.there _ (.there _ (.there _ (.here _)))))))) | exact .there _ (.there _ (.there _ (.there _ (.there _ (.there _ (.there _ (.there _ (.there _ (.here _))))))))) | exact .there _ (.there _ (.there _ (.there _ (.there _ (.there _ (.there _ (.there _ (.there _ (.there _ (.here _)))))))))) | exact .there _ (.there _ (.there _ (.there _ (.there _ (.there _ (.there _ (.there _ (.there _ (.there _ (.there _ (.here _))))))))))))
      have hel := encV_len (dsF data)
      refine s_do hf (wanted_of hf rfl rfl rfl) (y_call (hf.eval rfl) (hf.evals rfl) Tryd.call54 ((rsame_spec _ _ _ (encV (dsF data : Sl)) (hs.rdB (.here _) fun h => slB_rd) _ _ data (hs.oldB hr1) (by omega)).mono ?_))
      rintro e w1 ⟨rfl, hk⟩
      replace hs := hs.ext hk
      refine ⟨_, rfl, ?_⟩; clear hf a; intro a hf
      refine s_do hf (wanted_of hf rfl rfl rfl) (.value (x_not (hf.eval rfl) _) ?_); clear hf a; intro a hf
      refine s_v hf (x_pick_f (hf.eval rfl) (hf.eval rfl)) ?_; clear hf a; intro a hf
      refine s_nil ?_
      refine then_n ?_
      refine c_cond hf rfl (fun hi1 => ?_) (fun hi1 => ?_)
      · first | simp only [decide_eq_true_eq, decide_eq_false_iff_not, Bool.not_eq_true', Bool.not_eq_false'] at hi1 | skip
        have hno : decOk data = false := by
          unfold decOk
          by_cases h8 : data.length = 512
          · cases h9 : slOk (dsF data) with
            | false => simp
            | true =>
              obtain ⟨he1, he2⟩ := enc_ok h9
              first
              | exact absurd he1 hg5_2
              | (rw [he2] at hi1; rw [decide_eq_false hi1]; simp)
          · simp [h8]
        refine wp_seq ?_
        refine wp_region_lit ?_
        refine s_r hf (x_build (v := .agg (slF zSl).toArray) (hf.parts rfl) (fun w => by kernel_rfl) _) ?_; clear hf a; intro a hf
        replace hs := hs.take (A := cb b2 24 (slF zSl)) (by first | exact .here _ | exact .there _ (.here _) | exact .there _ (.there _ (.here _)) | exact .there _ (.there _ (.there _ (.here _))) | exact .there _ (.there _ (.there _ (.there _ (.here _)))) | exact .there _ (.there _ (.there _ (.there _ (.there _ (.here _))))) | exact .there _ (.there _ (.there _ (.there _ (.there _ (.there _ (.here _)))))) | exact .there _ (.there _ (.there _ (.there _ (.there _ (.there _ (.there _ (.here _))))))) | exact .there _ (.there _ (.there _ (.there _ (.there _ (.there _ (.there _ (.there _ (.here _)))))))) | exact .there _ (.there _ (.there _ (.there _ (.there _ (.there _ (.there _ (.there _ (.there _ (.here _))))))))) | exact .there _ (.there _ (.there _ (.there _ (.there _ (.there _ (.there _ (.there _ (.there _ (.there _ (.here _)))))))))) | exact .there _ (.there _ (.there _ (.there _ (.there _ (.there _ (.there _ (.there _ (.there _ (.there _ (.there _ (.here _))))))))))))
        refine s_do0 hf rfl (y_storeAgg (cs := slF zSl) hs (n := 7) (by kernel_rfl) (hf.eval rfl) (hf.eval rfl) (by simp [Value.oneCell', slF]) rfl rfl (.here _) ?_); clear hf hs a; intro w hs a hf
        refine s_a hf rfl ?_; clear hf a; intro a hf
        refine s_nil ?_
        refine then_n ?_
        refine wp_ret ?_
        refine then_r ?_
        refine r_2c hf Tryd.results17 rfl rfl hs ag24 rfl (.here _) ?_
        rw [(dec_no hno).1, (dec_no hno).2]
        exact ⟨rfl, hs.kept⟩
      · first | simp only [decide_eq_true_eq, decide_eq_false_iff_not, Bool.not_eq_true', Bool.not_eq_false'] at hi1 | skip
        have hsk : slOk (dsF data) = true := by
          cases h9 : slOk (dsF data) with
          | true => rfl
          | false => exact absurd (enc_no h9).1 (by rw [hg5_2]; decide)
        have hse : secS (dsF data) = data := by rw [← (enc_ok hsk).2]; exact hi1
        have hyes : decOk data = true := by unfold decOk; rw [hsk, decide_eq_true hl5, decide_eq_true hse]; rfl
        refine wp_skip ?_
        refine then_n ?_
        refine wp_seq ?_
        refine wp_region_lit ?_
        replace hs := hs.take (A := cb b4 24 (slF (dsF data : Sl))) (by first | exact .here _ | exact .there _ (.here _) | exact .there _ (.there _ (.here _)) | exact .there _ (.there _ (.there _ (.here _))) | exact .there _ (.there _ (.there _ (.there _ (.here _)))) | exact .there _ (.there _ (.there _ (.there _ (.there _ (.here _))))) | exact .there _ (.there _ (.there _ (.there _ (.there _ (.there _ (.here _)))))) | exact .there _ (.there _ (.there _ (.there _ (.there _ (.there _ (.there _ (.here _))))))) | exact .there _ (.there _ (.there _ (.there _ (.there _ (.there _ (.there _ (.there _ (.here _)))))))) | exact .there _ (.there _ (.there _ (.there _ (.there _ (.there _ (.there _ (.there _ (.there _ (.here _))))))))) | exact .there _ (.there _ (.there _ (.there _ (.there _ (.there _ (.there _ (.there _ (.there _ (.there _ (.here _)))))))))) | exact .there _ (.there _ (.there _ (.there _ (.there _ (.there _ (.there _ (.there _ (.there _ (.there _ (.there _ (.here _))))))))))))
        refine s_r hf (x_loadBlk hs ag24 (hf.eval rfl) rfl (by first | exact .here _ | exact .there _ (.here _) | exact .there _ (.there _ (.here _)) | exact .there _ (.there _ (.there _ (.here _))) | exact .there _ (.there _ (.there _ (.there _ (.here _)))) | exact .there _ (.there _ (.there _ (.there _ (.there _ (.here _))))) | exact .there _ (.there _ (.there _ (.there _ (.there _ (.there _ (.here _)))))) | exact .there _ (.there _ (.there _ (.there _ (.there _ (.there _ (.there _ (.here _))))))) | exact .there _ (.there _ (.there _ (.there _ (.there _ (.there _ (.there _ (.there _ (.here _)))))))) | exact .there _ (.there _ (.there _ (.there _ (.there _ (.there _ (.there _ (.there _ (.there _ (.here _))))))))))) ?_; clear hf a; intro a hf
        replace hs := hs.take (A := cb b2 24 (slF zSl)) (by first | exact .here _ | exact .there _ (.here _) | exact .there _ (.there _ (.here _)) | exact .there _ (.there _ (.there _ (.here _))) | exact .there _ (.there _ (.there _ (.there _ (.here _)))) | exact .there _ (.there _ (.there _ (.there _ (.there _ (.here _))))) | exact .there _ (.there _ (.there _ (.there _ (.there _ (.there _ (.here _)))))) | exact .there _ (.there _ (.there _ (.there _ (.there _ (.there _ (.there _ (.here _))))))) | exact .there _ (.there _ (.there _ (.there _ (.there _ (.there _ (.there _ (.there _ (.here _)))))))) | exact .there _ (.there _ (.there _ (.there _ (.there _ (.there _ (.there _ (.there _ (.there _ (.here _))))))))) | exact .there _ (.there _ (.there _ (.there _ (.there _ (.there _ (.there _ (.there _ (.there _ (.there _ (.here _)))))))))) | exact .there _ (.there _ (.there _ (.there _ (.there _ (.there _ (.there _ (.there _ (.there _ (.there _ (.there _ (.here _))))))))))))
        refine s_do0 hf rfl (y_storeAgg (cs := slF (dsF data : Sl)) hs (n := 7) (by kernel_rfl) (hf.eval rfl) (hf.eval rfl) (by simp [Value.oneCell', slF]) rfl rfl (.here _) ?_); clear hf hs a; intro w hs a hf
        refine s_a hf rfl ?_; clear hf a; intro a hf
        refine s_nil ?_
        refine then_n ?_
        refine wp_ret ?_
        refine r_2c hf Tryd.results17 rfl rfl hs ag24 rfl (.here _) ?_
        rw [(dec_yes hyes).1, (dec_yes hyes).2]
        exact ⟨rfl, hs.kept⟩

theorem preS {h : Heaplet} {b c : Nat} {l m : List UInt8} {n : Nat} (hn : n = l.length + m.length) (hr : RdB h (.slice (some ⟨b, 0, none⟩) n c) (l ++ m)) : RdB h (.slice (some ⟨b, 0, none⟩) l.length c) l := by
  subst hn
  have h0 := RdB.sub (i := 0) (j := l.length) hr (by simp) (by omega) (by simp)
  have e : subA (some (⟨b, 0, none⟩ : Addr)) c 0 1 = some ⟨b, 0, none⟩ := by unfold subA; split <;> simp [Addr.add]
  rw [e] at h0
  simpa using h0

theorem decodes_spec (w0 : World) (hT : Tab 0 (hp w0)) (a1 : Option Addr) (c1 : Nat) (data : List UInt8) (hr1 : RdB (hp w0) (.slice a1 data.length c1) data) (hl1 : data.length ≤ 140737488351232) : Calls Tryd.prog 4 #[.slice a1 data.length c1] w0 fun e w' => e = .returned (.bool true) ∧ Kept w0 w' None_ := by
  have hs := St.start w0 None_
  refine c_enter (N := 39) Tryd.func4 rfl Tryd.ntmps4 (by simp) ?_
  intro a hf
  refine wp_seq ?_
  refine wp_region_lit ?_
  refine s_a hf rfl ?_; clear hf a; intro a hf
  refine s_nil ?_
  refine then_n ?_
  refine wp_seq ?_
  refine wp_region_lit ?_
  refine s_m hf rfl ?_; clear hf a; intro a hf
  refine s_do hf rfl (y_call (hf.eval rfl) (hf.evals rfl) Tryd.call15 ((framed_spec w0 _ _ data hr1 hl1).mono ?_))
  rintro e w1 ⟨b1, cf, rfl, hcf, hj⟩
  replace hs := hs.join hj
  simp only [List.cons_append, List.nil_append] at hs
  refine ⟨_, rfl, ?_⟩; clear hf a; intro a hf
  refine s_a hf rfl ?_; clear hf a; intro a hf
  refine s_nil ?_
  refine then_n ?_
  refine wp_seq ?_
  refine wp_region_lit ?_
  refine s_m hf rfl ?_; clear hf a; intro a hf
  refine s_m hf rfl ?_; clear hf a; intro a hf
  refine s_v hf (x_len Tryd.underlying25 (hf.eval rfl)) ?_; clear hf a; intro a hf
  refine s_v hf (x_slice_hi sl25 (hf.eval rfl) (hf.eval rfl)  (by omega) (by omega)) ?_; clear hf a; intro a hf
  replace hf := hf.now (k := 14) (v' := .slice (some ⟨b1, 0, none⟩) data.length cf) rfl (rfl)
  refine s_a hf rfl ?_; clear hf a; intro a hf
  refine s_nil ?_
  refine then_n ?_
  refine wp_seq ?_
  refine wp_region_lit ?_
  refine s_m hf rfl ?_; clear hf a; intro a hf
  refine s_do hf rfl (y_call (hf.eval rfl) (hf.evals rfl) Tryd.call16 ((decode_spec _ (hT.kept hs.kept) _ cf data (preS rfl (hs.rdB (.here _) fun h => slB_rd)) hl1).mono ?_))
  rintro e w1 ⟨rfl, hk⟩
  replace hs := hs.ext hk
  refine ⟨_, rfl, ?_⟩; clear hf a; intro a hf
  refine s_m hf rfl ?_; clear hf a; intro a hf
  refine s_v hf (x_extract (hf.eval rfl) rfl) ?_; clear hf a; intro a hf
  refine s_v hf (x_extract (hf.eval rfl) rfl) ?_; clear hf a; intro a hf
  refine s_do hf rfl (y_alloc hs Tryd.zeroValue24 ?_); clear hf hs a; intro b5 w hs a hf
  change St _ _ (cb b5 24 (slF zSl) :: _) at hs
  refine s_do0 hf rfl (y_storeAgg (cs := slF (decV data)) hs (n := 7) (by kernel_rfl) (hf.eval rfl) (hf.eval rfl) (by simp [Value.oneCell', slF]) rfl rfl (.here _) ?_); clear hf hs a; intro w hs a hf
  refine s_a hf rfl ?_; clear hf a; intro a hf
  refine s_nil ?_
  refine then_n ?_
  refine wp_seq ?_
  refine wp_region_lit ?_
  refine s_m hf rfl ?_; clear hf a; intro a hf
  refine s_do hf rfl (y_call (hf.eval rfl) (hf.evals rfl) Tryd.call17 ((rdecode_spec _ _ _ data (hs.oldB hr1) hl1).mono ?_))
  rintro e w1 ⟨rfl, hk⟩
  replace hs := hs.ext hk
  refine ⟨_, rfl, ?_⟩; clear hf a; intro a hf
  refine s_m hf rfl ?_; clear hf a; intro a hf
  refine s_v hf (x_extract (hf.eval rfl) rfl) ?_; clear hf a; intro a hf
  refine s_v hf (x_extract (hf.eval rfl) rfl) ?_; clear hf a; intro a hf
  refine s_do hf rfl (y_alloc hs Tryd.zeroValue24 ?_); clear hf hs a; intro b7 w hs a hf
  change St _ _ (cb b7 24 (slF zSl) :: _) at hs
  refine s_do0 hf rfl (y_storeAgg (cs := slF (decV data)) hs (n := 7) (by kernel_rfl) (hf.eval rfl) (hf.eval rfl) (by simp [Value.oneCell', slF]) rfl rfl (.here _) ?_); clear hf hs a; intro w hs a hf
  refine s_a hf rfl ?_; clear hf a; intro a hf
  refine s_nil ?_
  refine then_n ?_
  refine wp_seq ?_
  refine wp_region_lit ?_
  replace hs := hs.take (A := cb b5 24 (slF (decV data))) (by first | exact .here _ | exact .there _ (.here _) | exact .there _ (.there _ (.here _)) | exact .there _ (.there _ (.there _ (.here _))) | exact .there _ (.there _ (.there _ (.there _ (.here _)))) | exact .there _ (.there _ (.there _ (.there _ (.there _ (.here _))))) | exact .there _ (.there _ (.there _ (.there _ (.there _ (.there _ (.here _)))))) | exact .there _ (.there _ (.there _ (.there _ (.there _ (.there _ (.there _ (.here _))))))) | exact .there _ (.there _ (.there _ (.there _ (.there _ (.there _ (.there _ (.there _ (.here _)))))))) | exact .there _ (.there _ (.there _ (.there _ (.there _ (.there _ (.there _ (.there _ (.there _ (.here _))))))))) | exact .there _ (.there _ (.there _ (.there _ (.there _ (.there _ (.there _ (.there _ (.there _ (.there _ (.here _)))))))))) | exact .there _ (.there _ (.there _ (.there _ (.there _ (.there _ (.there _ (.there _ (.there _ (.there _ (.there _ (.here _))))))))))))
  refine s_r hf (x_loadBlk hs ag24 (hf.eval rfl) rfl (by first | exact .here _ | exact .there _ (.here _) | exact .there _ (.there _ (.here _)) | exact .there _ (.there _ (.there _ (.here _))) | exact .there _ (.there _ (.there _ (.there _ (.here _)))) | exact .there _ (.there _ (.there _ (.there _ (.there _ (.here _))))) | exact .there _ (.there _ (.there _ (.there _ (.there _ (.there _ (.here _)))))) | exact .there _ (.there _ (.there _ (.there _ (.there _ (.there _ (.there _ (.here _))))))) | exact .there _ (.there _ (.there _ (.there _ (.there _ (.there _ (.there _ (.there _ (.here _)))))))) | exact .there _ (.there _ (.there _ (.there _ (.there _ (.there _ (.there _ (.there _ (.there _ (.here _))))))))))) ?_; clear hf a; intro a hf
  replace hs := hs.take (A := cb b7 24 (slF (decV data))) (by first | exact .here _ | exact .there _ (.here _) | exact .there _ (.there _ (.here _)) | exact .there _ (.there _ (.there _ (.here _))) | exact .there _ (.there _ (.there _ (.there _ (.here _)))) | exact .there _ (.there _ (.there _ (.there _ (.there _ (.here _))))) | exact .there _ (.there _ (.there _ (.there _ (.there _ (.there _ (.here _)))))) | exact .there _ (.there _ (.there _ (.there _ (.there _ (.there _ (.there _ (.here _))))))) | exact .there _ (.there _ (.there _ (.there _ (.there _ (.there _ (.there _ (.there _ (.here _)))))))) | exact .there _ (.there _ (.there _ (.there _ (.there _ (.there _ (.there _ (.there _ (.there _ (.here _))))))))) | exact .there _ (.there _ (.there _ (.there _ (.there _ (.there _ (.there _ (.there _ (.there _ (.there _ (.here _)))))))))) | exact .there _ (.there _ (.there _ (.there _ (.there _ (.there _ (.there _ (.there _ (.there _ (.there _ (.there _ (.here _))))))))))))
  refine s_r hf (x_loadBlk hs ag24 (hf.eval rfl) rfl (by first | exact .here _ | exact .there _ (.here _) | exact .there _ (.there _ (.here _)) | exact .there _ (.there _ (.there _ (.here _))) | exact .there _ (.there _ (.there _ (.there _ (.here _)))) | exact .there _ (.there _ (.there _ (.there _ (.there _ (.here _))))) | exact .there _ (.there _ (.there _ (.there _ (.there _ (.there _ (.here _)))))) | exact .there _ (.there _ (.there _ (.there _ (.there _ (.there _ (.there _ (.here _))))))) | exact .there _ (.there _ (.there _ (.there _ (.there _ (.there _ (.there _ (.there _ (.here _)))))))) | exact .there _ (.there _ (.there _ (.there _ (.there _ (.there _ (.there _ (.there _ (.there _ (.here _))))))))))) ?_; clear hf a; intro a hf
  refine s_v hf (x_sealEq (s := decV data) (t := decV data) (hf.eval rfl) (hf.eval rfl) rfl) ?_; clear hf a; intro a hf
  refine s_m hf rfl ?_; clear hf a; intro a hf
  replace hf := hf.now (k := 28) (v' := .bool true) rfl (congrArg Value.bool rfl)
  refine s_do hf (wanted_of hf rfl rfl rfl) (.value (x_move (hf.eval rfl) _) ?_); clear hf a; intro a hf
  refine s_do hf (wanted_of hf rfl rfl rfl) (y_call (hf.eval rfl) (hf.evals rfl) Tryd.call13 ((num_spec _ _).mono ?_))
  rintro e w1 ⟨rfl, hw⟩
  subst hw
  refine ⟨_, rfl, ?_⟩; clear hf a; intro a hf
  refine s_do hf (wanted_of hf rfl rfl rfl) (.value (x_move (hf.eval rfl) _) ?_); clear hf a; intro a hf
  refine s_do hf (wanted_of hf rfl rfl rfl) (.value (x_bin (hf.eval rfl) (hf.eval rfl) (r_eq _ _ _ _) _) ?_); clear hf a; intro a hf
  refine s_v hf (x_pick_t (hf.eval rfl) (hf.eval rfl)) ?_; clear hf a; intro a hf
  refine s_m hf rfl ?_; clear hf a; intro a hf
  replace hf := hf.now (k := 34) (v' := .bool true) rfl (congrArg Value.bool (by simp))
  refine s_do hf (wanted_of hf rfl rfl rfl) (.value (x_move (hf.eval rfl) _) ?_); clear hf a; intro a hf
  refine s_do hf (wanted_of hf rfl rfl rfl) (.value (x_move (hf.eval rfl) _) ?_); clear hf a; intro a hf
  replace hs := hs.take (A := slB 5 (.slice (some ⟨b1, 0, none⟩) (data.length + 4) cf) (data ++ [0xC0, 0xC1, 0xC2, 0xC3])) (by first | exact .here _ | exact .there _ (.here _) | exact .there _ (.there _ (.here _)) | exact .there _ (.there _ (.there _ (.here _))) | exact .there _ (.there _ (.there _ (.there _ (.here _)))) | exact .there _ (.there _ (.there _ (.there _ (.there _ (.here _))))) | exact .there _ (.there _ (.there _ (.there _ (.there _ (.there _ (.here _)))))) | exact .there _ (.there _ (.there _ (.there _ (.there _ (.there _ (.there _ (.here _))))))) | exact .there _ (.there _ (.there _ (.there _ (.there _ (.there _ (.there _ (.there _ (.here _)))))))) | exact .there _ (.there _ (.there _ (.there _ (.there _ (.there _ (.there _ (.there _ (.there _ (.here _))))))))) | exact .there _ (.there _ (.there _ (.there _ (.there _ (.there _ (.there _ (.there _ (.there _ (.there _ (.here _)))))))))) | exact .there _ (.there _ (.there _ (.there _ (.there _ (.there _ (.there _ (.there _ (.there _ (.there _ (.there _ (.here _))))))))))))
  refine s_do hf (wanted_of hf rfl rfl rfl) (y_call (hf.eval rfl) (hf.evals rfl) Tryd.call18 ((whole_spec _ _ _ _ _ _ data (hs.oldB hr1) rfl (hs.rdB (.here _) fun h hb => slB_rd hb) hl1).mono ?_))
  rintro e w1 ⟨rfl, hk⟩
  replace hs := hs.ext hk
  refine ⟨_, rfl, ?_⟩; clear hf a; intro a hf
  refine s_v hf (x_pick_t (hf.eval rfl) (hf.eval rfl)) ?_; clear hf a; intro a hf
  refine s_a hf rfl ?_; clear hf a; intro a hf
  refine s_nil ?_
  refine then_n ?_
  refine wp_ret ?_
  refine r_1 hf Tryd.results4 rfl ?_
  exact ⟨by simp, hs.kept⟩

end Go.Proofs.YtehakfbfjpolfaaDoor
