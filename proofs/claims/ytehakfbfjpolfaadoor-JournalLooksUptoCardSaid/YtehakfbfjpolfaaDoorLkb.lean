/- The body of a journal, read: Back. -/
import Derived.Test.YtehakfbfjpolfaaDoorVX
import Derived.Test.YtehakfbfjpolfaaDoorLka
import Derived.Test.YtehakfbfjpolfaaDoorProg
import Derived.Test.YtehakfbfjpolfaaDoorFacts
set_option maxRecDepth 100000
set_option linter.all false
namespace Go.Proofs.YtehakfbfjpolfaaDoor
open Go Vw
theorem back_spec (w0 : World) (s : Sl) (hsu : s.2.2.2.2.2.2 < 4294967296) (hso : 0 ≤ s.2.2.1 ∧ s.2.2.1 ≤ 16777216) (hsc : 0 ≤ s.2.2.2.2.1 ∧ s.2.2.2.2.1 ≤ 4294967295) (a1 : Option Addr) (c1 : Nat) (body : List UInt8) (hr1 : RdB (hp w0) (.slice a1 body.length c1) body) (hl1 : body.length ≤ 16777216) : Calls Tryd.prog 59 #[.agg (slF s).toArray, .slice a1 body.length c1] w0 fun e w' => ∃ (v : Value) (k : Nat), e = .returned (.tuple #[v, .bool (bkOk s body)]) ∧ (bkOk s body = true → k = s.2.2.2.2.1.toNat) ∧ St ⟨w0, None_⟩ w' [sl 91 2 v (spL body k).length ((spL body k).flatMap spF)] := by
  have hs := St.start w0 None_
  obtain ⟨N, hN⟩ : ∃ N : Nat, s.2.2.2.2.1 = (N : Int) := ⟨s.2.2.2.2.1.toNat, by omega⟩
  have hNt : s.2.2.2.2.1.toNat = N := by omega
  refine c_enter (N := 76) Tryd.func59 rfl Tryd.ntmps59 (by simp) ?_
  intro a hf
  refine wp_seq ?_
  refine wp_region_lit ?_
  refine s_do hf rfl (y_box hs (hf.eval rfl) ?_); clear hf hs a; intro b2 w hs a hf
  replace hs : St _ w (cb b2 24 (slF s) :: _) := hs
  refine s_a hf rfl ?_; clear hf a; intro a hf
  refine s_a hf rfl ?_; clear hf a; intro a hf
  refine s_nil ?_
  refine then_n ?_
  refine wp_seq ?_
  refine wp_seq ?_
  refine c_draw hs (fun w' => w'.cell? ⟨b2, 6, none⟩ = some (.int .u32 (s.2.2.2.2.2.2 : Int))) [.held, .eff, .held, .held, .held, .held, .held, .read, .held, .held, .held, .held, .held] (by kernel_rfl) (by kernel_rfl) (fun _ _ hs => hs.cell (k := 6) (.here _) rfl) ?_
  clear hs; intro w hs hC hw
  refine m_held hf rfl (fun w' _ => x_move (hf.eval rfl) w') ?_; clear hf a; intro a hf
  refine m_eff hf rfl (y_call (hf.eval rfl) (hf.evals rfl) Tryd.call46 ((refSum_spec _ _ _ body (hs.oldB hr1) (by omega)).mono ?_))
  rintro e w1 ⟨rfl, hk⟩
  replace hs := hs.ext hk
  refine ⟨_, rfl, ⟨hs.cell (k := 6) (.here _) rfl, ?_⟩⟩; clear hf a; intro a hf
  refine m_held hf rfl (fun w' _ => x_fieldAddr fo24_6 (hf.eval rfl) w') ?_; clear hf a; intro a hf
  refine m_held hf rfl (fun w' hc => x_load sc22 (hf.eval rfl) hc) ?_; clear hf a; intro a hf
  refine m_held hf rfl (fun w' _ => x_bin (hf.eval rfl) (hf.eval rfl) (r_ne _ _ _ _) w') ?_; clear hf a; intro a hf
  refine m_held hf rfl (fun w' _ => x_move (hf.eval rfl) w') ?_; clear hf a; intro a hf
  refine s_bool hf (k := 17) rfl (fun hg1_5 hf' => ?_) (fun hg1_5 hf' => ?_)
  · clear hf
    have hf := hf'
    clear hf'
    first | simp only [decide_eq_true_eq, decide_eq_false_iff_not, Bool.not_eq_true', Bool.not_eq_false'] at hg1_5 | skip
    refine m_pass hf rfl rfl ?_; clear hf a; intro a hf
    refine m_pass hf rfl rfl ?_; clear hf a; intro a hf
    refine m_pass hf rfl rfl ?_; clear hf a; intro a hf
    refine m_pass hf rfl rfl ?_; clear hf a; intro a hf
    refine m_pass hf rfl rfl ?_; clear hf a; intro a hf
    refine m_pass hf rfl rfl ?_; clear hf a; intro a hf
    refine m_held hf rfl (fun w' _ => x_pick_t (hf.eval rfl) (hf.eval rfl) w') ?_; clear hf a; intro a hf
    refine m_nil ?_
    refine then_n ?_
    refine c_cond_t hf rfl rfl ?_
    refine wp_seq ?_
    refine wp_region_lit ?_
    refine s_a hf rfl ?_; clear hf a; intro a hf
    refine s_a hf rfl ?_; clear hf a; intro a hf
    refine s_nil ?_
    refine then_n ?_
    refine wp_ret ?_
    refine then_r ?_
    refine r_2 hf Tryd.results59 rfl rfl ?_
    have hno : bkOk s body = false := by unfold bkOk; first | (rw [decide_eq_false (show ¬ crcU 0 body = s.2.2.2.2.2.2 by omega)]; simp; done) | (rw [decide_eq_false (show ¬ 8 * s.2.2.2.2.1 ≤ (body.length : Int) by omega)]; simp; done)
    rw [hno]
    exact ⟨.slice none 0 0, 0, rfl, fun h => (by cases h), (St.keep [] _ hs).emp (fun _ => ⟨rfl, .inl ⟨rfl, rfl⟩⟩)⟩
  · clear hf
    have hf := hf'
    clear hf'
    first | simp only [decide_eq_true_eq, decide_eq_false_iff_not, Bool.not_eq_true', Bool.not_eq_false'] at hg1_5 | skip
    refine m_held hf (wanted_of hf rfl rfl rfl) (fun w' _ => x_fieldAddr fo24_4 (hf.eval rfl) w') ?_; clear hf a; intro a hf
    refine m_read hf (wanted_of hf rfl rfl rfl) (x_load sc3 (hf.eval rfl) (by first | exact hs.cell (.here _) rfl | exact hs.cell (.there _ (.here _)) rfl | exact hs.cell (.there _ (.there _ (.here _))) rfl | exact hs.cell (.there _ (.there _ (.there _ (.here _)))) rfl | exact hs.cell (.there _ (.there _ (.there _ (.there _ (.here _))))) rfl | exact hs.cell (.there _ (.there _ (.there _ (.there _ (.there _ (.here _)))))) rfl | exact hs.cell (.there _ (.there _ (.there _ (.there _ (.there _ (.there _ (.here _))))))) rfl | exact hs.cell (.there _ (.there _ (.there _ (.there _ (.there _ (.there _ (.there _ (.here _)))))))) rfl)) ?_; clear hf a; intro a hf
    refine m_held hf (wanted_of hf rfl rfl rfl) (fun w' _ => x_bin (hf.eval rfl) (hf.eval rfl) (r_muli _ (by omega) (by omega)) w') ?_; clear hf a; intro a hf
    refine m_held hf (wanted_of hf rfl rfl rfl) (fun w' _ => x_move (hf.eval rfl) w') ?_; clear hf a; intro a hf
    refine m_held hf (wanted_of hf rfl rfl rfl) (fun w' _ => x_len Tryd.underlying25 (hf.eval rfl) w') ?_; clear hf a; intro a hf
    refine m_held hf (wanted_of hf rfl rfl rfl) (fun w' _ => x_bin (hf.eval rfl) (hf.eval rfl) (r_gt _ _ _ _) w') ?_; clear hf a; intro a hf
    refine m_held hf rfl (fun w' _ => x_pick_f (hf.eval rfl) (hf.eval rfl) w') ?_; clear hf a; intro a hf
    refine m_nil ?_
    refine then_n ?_
    refine c_cond hf rfl (fun hi0 => ?_) (fun hi0 => ?_)
    · first | simp only [decide_eq_true_eq, decide_eq_false_iff_not, Bool.not_eq_true', Bool.not_eq_false'] at hi0 | skip
      refine wp_seq ?_
      refine wp_region_lit ?_
      refine s_a hf rfl ?_; clear hf a; intro a hf
      refine s_a hf rfl ?_; clear hf a; intro a hf
      refine s_nil ?_
      refine then_n ?_
      refine wp_ret ?_
      refine then_r ?_
      refine r_2 hf Tryd.results59 rfl rfl ?_
      have hno : bkOk s body = false := by unfold bkOk; first | (rw [decide_eq_false (show ¬ crcU 0 body = s.2.2.2.2.2.2 by omega)]; simp; done) | (rw [decide_eq_false (show ¬ 8 * s.2.2.2.2.1 ≤ (body.length : Int) by omega)]; simp; done)
      rw [hno]
      exact ⟨.slice none 0 0, 0, rfl, fun h => (by cases h), (St.keep [] _ hs).emp (fun _ => ⟨rfl, .inl ⟨rfl, rfl⟩⟩)⟩
    · first | simp only [decide_eq_true_eq, decide_eq_false_iff_not, Bool.not_eq_true', Bool.not_eq_false'] at hi0 | skip
      refine wp_skip ?_
      refine then_n ?_
      refine wp_seq ?_
      refine wp_region_lit ?_
      refine s_a hf rfl ?_; clear hf a; intro a hf
      refine s_nil ?_
      refine then_n ?_
      refine wp_seq ?_
      refine wp_region_lit ?_
      refine s_a hf rfl ?_; clear hf a; intro a hf
      refine s_nil ?_
      refine then_n ?_
      refine wp_seq ?_
      refine wp_region_lit ?_
      refine s_a hf rfl ?_; clear hf a; intro a hf
      refine s_nil ?_
      refine then_n ?_
      refine wp_seq ?_
      refine wp_seq ?_
      refine wp_region_lit ?_
      refine s_a hf rfl ?_; clear hf a; intro a hf
      refine s_nil ?_
      refine then_n ?_
      refine wp_block ?_
      have hc1 : crcU 0 body = s.2.2.2.2.2.2 := by omega
      have hc2 : 8 * N ≤ body.length := by omega
      replace hs := hs.emp (A := sl 91 2 (.slice none 0 0) (spL body 0).length ((spL body 0).flatMap spF)) (fun _ => ⟨rfl, .inl ⟨rfl, rfl⟩⟩)
      refine c_loop (L0 := [(1, _), (2, _)]) (fun M w m => ∃ (i en t : Nat) (v : Value), M = [(6, v), (7, .int .i64 (en : Int)), (8, .int .i64 (t : Int)), (9, .int .i64 (i : Int))] ∧ N - i = m ∧ i ≤ N ∧ wlk s.2.2.1 body i = some (en, t) ∧ St ⟨w0, None_⟩ w [sl 91 2 v (spL body i).length ((spL body i).flatMap spF), cb b2 24 (slF s)]) (M0 := _) (⟨0, 0, 0, _, rfl, rfl, Nat.zero_le _, rfl, hs⟩) (hf.sub ⟨rfl, rfl, rfl, rfl, rfl, rfl, trivial⟩) ?_
      clear hf hs a
      rintro M m a w ⟨i, en, t, v, rfl, rfl, hi, hwk, hs⟩ hf
      have hle := wlk_le hso.1 hwk
      have hsl : (spL body i).length = i := by unfold spL; simp
      refine wp_seq ?_
      refine wp_seq ?_
      refine wp_region_lit ?_
      refine s_m hf rfl ?_; clear hf a; intro a hf
      refine s_v hf (x_fieldAddr fo24_4 (hf.eval rfl)) ?_; clear hf a; intro a hf
      refine s_r hf (x_load sc3 (hf.eval rfl) (by first | exact hs.cell (.here _) rfl | exact hs.cell (.there _ (.here _)) rfl | exact hs.cell (.there _ (.there _ (.here _))) rfl | exact hs.cell (.there _ (.there _ (.there _ (.here _)))) rfl | exact hs.cell (.there _ (.there _ (.there _ (.there _ (.here _))))) rfl | exact hs.cell (.there _ (.there _ (.there _ (.there _ (.there _ (.here _)))))) rfl | exact hs.cell (.there _ (.there _ (.there _ (.there _ (.there _ (.there _ (.here _))))))) rfl | exact hs.cell (.there _ (.there _ (.there _ (.there _ (.there _ (.there _ (.there _ (.here _)))))))) rfl)) ?_; clear hf a; intro a hf
      replace hf := hf.now (k := 27) (v' := .int .i64 (N : Int)) rfl (by rw [← hN])
      refine s_v hf (x_bin (hf.eval rfl) (hf.eval rfl) (r_lt _ _ _ _)) ?_; clear hf a; intro a hf
      refine s_nil ?_
      refine then_n ?_
      refine c_cond hf rfl (fun hi1 => ?_) (fun hi1 => ?_)
      · simp only [decide_eq_true_eq, decide_eq_false_iff_not, Bool.not_eq_true', Bool.not_eq_false', Bool.not_eq_true, Int.not_lt, Int.not_le] at hi1
        have hlt : i < N := by omega
        have ha1 := rd32_lt body (8 * i)
        have ha2 := rd32_lt body (8 * i + 4)
        have hA : spA body i = rd32 body (8 * i) := rfl
        have hB : spN body i = rd32 body (8 * i + 4) := rfl
        refine wp_skip ?_
        refine then_n ?_
        refine wp_seq ?_
        refine wp_block ?_
        refine wp_seq ?_
        refine wp_region_lit ?_
        refine s_m hf rfl ?_; clear hf a; intro a hf
        refine s_m hf rfl ?_; clear hf a; intro a hf
        refine s_v hf (x_bin (hf.eval rfl) (hf.eval rfl) (r_muli _ (by omega) (by omega))) ?_; clear hf a; intro a hf
        replace hf := hf.now (k := 33) (v' := .int .i64 ((8 * i : Nat) : Int)) rfl (by congr 1 <;> omega)
        refine s_do hf rfl (y_call (hf.eval rfl) (hf.evals rfl) Tryd.call53 ((at32_spec _ _ _ body (hs.oldB hr1) (8 * i) (by omega) (by omega)).mono ?_))
        rintro e w1 ⟨rfl, hk⟩
        replace hs := hs.ext hk
        refine ⟨_, rfl, ?_⟩; clear hf a; intro a hf
        refine s_a hf rfl ?_; clear hf a; intro a hf
        replace hf := hf.now (k := 10) (v' := .int .i64 ((spA body i : Nat) : Int)) rfl (rfl)
        refine s_nil ?_
        refine then_n ?_
        refine wp_seq ?_
        refine wp_region_lit ?_
        refine s_m hf rfl ?_; clear hf a; intro a hf
        refine s_m hf rfl ?_; clear hf a; intro a hf
        refine s_v hf (x_bin (hf.eval rfl) (hf.eval rfl) (r_muli _ (by omega) (by omega))) ?_; clear hf a; intro a hf
        replace hf := hf.now (k := 37) (v' := .int .i64 ((8 * i : Nat) : Int)) rfl (by congr 1 <;> omega)
        refine s_v hf (x_bin (hf.eval rfl) (hf.eval rfl) (r_addi _ (by omega) (by omega))) ?_; clear hf a; intro a hf
        replace hf := hf.now (k := 38) (v' := .int .i64 ((8 * i + 4 : Nat) : Int)) rfl (by congr 1 <;> omega)
        refine s_do hf rfl (y_call (hf.eval rfl) (hf.evals rfl) Tryd.call53 ((at32_spec _ _ _ body (hs.oldB hr1) (8 * i + 4) (by omega) (by omega)).mono ?_))
        rintro e w1 ⟨rfl, hk⟩
        replace hs := hs.ext hk
        refine ⟨_, rfl, ?_⟩; clear hf a; intro a hf
        refine s_a hf rfl ?_; clear hf a; intro a hf
        replace hf := hf.now (k := 11) (v' := .int .i64 ((spN body i : Nat) : Int)) rfl (rfl)
        refine s_nil ?_
        refine then_n ?_
        refine wp_seq ?_
        refine wp_seq ?_
        refine wp_region_lit ?_
        refine s_m hf rfl ?_; clear hf a; intro a hf
        refine s_v hf (x_bin (hf.eval rfl) (hf.eval rfl) (r_lt _ _ _ _)) ?_; clear hf a; intro a hf
        refine s_m hf rfl ?_; clear hf a; intro a hf
        refine s_bool hf (k := 42) rfl (fun hg11_2 hf' => ?_) (fun hg11_2 hf' => ?_)
        · clear hf
          have hf := hf'
          clear hf'
          first | simp only [decide_eq_true_eq, decide_eq_false_iff_not, Bool.not_eq_true', Bool.not_eq_false'] at hg11_2 | skip
          refine s_pass hf rfl rfl ?_; clear hf a; intro a hf
          refine s_pass hf rfl rfl ?_; clear hf a; intro a hf
          refine s_pass hf rfl rfl ?_; clear hf a; intro a hf
          refine s_v hf (x_pick_t (hf.eval rfl) (hf.eval rfl)) ?_; clear hf a; intro a hf
          refine s_m hf rfl ?_; clear hf a; intro a hf
          refine s_pass hf rfl rfl ?_; clear hf a; intro a hf
          refine s_pass hf rfl rfl ?_; clear hf a; intro a hf
          refine s_pass hf rfl rfl ?_; clear hf a; intro a hf
          refine s_pass hf rfl rfl ?_; clear hf a; intro a hf
          refine s_pass hf rfl rfl ?_; clear hf a; intro a hf
          refine s_pass hf rfl rfl ?_; clear hf a; intro a hf
          refine s_v hf (x_pick_t (hf.eval rfl) (hf.eval rfl)) ?_; clear hf a; intro a hf
          refine s_nil ?_
          refine then_n ?_
          refine c_cond_t hf rfl rfl ?_
          refine wp_seq ?_
          refine wp_region_lit ?_
          refine s_a hf rfl ?_; clear hf a; intro a hf
          refine s_a hf rfl ?_; clear hf a; intro a hf
          refine s_nil ?_
          refine then_n ?_
          refine wp_ret ?_
          refine then_r (blk_r (then_r (then_r (blk_r (then_r ?_)))))
          refine r_2 hf Tryd.results59 rfl rfl ?_
          have hw := wlk_none (wlk_bad hwk (show spN body i < 1 ∨ spA body i < en ∨ s.2.2.1 < ((spA body i + spN body i : Nat) : Int) by omega)) (N - (i + 1))
          rw [show i + 1 + (N - (i + 1)) = N by omega] at hw
          have hno : bkOk s body = false := by unfold bkOk; rw [hNt, hw]; simp
          rw [hno]
          exact ⟨.slice none 0 0, 0, rfl, fun h => (by cases h), (St.keep [] _ hs).emp (fun _ => ⟨rfl, .inl ⟨rfl, rfl⟩⟩)⟩
        · clear hf
          have hf := hf'
          clear hf'
          first | simp only [decide_eq_true_eq, decide_eq_false_iff_not, Bool.not_eq_true', Bool.not_eq_false'] at hg11_2 | skip
          refine s_do hf (wanted_of hf rfl rfl rfl) (.value (x_move (hf.eval rfl) _) ?_); clear hf a; intro a hf
          refine s_do hf (wanted_of hf rfl rfl rfl) (.value (x_move (hf.eval rfl) _) ?_); clear hf a; intro a hf
          refine s_do hf (wanted_of hf rfl rfl rfl) (.value (x_bin (hf.eval rfl) (hf.eval rfl) (r_lt _ _ _ _) _) ?_); clear hf a; intro a hf
          refine s_v hf (x_pick_f (hf.eval rfl) (hf.eval rfl)) ?_; clear hf a; intro a hf
          refine s_m hf rfl ?_; clear hf a; intro a hf
          refine s_bool hf (k := 47) rfl (fun hg11_7 hf' => ?_) (fun hg11_7 hf' => ?_)
          · clear hf
            have hf := hf'
            clear hf'
            first | simp only [decide_eq_true_eq, decide_eq_false_iff_not, Bool.not_eq_true', Bool.not_eq_false'] at hg11_7 | skip
            refine s_pass hf rfl rfl ?_; clear hf a; intro a hf
            refine s_pass hf rfl rfl ?_; clear hf a; intro a hf
            refine s_pass hf rfl rfl ?_; clear hf a; intro a hf
            refine s_pass hf rfl rfl ?_; clear hf a; intro a hf
            refine s_pass hf rfl rfl ?_; clear hf a; intro a hf
            refine s_pass hf rfl rfl ?_; clear hf a; intro a hf
            refine s_v hf (x_pick_t (hf.eval rfl) (hf.eval rfl)) ?_; clear hf a; intro a hf
            refine s_nil ?_
            refine then_n ?_
            refine c_cond_t hf rfl rfl ?_
            refine wp_seq ?_
            refine wp_region_lit ?_
            refine s_a hf rfl ?_; clear hf a; intro a hf
            refine s_a hf rfl ?_; clear hf a; intro a hf
            refine s_nil ?_
            refine then_n ?_
            refine wp_ret ?_
            refine then_r (blk_r (then_r (then_r (blk_r (then_r ?_)))))
            refine r_2 hf Tryd.results59 rfl rfl ?_
            have hw := wlk_none (wlk_bad hwk (show spN body i < 1 ∨ spA body i < en ∨ s.2.2.1 < ((spA body i + spN body i : Nat) : Int) by omega)) (N - (i + 1))
            rw [show i + 1 + (N - (i + 1)) = N by omega] at hw
            have hno : bkOk s body = false := by unfold bkOk; rw [hNt, hw]; simp
            rw [hno]
            exact ⟨.slice none 0 0, 0, rfl, fun h => (by cases h), (St.keep [] _ hs).emp (fun _ => ⟨rfl, .inl ⟨rfl, rfl⟩⟩)⟩
          · clear hf
            have hf := hf'
            clear hf'
            first | simp only [decide_eq_true_eq, decide_eq_false_iff_not, Bool.not_eq_true', Bool.not_eq_false'] at hg11_7 | skip
            refine s_do hf (wanted_of hf rfl rfl rfl) (.value (x_move (hf.eval rfl) _) ?_); clear hf a; intro a hf
            refine s_do hf (wanted_of hf rfl rfl rfl) (.value (x_move (hf.eval rfl) _) ?_); clear hf a; intro a hf
            refine s_do hf (wanted_of hf rfl rfl rfl) (.value (x_bin (hf.eval rfl) (hf.eval rfl) (r_addi _ (by omega) (by omega)) _) ?_); clear hf a; intro a hf
            refine s_do hf (wanted_of hf rfl rfl rfl) (.value (x_fieldAddr fo24_2 (hf.eval rfl) _) ?_); clear hf a; intro a hf
            refine s_do hf (wanted_of hf rfl rfl rfl) (.value (x_load sc3 (hf.eval rfl) (by first | exact hs.cell (.here _) rfl | exact hs.cell (.there _ (.here _)) rfl | exact hs.cell (.there _ (.there _ (.here _))) rfl | exact hs.cell (.there _ (.there _ (.there _ (.here _)))) rfl | exact hs.cell (.there _ (.there _ (.there _ (.there _ (.here _))))) rfl | exact hs.cell (.there _ (.there _ (.there _ (.there _ (.there _ (.here _)))))) rfl | exact hs.cell (.there _ (.there _ (.there _ (.there _ (.there _ (.there _ (.here _))))))) rfl | exact hs.cell (.there _ (.there _ (.there _ (.there _ (.there _ (.there _ (.there _ (.here _)))))))) rfl)) ?_); clear hf a; intro a hf
            refine s_do hf (wanted_of hf rfl rfl rfl) (.value (x_bin (hf.eval rfl) (hf.eval rfl) (r_gt _ _ _ _) _) ?_); clear hf a; intro a hf
            refine s_v hf (x_pick_f (hf.eval rfl) (hf.eval rfl)) ?_; clear hf a; intro a hf
            refine s_nil ?_
            refine then_n ?_
            refine c_cond hf rfl (fun hi2 => ?_) (fun hi2 => ?_)
            · first | simp only [decide_eq_true_eq, decide_eq_false_iff_not, Bool.not_eq_true', Bool.not_eq_false'] at hi2 | skip
              refine wp_seq ?_
              refine wp_region_lit ?_
              refine s_a hf rfl ?_; clear hf a; intro a hf
              refine s_a hf rfl ?_; clear hf a; intro a hf
              refine s_nil ?_
              refine then_n ?_
              refine wp_ret ?_
              refine then_r (blk_r (then_r (then_r (blk_r (then_r ?_)))))
              refine r_2 hf Tryd.results59 rfl rfl ?_
              have hw := wlk_none (wlk_bad hwk (show spN body i < 1 ∨ spA body i < en ∨ s.2.2.1 < ((spA body i + spN body i : Nat) : Int) by omega)) (N - (i + 1))
              rw [show i + 1 + (N - (i + 1)) = N by omega] at hw
              have hno : bkOk s body = false := by unfold bkOk; rw [hNt, hw]; simp
              rw [hno]
              exact ⟨.slice none 0 0, 0, rfl, fun h => (by cases h), (St.keep [] _ hs).emp (fun _ => ⟨rfl, .inl ⟨rfl, rfl⟩⟩)⟩
            · first | simp only [decide_eq_true_eq, decide_eq_false_iff_not, Bool.not_eq_true', Bool.not_eq_false'] at hi2 | skip
              have hnb : ¬ (spN body i < 1 ∨ spA body i < en ∨ s.2.2.1 < ((spA body i + spN body i : Nat) : Int)) := by omega
              refine wp_skip ?_
              refine then_n ?_
              refine wp_seq ?_
              refine wp_region_lit ?_
              refine s_m hf rfl ?_; clear hf a; intro a hf
              refine s_m hf rfl ?_; clear hf a; intro a hf
              refine s_v hf (x_bin (hf.eval rfl) (hf.eval rfl) (r_addi _ (by omega) (by omega))) ?_; clear hf a; intro a hf
              replace hf := hf.now (k := 57) (v' := .int .i64 ((spA body i + spN body i : Nat) : Int)) rfl (by congr 1)
              refine s_a hf rfl ?_; clear hf a; intro a hf
              refine s_nil ?_
              refine then_n ?_
              refine wp_seq ?_
              refine wp_region_lit ?_
              refine s_m hf rfl ?_; clear hf a; intro a hf
              refine s_m hf rfl ?_; clear hf a; intro a hf
              refine s_v hf (x_bin (hf.eval rfl) (hf.eval rfl) (r_addi _ (by omega) (by omega))) ?_; clear hf a; intro a hf
              replace hf := hf.now (k := 60) (v' := .int .i64 ((t + spN body i : Nat) : Int)) rfl (by congr 1)
              refine s_a hf rfl ?_; clear hf a; intro a hf
              refine s_nil ?_
              refine then_n ?_
              refine wp_region_lit ?_
              refine s_m hf rfl ?_; clear hf a; intro a hf
              refine s_m hf rfl ?_; clear hf a; intro a hf
              refine s_m hf rfl ?_; clear hf a; intro a hf
              refine s_r hf (x_build (v := .agg #[.int .i64 ((spA body i : Nat) : Int), .int .i64 ((spA body i + spN body i : Nat) : Int)]) (hf.parts rfl) (fun w => by kernel_rfl) _) ?_; clear hf a; intro a hf
              refine s_do hf rfl (y_lit (xs := [.tmp 64]) hs sl87 (hf.evals rfl) rfl (by simp [Value.cells]) (by decide) ?_); clear hf hs a; intro b7 w hs a hf
              refine s_do hf rfl (y_append (n := (spL body i).length) (m := 1) (ys := [.int .i64 ((spA body i : Nat) : Int), .int .i64 ((spA body i + spN body i : Nat) : Int)]) hs sl87 (hf.eval rfl) (hf.eval rfl) (.there _ (.here _)) (hs.rd (.here _) fun h hb => rd_rows hb rfl) (by simp [Value.oneCell']) (by omega) (by rw [maxLen_eq]; omega) ?_); clear hf hs a; intro v2 w hs hv a hf
              replace hs := hs.lose (.there _ (.here _))
              have hsp := spL_succ body i
              have hsq : (spL body (i + 1)).length = (spL body i).length + 1 := by rw [hsp]; simp
              replace hs : St ⟨w0, None_⟩ w [sl 91 2 v2 (spL body (i + 1)).length ((spL body (i + 1)).flatMap spF), cb b2 24 (slF s)] := by rw [hsq, hsp, List.flatMap_append]; exact hs
              refine s_a hf rfl ?_; clear hf a; intro a hf
              refine s_nil ?_
              refine blk_n ?_
              refine then_n ?_
              refine wp_region_lit ?_
              refine s_m hf rfl ?_; clear hf a; intro a hf
              refine s_v hf (x_bin (hf.eval rfl) (hf.eval rfl) (r_addi _ (by omega) (by omega))) ?_; clear hf a; intro a hf
              refine s_a hf rfl ?_; clear hf a; intro a hf
              refine s_nil ?_
              exact ⟨_, _, ⟨i + 1, spA body i + spN body i, t + spN body i, _, rfl, rfl, by omega, wlk_good hwk hnb, hs⟩, by omega, hf.sub ⟨rfl, rfl, rfl, rfl, rfl, rfl, trivial⟩⟩
      · simp only [decide_eq_true_eq, decide_eq_false_iff_not, Bool.not_eq_true', Bool.not_eq_false', Bool.not_eq_true, Int.not_lt, Int.not_le] at hi1
        refine wp_exit ?_
        refine then_x ?_
        refine then_x ?_
        refine blk_x ?_
        refine then_n ?_
        refine wp_seq ?_
        refine c_draw hs (fun _ => True) [.held, .held, .read, .held, .held, .held, .held, .held, .held, .held, .held] (by kernel_rfl) (by kernel_rfl) (fun _ _ _ => trivial) ?_
        clear hs; intro w hs hC hw
        refine m_held hf rfl (fun w' _ => x_move (hf.eval rfl) w') ?_; clear hf a; intro a hf
        refine m_held hf rfl (fun w' _ => x_fieldAddr fo24_4 (hf.eval rfl) w') ?_; clear hf a; intro a hf
        refine m_read hf rfl (x_load sc3 (hf.eval rfl) (by first | exact hs.cell (.here _) rfl | exact hs.cell (.there _ (.here _)) rfl | exact hs.cell (.there _ (.there _ (.here _))) rfl | exact hs.cell (.there _ (.there _ (.there _ (.here _)))) rfl | exact hs.cell (.there _ (.there _ (.there _ (.there _ (.here _))))) rfl | exact hs.cell (.there _ (.there _ (.there _ (.there _ (.there _ (.here _)))))) rfl | exact hs.cell (.there _ (.there _ (.there _ (.there _ (.there _ (.there _ (.here _))))))) rfl | exact hs.cell (.there _ (.there _ (.there _ (.there _ (.there _ (.there _ (.there _ (.here _)))))))) rfl)) ?_; clear hf a; intro a hf
        refine m_held hf rfl (fun w' _ => x_bin (hf.eval rfl) (hf.eval rfl) (r_muli _ (by omega) (by omega)) w') ?_; clear hf a; intro a hf
        refine m_held hf rfl (fun w' _ => x_move (hf.eval rfl) w') ?_; clear hf a; intro a hf
        refine m_held hf rfl (fun w' _ => x_bin (hf.eval rfl) (hf.eval rfl) (r_addi _ (by omega) (by omega)) w') ?_; clear hf a; intro a hf
        refine m_held hf rfl (fun w' _ => x_move (hf.eval rfl) w') ?_; clear hf a; intro a hf
        refine m_held hf rfl (fun w' _ => x_len Tryd.underlying25 (hf.eval rfl) w') ?_; clear hf a; intro a hf
        refine m_held hf rfl (fun w' _ => x_bin (hf.eval rfl) (hf.eval rfl) (r_eq _ _ _ _) w') ?_; clear hf a; intro a hf
        refine m_held hf rfl (fun w' _ => x_assign (hf.eval rfl) w') ?_; clear hf a; intro a hf
        refine m_held hf rfl (fun w' _ => x_assign (hf.eval rfl) w') ?_; clear hf a; intro a hf
        refine m_nil ?_
        refine then_n ?_
        refine wp_ret ?_
        refine r_2 hf Tryd.results59 rfl rfl ?_
        obtain rfl : i = N := by omega
        have hyes : bkOk s body = decide (8 * s.2.2.2.2.1 + (t : Int) = (body.length : Int)) := by unfold bkOk; rw [hNt, hwk, decide_eq_true hc1, decide_eq_true (show 8 * s.2.2.2.2.1 ≤ (body.length : Int) by omega)]; simp only [Bool.true_and]; exact decide_eq_decide.2 (by omega)
        rw [hyes]
        exact ⟨v, i, rfl, fun _ => hNt.symm, St.keep [_] _ hs⟩

end Go.Proofs.YtehakfbfjpolfaaDoor
