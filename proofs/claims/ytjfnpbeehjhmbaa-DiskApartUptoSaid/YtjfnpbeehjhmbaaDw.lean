/- The disk of the program: WriteAt, Truncate, Sync. -/
import Derived.Test.YtjfnpbeehjhmbaaVN
import Derived.Test.YtjfnpbeehjhmbaaDl
import Derived.Test.YtjfnpbeehjhmbaaProg
import Derived.Test.YtjfnpbeehjhmbaaFacts
set_option maxRecDepth 100000
set_option linter.all false
namespace Go.Proofs.Ytjfnpbeehjhmbaa
open Go Vw
theorem dWrite_spec (σ : Sig) (w : World) (R : List Asrt) (p : Nat) (s : DS) (hs : St σ w (diskA 78 83 5 3 p s :: R)) (off : Int) (ad : Option Addr) (cd : Nat) (data : List UInt8) (hr : Rdy σ R (.slice ad data.length cd) data) (hdl : data.length ≤ 140737488351232) (ho : DOk s) (hcl : s.calls ≤ 4611686018427387904) (hpc : s.pcs.length ≤ 1099511600000) (hsl : s.sizes.length ≤ 1099511600000) : Calls Try.prog 28 #[.pointer (some ⟨p, 0, none⟩), .int .i64 off, .slice ad data.length cd] w fun e w' => e = .returned (.int .i64 (wrS s off data).1) ∧ St σ w' (diskA 78 83 5 3 p (wrS s off data).2 :: R) := by
  have hroom0 := ho.room0
  have hroom1 := ho.room1
  have hnow1 := ho.now
  obtain ⟨⟨v1, v2, m, v4, es, clk⟩, hm, hg, hs⟩ := diskA_open hs
  dsimp only at hm hg hs
  obtain ⟨a1, c1, rfl, hc1⟩ := slB_shape (hs.take (.there _ (.here _)))
  obtain ⟨a2, c2, rfl, hc2⟩ := slB_shape (hs.take (.there _ (.there _ (.here _))))
  obtain ⟨a4, c4, rfl⟩ := sl_shape (hs.take (.there _ (.there _ (.there _ (.there _ (.there _ (.here _)))))))
  refine c_enter (N := 87) Try.func28 rfl Try.ntmps28 (by simp) ?_
  intro a hf
  refine wp_seq ?_
  refine wp_region_lit ?_
  refine s_a hf rfl ?_; clear hf a; intro a hf
  refine s_nil ?_
  refine then_n ?_
  refine wp_seq ?_
  refine wp_block ?_
  refine wp_seq ?_
  refine wp_region_lit ?_
  refine s_m hf rfl ?_; clear hf a; intro a hf
  refine s_v hf (x_eqNil Try.underlying23 (hf.eval rfl) (hf.eval rfl)) ?_; clear hf a; intro a hf
  replace hf := hf.now (k := 10) (v' := .bool false) rfl rfl
  refine s_a hf rfl ?_; clear hf a; intro a hf
  refine s_nil ?_
  refine then_n ?_
  refine c_cond_f hf rfl rfl ?_
  refine wp_seq ?_
  refine wp_region_lit ?_
  refine s_m hf rfl ?_; clear hf a; intro a hf
  refine s_v hf (x_nilCheck (hf.eval rfl)) ?_; clear hf a; intro a hf
  refine s_v hf (x_fieldAddr fo78_7 (hf.eval rfl)) ?_; clear hf a; intro a hf
  refine s_r hf (x_load sc4 (hf.eval rfl) (by first | exact hs.cell (.here _) rfl | exact hs.cell (.there _ (.here _)) rfl | exact hs.cell (.there _ (.there _ (.here _))) rfl | exact hs.cell (.there _ (.there _ (.there _ (.here _)))) rfl | exact hs.cell (.there _ (.there _ (.there _ (.there _ (.here _))))) rfl | exact hs.cell (.there _ (.there _ (.there _ (.there _ (.there _ (.here _)))))) rfl)) ?_; clear hf a; intro a hf
  refine s_a hf rfl ?_; clear hf a; intro a hf
  refine s_nil ?_
  refine then_n ?_
  refine c_cond hf rfl (fun hi1 => ?_) (fun hi1 => ?_)
  · refine wp_seq ?_
    refine wp_region_lit ?_
    refine s_a hf rfl ?_; clear hf a; intro a hf
    refine s_nil ?_
    refine then_n ?_
    refine wp_ret ?_
    refine blk_r (then_r ?_)
    refine r_1 hf Try.results28 rfl ?_
    rw [wrS_dead hi1]
    exact ⟨rfl, diskA_close (x := ⟨_, _, m, _, es, clk⟩) hm hg hs⟩
  · refine wp_seq ?_
    refine wp_region_lit ?_
    refine s_m hf rfl ?_; clear hf a; intro a hf
    refine s_v hf (x_bin (hf.eval rfl) (hf.eval rfl) (r_lt _ _ _ _)) ?_; clear hf a; intro a hf
    refine s_a hf rfl ?_; clear hf a; intro a hf
    refine s_nil ?_
    refine then_n ?_
    refine c_cond hf rfl (fun hi2 => ?_) (fun hi2 => ?_)
    · simp only [decide_eq_true_eq, decide_eq_false_iff_not, Bool.not_eq_true', Bool.not_eq_false', Bool.not_eq_true, Int.not_lt, Int.not_le] at hi2
      refine wp_seq ?_
      refine wp_region_lit ?_
      refine s_a hf rfl ?_; clear hf a; intro a hf
      refine s_nil ?_
      refine then_n ?_
      refine wp_ret ?_
      refine blk_r (then_r ?_)
      refine r_1 hf Try.results28 rfl ?_
      rw [wrS_neg hi1 (by omega)]
      exact ⟨rfl, diskA_close (x := ⟨_, _, m, _, es, clk⟩) hm hg hs⟩
    · simp only [decide_eq_true_eq, decide_eq_false_iff_not, Bool.not_eq_true', Bool.not_eq_false', Bool.not_eq_true, Int.not_lt, Int.not_le] at hi2
      refine wp_seq ?_
      refine wp_region_lit ?_
      refine s_m hf rfl ?_; clear hf a; intro a hf
      refine s_v hf (x_len Try.underlying22 (hf.eval rfl)) ?_; clear hf a; intro a hf
      refine s_m hf rfl ?_; clear hf a; intro a hf
      refine s_v hf (x_nilCheck (hf.eval rfl)) ?_; clear hf a; intro a hf
      refine s_v hf (x_fieldAddr fo78_0 (hf.eval rfl)) ?_; clear hf a; intro a hf
      refine s_r hf (x_load sc3 (hf.eval rfl) (by first | exact hs.cell (.here _) rfl | exact hs.cell (.there _ (.here _)) rfl | exact hs.cell (.there _ (.there _ (.here _))) rfl | exact hs.cell (.there _ (.there _ (.there _ (.here _)))) rfl | exact hs.cell (.there _ (.there _ (.there _ (.there _ (.here _))))) rfl | exact hs.cell (.there _ (.there _ (.there _ (.there _ (.there _ (.here _)))))) rfl)) ?_; clear hf a; intro a hf
      refine s_v hf (x_bin (hf.eval rfl) (hf.eval rfl) (r_gt _ _ _ _)) ?_; clear hf a; intro a hf
      refine s_m hf rfl ?_; clear hf a; intro a hf
      refine s_bool hf (k := 27) rfl (fun hg7_7 hf' => ?_) (fun hg7_7 hf' => ?_)
      · clear hf
        have hf := hf'
        clear hf'
        simp only [decide_eq_true_eq, decide_eq_false_iff_not] at hg7_7
        refine s_pass hf rfl rfl ?_; clear hf a; intro a hf
        refine s_pass hf rfl rfl ?_; clear hf a; intro a hf
        refine s_pass hf rfl rfl ?_; clear hf a; intro a hf
        refine s_pass hf rfl rfl ?_; clear hf a; intro a hf
        refine s_pass hf rfl rfl ?_; clear hf a; intro a hf
        refine s_pass hf rfl rfl ?_; clear hf a; intro a hf
        refine s_pass hf rfl rfl ?_; clear hf a; intro a hf
        refine s_pass hf rfl rfl ?_; clear hf a; intro a hf
        refine s_pass hf rfl rfl ?_; clear hf a; intro a hf
        refine s_v hf (x_pick_t (hf.eval rfl) (hf.eval rfl)) ?_; clear hf a; intro a hf
        refine s_a hf rfl ?_; clear hf a; intro a hf
        refine s_nil ?_
        refine then_n ?_
        refine c_cond_t hf rfl rfl ?_
        refine wp_seq ?_
        refine wp_region_lit ?_
        refine s_a hf rfl ?_; clear hf a; intro a hf
        refine s_nil ?_
        refine then_n ?_
        refine wp_ret ?_
        refine blk_r (then_r ?_)
        refine r_1 hf Try.results28 rfl ?_
        rw [wrS_big hi1 (by omega) (by omega)]
        exact ⟨rfl, diskA_close (x := ⟨_, _, m, _, es, clk⟩) hm hg hs⟩
      · clear hf
        have hf := hf'
        clear hf'
        simp only [decide_eq_true_eq, decide_eq_false_iff_not] at hg7_7
        refine s_do hf (wanted_of hf rfl rfl rfl) (.value (x_move (hf.eval rfl) _) ?_); clear hf a; intro a hf
        refine s_do hf (wanted_of hf rfl rfl rfl) (.value (x_move (hf.eval rfl) _) ?_); clear hf a; intro a hf
        refine s_do hf (wanted_of hf rfl rfl rfl) (.value (x_nilCheck (hf.eval rfl) _) ?_); clear hf a; intro a hf
        refine s_do hf (wanted_of hf rfl rfl rfl) (.value (x_fieldAddr fo78_0 (hf.eval rfl) _) ?_); clear hf a; intro a hf
        refine s_do hf (wanted_of hf rfl rfl rfl) (.value (x_load sc3 (hf.eval rfl) (by first | exact hs.cell (.here _) rfl | exact hs.cell (.there _ (.here _)) rfl | exact hs.cell (.there _ (.there _ (.here _))) rfl | exact hs.cell (.there _ (.there _ (.there _ (.here _)))) rfl | exact hs.cell (.there _ (.there _ (.there _ (.there _ (.here _))))) rfl | exact hs.cell (.there _ (.there _ (.there _ (.there _ (.there _ (.here _)))))) rfl)) ?_); clear hf a; intro a hf
        refine s_do hf (wanted_of hf rfl rfl rfl) (.value (x_move (hf.eval rfl) _) ?_); clear hf a; intro a hf
        refine s_do hf (wanted_of hf rfl rfl rfl) (.value (x_len Try.underlying22 (hf.eval rfl) _) ?_); clear hf a; intro a hf
        refine s_do hf (wanted_of hf rfl rfl rfl) (.value (x_bin (hf.eval rfl) (hf.eval rfl) (r_subi _ (by omega) (by omega)) _) ?_); clear hf a; intro a hf
        refine s_do hf (wanted_of hf rfl rfl rfl) (.value (x_bin (hf.eval rfl) (hf.eval rfl) (r_gt _ _ _ _) _) ?_); clear hf a; intro a hf
        refine s_v hf (x_pick_f (hf.eval rfl) (hf.eval rfl)) ?_; clear hf a; intro a hf
        refine s_a hf rfl ?_; clear hf a; intro a hf
        refine s_nil ?_
        refine then_n ?_
        refine c_cond hf rfl (fun hi3 => ?_) (fun hi3 => ?_)
        · simp only [decide_eq_true_eq, decide_eq_false_iff_not, Bool.not_eq_true', Bool.not_eq_false', Bool.not_eq_true, Int.not_lt, Int.not_le] at hi3
          refine wp_seq ?_
          refine wp_region_lit ?_
          refine s_a hf rfl ?_; clear hf a; intro a hf
          refine s_nil ?_
          refine then_n ?_
          refine wp_ret ?_
          refine blk_r (then_r ?_)
          refine r_1 hf Try.results28 rfl ?_
          rw [wrS_big hi1 (by omega) (by omega)]
          exact ⟨rfl, diskA_close (x := ⟨_, _, m, _, es, clk⟩) hm hg hs⟩
        · simp only [decide_eq_true_eq, decide_eq_false_iff_not, Bool.not_eq_true', Bool.not_eq_false', Bool.not_eq_true, Int.not_lt, Int.not_le] at hi3
          refine wp_seq ?_
          refine wp_region_lit ?_
          refine s_m hf rfl ?_; clear hf a; intro a hf
          replace hs := diskA_close (s := s) (x := ⟨_, _, m, _, es, clk⟩) hm hg hs
          refine s_do hf rfl (y_call (hf.eval rfl) (hf.evals rfl) Try.call54 ((spend_spec _ _ _ p s hs ho.fuse.2 ho.fuse.1 hcl).mono ?_))
          rintro e w1 ⟨rfl, hs⟩
          obtain ⟨t, ht⟩ : ∃ t, t = spent s := ⟨_, rfl⟩
          rw [← ht] at hs
          obtain ⟨htn, htr, htd, htp, hts⟩ := spent_now s
          rw [← ht] at htn htr htd htp hts
          have hto := spent_ok ho
          rw [← ht] at hto
          have htn2 : t.now.length = s.now.length := by rw [htn]
          have htp2 : t.pcs.length = s.pcs.length := by rw [htp]
          have hts2 : t.sizes.length = s.sizes.length := by rw [hts]
          refine ⟨_, rfl, ?_⟩; clear hf a; intro a hf
          refine s_v hf (x_not (hf.eval rfl)) ?_; clear hf a; intro a hf
          refine s_a hf rfl ?_; clear hf a; intro a hf
          refine s_nil ?_
          refine then_n ?_
          refine c_cond hf rfl (fun hi4 => ?_) (fun hi4 => ?_)
          · simp only [Bool.not_eq_true', Bool.not_eq_false', decide_eq_true_eq, decide_eq_false_iff_not, ne_eq, Decidable.not_not] at hi4
            refine wp_seq ?_
            refine wp_region_lit ?_
            refine s_a hf rfl ?_; clear hf a; intro a hf
            refine s_nil ?_
            refine then_n ?_
            refine wp_ret ?_
            refine blk_r (then_r ?_)
            refine r_1 hf Try.results28 rfl ?_
            rw [wrS_fuse hi1 (by omega) (by omega) hi4, ← ht]
            exact ⟨rfl, hs⟩
          · simp only [Bool.not_eq_true', Bool.not_eq_false', decide_eq_true_eq, decide_eq_false_iff_not, ne_eq, Decidable.not_not] at hi4
            refine wp_skip ?_
            refine blk_n ?_
            refine then_n ?_
            refine wp_seq ?_
            refine wp_seq ?_
            refine wp_region_lit ?_
            refine s_m hf rfl ?_; clear hf a; intro a hf
            refine s_v hf (x_len Try.underlying22 (hf.eval rfl)) ?_; clear hf a; intro a hf
            refine s_v hf (x_bin (hf.eval rfl) (hf.eval rfl) (r_eq _ _ _ _)) ?_; clear hf a; intro a hf
            refine s_nil ?_
            refine then_n ?_
            refine c_cond hf rfl (fun hi5 => ?_) (fun hi5 => ?_)
            · simp only [decide_eq_true_eq, decide_eq_false_iff_not, Bool.not_eq_true', Bool.not_eq_false', Bool.not_eq_true, Int.not_lt, Int.not_le] at hi5
              refine wp_seq ?_
              refine wp_region_lit ?_
              refine s_a hf rfl ?_; clear hf a; intro a hf
              refine s_nil ?_
              refine then_n ?_
              refine wp_ret ?_
              refine then_r ?_
              refine r_1 hf Try.results28 rfl ?_
              rw [wrS_none hi1 (by omega) (by omega) hi4 (List.eq_nil_of_length_eq_zero (by omega)), ← ht]
              exact ⟨rfl, hs⟩
            · simp only [decide_eq_true_eq, decide_eq_false_iff_not, Bool.not_eq_true', Bool.not_eq_false', Bool.not_eq_true, Int.not_lt, Int.not_le] at hi5
              have hd : data ≠ [] := by intro h9; subst h9; simp at hi5
              obtain ⟨⟨v1, v2, m, v4, es, clk⟩, hm, hg, hs⟩ := diskA_open hs
              dsimp only at hm hg hs
              obtain ⟨a1, c1, rfl, hc1⟩ := slB_shape (hs.take (.there _ (.here _)))
              obtain ⟨a2, c2, rfl, hc2⟩ := slB_shape (hs.take (.there _ (.there _ (.here _))))
              obtain ⟨a4, c4, rfl⟩ := sl_shape (hs.take (.there _ (.there _ (.there _ (.there _ (.there _ (.here _)))))))
              refine wp_skip ?_
              refine then_n ?_
              refine wp_seq ?_
              refine wp_region_lit ?_
              refine s_m hf rfl ?_; clear hf a; intro a hf
              refine s_v hf (x_nilCheck (hf.eval rfl)) ?_; clear hf a; intro a hf
              refine s_v hf (x_fieldAddr fo78_1 (hf.eval rfl)) ?_; clear hf a; intro a hf
              refine s_r hf (x_load sc22 (hf.eval rfl) (by first | exact hs.cell (.here _) rfl | exact hs.cell (.there _ (.here _)) rfl | exact hs.cell (.there _ (.there _ (.here _))) rfl | exact hs.cell (.there _ (.there _ (.there _ (.here _)))) rfl | exact hs.cell (.there _ (.there _ (.there _ (.there _ (.here _))))) rfl | exact hs.cell (.there _ (.there _ (.there _ (.there _ (.there _ (.here _)))))) rfl)) ?_; clear hf a; intro a hf
              refine s_v hf (x_len Try.underlying22 (hf.eval rfl)) ?_; clear hf a; intro a hf
              refine s_a hf rfl ?_; clear hf a; intro a hf
              refine s_nil ?_
              refine then_n ?_
              refine wp_seq ?_
              refine wp_seq ?_
              refine wp_region_lit ?_
              refine s_m hf rfl ?_; clear hf a; intro a hf
              refine s_m hf rfl ?_; clear hf a; intro a hf
              refine s_v hf (x_bin (hf.eval rfl) (hf.eval rfl) (r_gt _ _ _ _)) ?_; clear hf a; intro a hf
              refine s_nil ?_
              refine then_n ?_
              refine c_cond hf rfl (fun hi6 => ?_) (fun hi6 => ?_)
              · simp only [decide_eq_true_eq, decide_eq_false_iff_not, Bool.not_eq_true', Bool.not_eq_false', Bool.not_eq_true, Int.not_lt, Int.not_le] at hi6
                refine wp_region_lit ?_
                refine s_m hf rfl ?_; clear hf a; intro a hf
                refine s_m hf rfl ?_; clear hf a; intro a hf
                refine s_m hf rfl ?_; clear hf a; intro a hf
                refine s_m hf rfl ?_; clear hf a; intro a hf
                refine s_v hf (x_bin (hf.eval rfl) (hf.eval rfl) (r_subi _ (by omega) (by omega))) ?_; clear hf a; intro a hf
                refine s_do hf rfl (y_makeB (m := off.toNat - t.now.length) (c := off.toNat - t.now.length) hs sl22 (hf.eval rfl) (hf.eval rfl) (by omega) (by omega) (Nat.le_refl _) (by omega) ?_); clear hf hs a; intro b w hs a hf
                replace hs := hs.ofBb (n := off.toNat - t.now.length) (by simp) (by omega)
                refine s_m hf rfl ?_; clear hf a; intro a hf
                refine s_do hf rfl (y_appendB (s := data) hs sl22 rfl (hf.eval rfl) (hf.eval rfl) (.here _) (hr _ [_, _, _, _, _, _, _] hs) (by simp; omega) ?_); clear hf hs a; intro v8 w hs hv a hf
                obtain ⟨a8, c8, rfl, hc8⟩ := slB_shape hs
                replace hs := St.give (L := _) hs (.there _ (.there _ (.there _ (.there _ (.there _ (.there _ (.here _)))))))
                replace hs := diskA_close (s := t) (x := ⟨_, _, m, _, es, clk⟩) hm hg hs
                refine s_do hf rfl (y_call (hf.eval rfl) (hf.evals rfl) Try.call55 ((lay_spec σ _ _ p t hs t.now.length a8 c8 ((List.replicate (off.toNat - t.now.length) (0 : UInt8)) ++ data) (Rdy.own (.here _)) (by simp [hd]) (Nat.le_refl _) (by simp; omega) (by omega) (by omega)).mono ?_))
                rintro e w1 ⟨rfl, hs⟩
                replace hs := hs.lose (.there _ (.here _))
                rw [← layW_hole (by omega)] at hs
                obtain ⟨u, hu⟩ : ∃ u, u = layW t off.toNat data := ⟨_, rfl⟩
                rw [← hu] at hs
                have hul : u.now.length = max t.now.length (off.toNat + data.length) := by rw [hu, layW_len]
                have husz : u.sizes = t.sizes := by rw [hu]; unfold layW; split <;> rfl
                have husz2 : u.sizes.length = t.sizes.length := by rw [husz]
                obtain ⟨⟨v1, v2, m, v4, es, clk⟩, hm, hg, hs⟩ := diskA_open hs
                dsimp only at hm hg hs
                obtain ⟨a1, c1, rfl, hc1⟩ := slB_shape (hs.take (.there _ (.here _)))
                obtain ⟨a2, c2, rfl, hc2⟩ := slB_shape (hs.take (.there _ (.there _ (.here _))))
                obtain ⟨a4, c4, rfl⟩ := sl_shape (hs.take (.there _ (.there _ (.there _ (.there _ (.there _ (.here _)))))))
                refine ⟨_, rfl, ?_⟩; clear hf a; intro a hf
                refine s_nil ?_
                refine then_n ?_
                refine wp_seq ?_
                refine wp_seq ?_
                refine wp_region_lit ?_
                refine s_m hf rfl ?_; clear hf a; intro a hf
                refine s_v hf (x_nilCheck (hf.eval rfl)) ?_; clear hf a; intro a hf
                refine s_v hf (x_fieldAddr fo78_1 (hf.eval rfl)) ?_; clear hf a; intro a hf
                refine s_r hf (x_load sc22 (hf.eval rfl) (by first | exact hs.cell (.here _) rfl | exact hs.cell (.there _ (.here _)) rfl | exact hs.cell (.there _ (.there _ (.here _))) rfl | exact hs.cell (.there _ (.there _ (.there _ (.here _)))) rfl | exact hs.cell (.there _ (.there _ (.there _ (.there _ (.here _))))) rfl | exact hs.cell (.there _ (.there _ (.there _ (.there _ (.there _ (.here _)))))) rfl)) ?_; clear hf a; intro a hf
                refine s_v hf (x_len Try.underlying22 (hf.eval rfl)) ?_; clear hf a; intro a hf
                refine s_m hf rfl ?_; clear hf a; intro a hf
                refine s_v hf (x_bin (hf.eval rfl) (hf.eval rfl) (r_ne _ _ _ _)) ?_; clear hf a; intro a hf
                refine s_nil ?_
                refine then_n ?_
                refine c_cond hf rfl (fun hi7 => ?_) (fun hi7 => ?_)
                · simp only [decide_eq_true_eq, decide_eq_false_iff_not, Bool.not_eq_true', Bool.not_eq_false', Bool.not_eq_true, Int.not_lt, Int.not_le] at hi7
                  refine c_draw hs (fun w' => w'.cell? ⟨p, 4, none⟩ = some (.slice a4 u.sizes.length c4)) [.held, .held, .held, .held, .held, .held, .held, .held, .read, .held, .eff, .eff, .held, .held, .fin] (by kernel_rfl) (by kernel_rfl) (fun w' _ hs => hs.cell (k := 4) (.here _) rfl) ?_
                  clear hs; intro w hs hC hw
                  refine m_held hf rfl (fun w' _ => x_move (hf.eval rfl) w') ?_; clear hf a; intro a hf
                  refine m_held hf rfl (fun w' _ => x_move (hf.eval rfl) w') ?_; clear hf a; intro a hf
                  refine m_held hf rfl (fun w' _ => x_nilCheck (hf.eval rfl) w') ?_; clear hf a; intro a hf
                  refine m_held hf rfl (fun w' _ => x_fieldAddr fo78_4 (hf.eval rfl) w') ?_; clear hf a; intro a hf
                  refine m_held hf rfl (fun w' hc => x_load sc38 (hf.eval rfl) hc) ?_; clear hf a; intro a hf
                  refine m_held hf rfl (fun w' _ => x_move (hf.eval rfl) w') ?_; clear hf a; intro a hf
                  refine m_held hf rfl (fun w' _ => x_nilCheck (hf.eval rfl) w') ?_; clear hf a; intro a hf
                  refine m_held hf rfl (fun w' _ => x_fieldAddr fo78_1 (hf.eval rfl) w') ?_; clear hf a; intro a hf
                  refine m_read hf rfl (x_load sc22 (hf.eval rfl) (by first | exact hs.cell (.here _) rfl | exact hs.cell (.there _ (.here _)) rfl | exact hs.cell (.there _ (.there _ (.here _))) rfl | exact hs.cell (.there _ (.there _ (.there _ (.here _)))) rfl | exact hs.cell (.there _ (.there _ (.there _ (.there _ (.here _))))) rfl | exact hs.cell (.there _ (.there _ (.there _ (.there _ (.there _ (.here _)))))) rfl)) ?_; clear hf a; intro a hf
                  refine m_held hf rfl (fun w' _ => x_len Try.underlying22 (hf.eval rfl) w') ?_; clear hf a; intro a hf
                  refine m_eff hf rfl (y_lit (xs := [.tmp 82]) hs sl38 (hf.evals rfl) rfl (by simp [Value.cells]) (by decide) ?_); clear hf hs a; intro b2 w hs; refine ⟨hs.cell (k := 4) (.there _ (.here _)) rfl, ?_⟩; intro a hf
                  refine m_eff hf rfl (y_append (n := u.sizes.length) (m := 1) (ys := [.int .i64 (u.now.length : Int)]) hs sl38 (hf.eval rfl) (hf.eval rfl) (.there _ (.there _ (.there _ (.there _ (.there _ (.there _ (.here _))))))) (hs.rd (.here _) fun h hb => rd_rows hb rfl) (by simp [Value.oneCell']) (by omega) (by rw [maxLen_eq]; omega) ?_); clear hf hs a; intro v2 w hs hv; refine ⟨hs.cell (k := 4) (.there _ (.there _ (.here _))) rfl, ?_⟩; intro a hf
                  rw [← szC_append, show u.sizes.length + 1 = (u.sizes ++ [u.now.length]).length by simp] at hs
                  obtain ⟨a7, c7, rfl⟩ := sl_shape hs
                  refine m_held hf rfl (fun w' _ => x_nilCheck (hf.eval rfl) w') ?_; clear hf a; intro a hf
                  refine m_held hf rfl (fun w' _ => x_fieldAddr fo78_4 (hf.eval rfl) w') ?_; clear hf a; intro a hf
                  refine m_fin0 hf rfl (y_store hs sc38 (hf.eval rfl) (hf.eval rfl) rfl (by first | exact .here _ | exact .there _ (.here _) | exact .there _ (.there _ (.here _)) | exact .there _ (.there _ (.there _ (.here _))) | exact .there _ (.there _ (.there _ (.there _ (.here _)))) | exact .there _ (.there _ (.there _ (.there _ (.there _ (.here _)))))) (by simp) ?_); clear hf hs a; intro w hs; intro a hf
                  replace hs := St.give (L := _) (hs.lose (.there _ (.here _))) (.there _ (.there _ (.there _ (.there _ (.there _ (.here _))))))
                  refine then_n ?_
                  refine wp_seq ?_
                  refine wp_region_lit ?_
                  refine s_a hf rfl ?_; clear hf a; intro a hf
                  refine s_nil ?_
                  refine then_n ?_
                  refine wp_ret ?_
                  refine r_1 hf Try.results28 rfl ?_
                  rw [wrS_some hi1 (by omega) (by omega) hi4 hd, ← ht, ← hu]
                  first | (rw [sized_eq (by omega)]; exact ⟨rfl, diskA_close (x := ⟨_, _, m, _, es, clk⟩) hm hg hs⟩) | (rw [sized_ne (by omega)]; exact ⟨rfl, diskA_close (x := ⟨.slice a1 u.now.length c1, .slice a2 u.dur.length c2, m, .slice a7 (u.sizes ++ [u.now.length]).length c7, es, clk⟩) hm hg hs⟩)
                · simp only [decide_eq_true_eq, decide_eq_false_iff_not, Bool.not_eq_true', Bool.not_eq_false', Bool.not_eq_true, Int.not_lt, Int.not_le] at hi7
                  refine wp_skip ?_
                  refine then_n ?_
                  refine wp_seq ?_
                  refine wp_region_lit ?_
                  refine s_a hf rfl ?_; clear hf a; intro a hf
                  refine s_nil ?_
                  refine then_n ?_
                  refine wp_ret ?_
                  refine r_1 hf Try.results28 rfl ?_
                  rw [wrS_some hi1 (by omega) (by omega) hi4 hd, ← ht, ← hu]
                  first | (rw [sized_eq (by omega)]; exact ⟨rfl, diskA_close (x := ⟨_, _, m, _, es, clk⟩) hm hg hs⟩) | (rw [sized_ne (by omega)]; exact ⟨rfl, diskA_close (x := ⟨.slice a1 u.now.length c1, .slice a2 u.dur.length c2, m, .slice a7 (u.sizes ++ [u.now.length]).length c7, es, clk⟩) hm hg hs⟩)
              · simp only [decide_eq_true_eq, decide_eq_false_iff_not, Bool.not_eq_true', Bool.not_eq_false', Bool.not_eq_true, Int.not_lt, Int.not_le] at hi6
                refine wp_region_lit ?_
                refine s_m hf rfl ?_; clear hf a; intro a hf
                refine s_m hf rfl ?_; clear hf a; intro a hf
                replace hf := hf.now (k := 63) (v' := .int .i64 (off.toNat : Int)) rfl (by congr 1; omega)
                refine s_m hf rfl ?_; clear hf a; intro a hf
                replace hs := diskA_close (s := t) (x := ⟨_, _, m, _, es, clk⟩) hm hg hs
                refine s_do hf rfl (y_call (hf.eval rfl) (hf.evals rfl) Try.call55 ((lay_spec σ _ _ p t hs off.toNat ad cd data hr hd (by omega) (by omega) (by omega) (by omega)).mono ?_))
                rintro e w1 ⟨rfl, hs⟩
                rw [← layW_in (by omega)] at hs
                obtain ⟨u, hu⟩ : ∃ u, u = layW t off.toNat data := ⟨_, rfl⟩
                rw [← hu] at hs
                have hul : u.now.length = max t.now.length (off.toNat + data.length) := by rw [hu, layW_len]
                have husz : u.sizes = t.sizes := by rw [hu]; unfold layW; split <;> rfl
                have husz2 : u.sizes.length = t.sizes.length := by rw [husz]
                obtain ⟨⟨v1, v2, m, v4, es, clk⟩, hm, hg, hs⟩ := diskA_open hs
                dsimp only at hm hg hs
                obtain ⟨a1, c1, rfl, hc1⟩ := slB_shape (hs.take (.there _ (.here _)))
                obtain ⟨a2, c2, rfl, hc2⟩ := slB_shape (hs.take (.there _ (.there _ (.here _))))
                obtain ⟨a4, c4, rfl⟩ := sl_shape (hs.take (.there _ (.there _ (.there _ (.there _ (.there _ (.here _)))))))
                refine ⟨_, rfl, ?_⟩; clear hf a; intro a hf
                refine s_nil ?_
                refine then_n ?_
                refine wp_seq ?_
                refine wp_seq ?_
                refine wp_region_lit ?_
                refine s_m hf rfl ?_; clear hf a; intro a hf
                refine s_v hf (x_nilCheck (hf.eval rfl)) ?_; clear hf a; intro a hf
                refine s_v hf (x_fieldAddr fo78_1 (hf.eval rfl)) ?_; clear hf a; intro a hf
                refine s_r hf (x_load sc22 (hf.eval rfl) (by first | exact hs.cell (.here _) rfl | exact hs.cell (.there _ (.here _)) rfl | exact hs.cell (.there _ (.there _ (.here _))) rfl | exact hs.cell (.there _ (.there _ (.there _ (.here _)))) rfl | exact hs.cell (.there _ (.there _ (.there _ (.there _ (.here _))))) rfl | exact hs.cell (.there _ (.there _ (.there _ (.there _ (.there _ (.here _)))))) rfl)) ?_; clear hf a; intro a hf
                refine s_v hf (x_len Try.underlying22 (hf.eval rfl)) ?_; clear hf a; intro a hf
                refine s_m hf rfl ?_; clear hf a; intro a hf
                refine s_v hf (x_bin (hf.eval rfl) (hf.eval rfl) (r_ne _ _ _ _)) ?_; clear hf a; intro a hf
                refine s_nil ?_
                refine then_n ?_
                refine c_cond hf rfl (fun hi7 => ?_) (fun hi7 => ?_)
                · simp only [decide_eq_true_eq, decide_eq_false_iff_not, Bool.not_eq_true', Bool.not_eq_false', Bool.not_eq_true, Int.not_lt, Int.not_le] at hi7
                  refine c_draw hs (fun w' => w'.cell? ⟨p, 4, none⟩ = some (.slice a4 u.sizes.length c4)) [.held, .held, .held, .held, .held, .held, .held, .held, .read, .held, .eff, .eff, .held, .held, .fin] (by kernel_rfl) (by kernel_rfl) (fun w' _ hs => hs.cell (k := 4) (.here _) rfl) ?_
                  clear hs; intro w hs hC hw
                  refine m_held hf rfl (fun w' _ => x_move (hf.eval rfl) w') ?_; clear hf a; intro a hf
                  refine m_held hf rfl (fun w' _ => x_move (hf.eval rfl) w') ?_; clear hf a; intro a hf
                  refine m_held hf rfl (fun w' _ => x_nilCheck (hf.eval rfl) w') ?_; clear hf a; intro a hf
                  refine m_held hf rfl (fun w' _ => x_fieldAddr fo78_4 (hf.eval rfl) w') ?_; clear hf a; intro a hf
                  refine m_held hf rfl (fun w' hc => x_load sc38 (hf.eval rfl) hc) ?_; clear hf a; intro a hf
                  refine m_held hf rfl (fun w' _ => x_move (hf.eval rfl) w') ?_; clear hf a; intro a hf
                  refine m_held hf rfl (fun w' _ => x_nilCheck (hf.eval rfl) w') ?_; clear hf a; intro a hf
                  refine m_held hf rfl (fun w' _ => x_fieldAddr fo78_1 (hf.eval rfl) w') ?_; clear hf a; intro a hf
                  refine m_read hf rfl (x_load sc22 (hf.eval rfl) (by first | exact hs.cell (.here _) rfl | exact hs.cell (.there _ (.here _)) rfl | exact hs.cell (.there _ (.there _ (.here _))) rfl | exact hs.cell (.there _ (.there _ (.there _ (.here _)))) rfl | exact hs.cell (.there _ (.there _ (.there _ (.there _ (.here _))))) rfl | exact hs.cell (.there _ (.there _ (.there _ (.there _ (.there _ (.here _)))))) rfl)) ?_; clear hf a; intro a hf
                  refine m_held hf rfl (fun w' _ => x_len Try.underlying22 (hf.eval rfl) w') ?_; clear hf a; intro a hf
                  refine m_eff hf rfl (y_lit (xs := [.tmp 82]) hs sl38 (hf.evals rfl) rfl (by simp [Value.cells]) (by decide) ?_); clear hf hs a; intro b2 w hs; refine ⟨hs.cell (k := 4) (.there _ (.here _)) rfl, ?_⟩; intro a hf
                  refine m_eff hf rfl (y_append (n := u.sizes.length) (m := 1) (ys := [.int .i64 (u.now.length : Int)]) hs sl38 (hf.eval rfl) (hf.eval rfl) (.there _ (.there _ (.there _ (.there _ (.there _ (.there _ (.here _))))))) (hs.rd (.here _) fun h hb => rd_rows hb rfl) (by simp [Value.oneCell']) (by omega) (by rw [maxLen_eq]; omega) ?_); clear hf hs a; intro v2 w hs hv; refine ⟨hs.cell (k := 4) (.there _ (.there _ (.here _))) rfl, ?_⟩; intro a hf
                  rw [← szC_append, show u.sizes.length + 1 = (u.sizes ++ [u.now.length]).length by simp] at hs
                  obtain ⟨a7, c7, rfl⟩ := sl_shape hs
                  refine m_held hf rfl (fun w' _ => x_nilCheck (hf.eval rfl) w') ?_; clear hf a; intro a hf
                  refine m_held hf rfl (fun w' _ => x_fieldAddr fo78_4 (hf.eval rfl) w') ?_; clear hf a; intro a hf
                  refine m_fin0 hf rfl (y_store hs sc38 (hf.eval rfl) (hf.eval rfl) rfl (by first | exact .here _ | exact .there _ (.here _) | exact .there _ (.there _ (.here _)) | exact .there _ (.there _ (.there _ (.here _))) | exact .there _ (.there _ (.there _ (.there _ (.here _)))) | exact .there _ (.there _ (.there _ (.there _ (.there _ (.here _)))))) (by simp) ?_); clear hf hs a; intro w hs; intro a hf
                  replace hs := St.give (L := _) (hs.lose (.there _ (.here _))) (.there _ (.there _ (.there _ (.there _ (.there _ (.here _))))))
                  refine then_n ?_
                  refine wp_seq ?_
                  refine wp_region_lit ?_
                  refine s_a hf rfl ?_; clear hf a; intro a hf
                  refine s_nil ?_
                  refine then_n ?_
                  refine wp_ret ?_
                  refine r_1 hf Try.results28 rfl ?_
                  rw [wrS_some hi1 (by omega) (by omega) hi4 hd, ← ht, ← hu]
                  first | (rw [sized_eq (by omega)]; exact ⟨rfl, diskA_close (x := ⟨_, _, m, _, es, clk⟩) hm hg hs⟩) | (rw [sized_ne (by omega)]; exact ⟨rfl, diskA_close (x := ⟨.slice a1 u.now.length c1, .slice a2 u.dur.length c2, m, .slice a7 (u.sizes ++ [u.now.length]).length c7, es, clk⟩) hm hg hs⟩)
                · simp only [decide_eq_true_eq, decide_eq_false_iff_not, Bool.not_eq_true', Bool.not_eq_false', Bool.not_eq_true, Int.not_lt, Int.not_le] at hi7
                  refine wp_skip ?_
                  refine then_n ?_
                  refine wp_seq ?_
                  refine wp_region_lit ?_
                  refine s_a hf rfl ?_; clear hf a; intro a hf
                  refine s_nil ?_
                  refine then_n ?_
                  refine wp_ret ?_
                  refine r_1 hf Try.results28 rfl ?_
                  rw [wrS_some hi1 (by omega) (by omega) hi4 hd, ← ht, ← hu]
                  first | (rw [sized_eq (by omega)]; exact ⟨rfl, diskA_close (x := ⟨_, _, m, _, es, clk⟩) hm hg hs⟩) | (rw [sized_ne (by omega)]; exact ⟨rfl, diskA_close (x := ⟨.slice a1 u.now.length c1, .slice a2 u.dur.length c2, m, .slice a7 (u.sizes ++ [u.now.length]).length c7, es, clk⟩) hm hg hs⟩)

theorem dTrunc_spec (σ : Sig) (w : World) (R : List Asrt) (p : Nat) (s : DS) (hs : St σ w (diskA 78 83 5 3 p s :: R)) (n : Int) (ho : DOk s) (hcl : s.calls ≤ 4611686018427387904) (hpc : s.pcs.length ≤ 1099511600000) (hsl : s.sizes.length ≤ 1099511600000) : Calls Try.prog 32 #[.pointer (some ⟨p, 0, none⟩), .int .i64 n] w fun e w' => e = .returned (.int .i64 (trS s n).1) ∧ St σ w' (diskA 78 83 5 3 p (trS s n).2 :: R) := by
  have hroom0 := ho.room0
  have hroom1 := ho.room1
  have hnow1 := ho.now
  obtain ⟨⟨v1, v2, m, v4, es, clk⟩, hm, hg, hs⟩ := diskA_open hs
  dsimp only at hm hg hs
  obtain ⟨a1, c1, rfl, hc1⟩ := slB_shape (hs.take (.there _ (.here _)))
  obtain ⟨a2, c2, rfl, hc2⟩ := slB_shape (hs.take (.there _ (.there _ (.here _))))
  obtain ⟨a4, c4, rfl⟩ := sl_shape (hs.take (.there _ (.there _ (.there _ (.there _ (.there _ (.here _)))))))
  refine c_enter (N := 65) Try.func32 rfl Try.ntmps32 (by simp) ?_
  intro a hf
  refine wp_seq ?_
  refine wp_region_lit ?_
  refine s_a hf rfl ?_; clear hf a; intro a hf
  refine s_nil ?_
  refine then_n ?_
  refine wp_seq ?_
  refine wp_block ?_
  refine wp_seq ?_
  refine wp_region_lit ?_
  refine s_m hf rfl ?_; clear hf a; intro a hf
  refine s_v hf (x_eqNil Try.underlying23 (hf.eval rfl) (hf.eval rfl)) ?_; clear hf a; intro a hf
  replace hf := hf.now (k := 8) (v' := .bool false) rfl rfl
  refine s_a hf rfl ?_; clear hf a; intro a hf
  refine s_nil ?_
  refine then_n ?_
  refine c_cond_f hf rfl rfl ?_
  refine wp_seq ?_
  refine wp_region_lit ?_
  refine s_m hf rfl ?_; clear hf a; intro a hf
  refine s_v hf (x_nilCheck (hf.eval rfl)) ?_; clear hf a; intro a hf
  refine s_v hf (x_fieldAddr fo78_7 (hf.eval rfl)) ?_; clear hf a; intro a hf
  refine s_r hf (x_load sc4 (hf.eval rfl) (by first | exact hs.cell (.here _) rfl | exact hs.cell (.there _ (.here _)) rfl | exact hs.cell (.there _ (.there _ (.here _))) rfl | exact hs.cell (.there _ (.there _ (.there _ (.here _)))) rfl | exact hs.cell (.there _ (.there _ (.there _ (.there _ (.here _))))) rfl | exact hs.cell (.there _ (.there _ (.there _ (.there _ (.there _ (.here _)))))) rfl)) ?_; clear hf a; intro a hf
  refine s_a hf rfl ?_; clear hf a; intro a hf
  refine s_nil ?_
  refine then_n ?_
  refine c_cond hf rfl (fun hi1 => ?_) (fun hi1 => ?_)
  · refine wp_seq ?_
    refine wp_region_lit ?_
    refine s_a hf rfl ?_; clear hf a; intro a hf
    refine s_nil ?_
    refine then_n ?_
    refine wp_ret ?_
    refine blk_r (then_r ?_)
    refine r_1 hf Try.results32 rfl ?_
    rw [trS_dead hi1]
    exact ⟨rfl, diskA_close (x := ⟨_, _, m, _, es, clk⟩) hm hg hs⟩
  · refine wp_seq ?_
    refine wp_region_lit ?_
    refine s_m hf rfl ?_; clear hf a; intro a hf
    refine s_v hf (x_bin (hf.eval rfl) (hf.eval rfl) (r_lt _ _ _ _)) ?_; clear hf a; intro a hf
    refine s_a hf rfl ?_; clear hf a; intro a hf
    refine s_nil ?_
    refine then_n ?_
    refine c_cond hf rfl (fun hi2 => ?_) (fun hi2 => ?_)
    · simp only [decide_eq_true_eq, decide_eq_false_iff_not, Bool.not_eq_true', Bool.not_eq_false', Bool.not_eq_true, Int.not_lt, Int.not_le] at hi2
      refine wp_seq ?_
      refine wp_region_lit ?_
      refine s_a hf rfl ?_; clear hf a; intro a hf
      refine s_nil ?_
      refine then_n ?_
      refine wp_ret ?_
      refine blk_r (then_r ?_)
      refine r_1 hf Try.results32 rfl ?_
      rw [trS_neg hi1 (by omega)]
      exact ⟨rfl, diskA_close (x := ⟨_, _, m, _, es, clk⟩) hm hg hs⟩
    · simp only [decide_eq_true_eq, decide_eq_false_iff_not, Bool.not_eq_true', Bool.not_eq_false', Bool.not_eq_true, Int.not_lt, Int.not_le] at hi2
      refine wp_seq ?_
      refine wp_region_lit ?_
      refine s_m hf rfl ?_; clear hf a; intro a hf
      refine s_m hf rfl ?_; clear hf a; intro a hf
      refine s_v hf (x_nilCheck (hf.eval rfl)) ?_; clear hf a; intro a hf
      refine s_v hf (x_fieldAddr fo78_0 (hf.eval rfl)) ?_; clear hf a; intro a hf
      refine s_r hf (x_load sc3 (hf.eval rfl) (by first | exact hs.cell (.here _) rfl | exact hs.cell (.there _ (.here _)) rfl | exact hs.cell (.there _ (.there _ (.here _))) rfl | exact hs.cell (.there _ (.there _ (.there _ (.here _)))) rfl | exact hs.cell (.there _ (.there _ (.there _ (.there _ (.here _))))) rfl | exact hs.cell (.there _ (.there _ (.there _ (.there _ (.there _ (.here _)))))) rfl)) ?_; clear hf a; intro a hf
      refine s_v hf (x_bin (hf.eval rfl) (hf.eval rfl) (r_gt _ _ _ _)) ?_; clear hf a; intro a hf
      refine s_a hf rfl ?_; clear hf a; intro a hf
      refine s_nil ?_
      refine then_n ?_
      refine c_cond hf rfl (fun hi3 => ?_) (fun hi3 => ?_)
      · simp only [decide_eq_true_eq, decide_eq_false_iff_not, Bool.not_eq_true', Bool.not_eq_false', Bool.not_eq_true, Int.not_lt, Int.not_le] at hi3
        refine wp_seq ?_
        refine wp_region_lit ?_
        refine s_a hf rfl ?_; clear hf a; intro a hf
        refine s_nil ?_
        refine then_n ?_
        refine wp_ret ?_
        refine blk_r (then_r ?_)
        refine r_1 hf Try.results32 rfl ?_
        rw [trS_big hi1 (by omega) (by omega)]
        exact ⟨rfl, diskA_close (x := ⟨_, _, m, _, es, clk⟩) hm hg hs⟩
      · simp only [decide_eq_true_eq, decide_eq_false_iff_not, Bool.not_eq_true', Bool.not_eq_false', Bool.not_eq_true, Int.not_lt, Int.not_le] at hi3
        refine wp_seq ?_
        refine wp_region_lit ?_
        refine s_m hf rfl ?_; clear hf a; intro a hf
        replace hs := diskA_close (s := s) (x := ⟨_, _, m, _, es, clk⟩) hm hg hs
        refine s_do hf rfl (y_call (hf.eval rfl) (hf.evals rfl) Try.call54 ((spend_spec _ _ _ p s hs ho.fuse.2 ho.fuse.1 hcl).mono ?_))
        rintro e w1 ⟨rfl, hs⟩
        obtain ⟨t, ht⟩ : ∃ t, t = spent s := ⟨_, rfl⟩
        rw [← ht] at hs
        obtain ⟨htn, htr, htd, htp, hts⟩ := spent_now s
        rw [← ht] at htn htr htd htp hts
        have hto := spent_ok ho
        rw [← ht] at hto
        have htn2 : t.now.length = s.now.length := by rw [htn]
        have htp2 : t.pcs.length = s.pcs.length := by rw [htp]
        have hts2 : t.sizes.length = s.sizes.length := by rw [hts]
        refine ⟨_, rfl, ?_⟩; clear hf a; intro a hf
        refine s_v hf (x_not (hf.eval rfl)) ?_; clear hf a; intro a hf
        refine s_a hf rfl ?_; clear hf a; intro a hf
        refine s_nil ?_
        refine then_n ?_
        refine c_cond hf rfl (fun hi4 => ?_) (fun hi4 => ?_)
        · simp only [Bool.not_eq_true', Bool.not_eq_false', decide_eq_true_eq, decide_eq_false_iff_not, ne_eq, Decidable.not_not] at hi4
          refine wp_seq ?_
          refine wp_region_lit ?_
          refine s_a hf rfl ?_; clear hf a; intro a hf
          refine s_nil ?_
          refine then_n ?_
          refine wp_ret ?_
          refine blk_r (then_r ?_)
          refine r_1 hf Try.results32 rfl ?_
          rw [trS_fuse hi1 (by omega) (by omega) hi4, ← ht]
          exact ⟨rfl, hs⟩
        · simp only [Bool.not_eq_true', Bool.not_eq_false', decide_eq_true_eq, decide_eq_false_iff_not, ne_eq, Decidable.not_not] at hi4
          obtain ⟨⟨v1, v2, m, v4, es, clk⟩, hm, hg, hs⟩ := diskA_open hs
          dsimp only at hm hg hs
          obtain ⟨a1, c1, rfl, hc1⟩ := slB_shape (hs.take (.there _ (.here _)))
          obtain ⟨a2, c2, rfl, hc2⟩ := slB_shape (hs.take (.there _ (.there _ (.here _))))
          obtain ⟨a4, c4, rfl⟩ := sl_shape (hs.take (.there _ (.there _ (.there _ (.there _ (.there _ (.here _)))))))
          refine wp_skip ?_
          refine blk_n ?_
          refine then_n ?_
          refine wp_seq ?_
          refine wp_region_lit ?_
          refine s_m hf rfl ?_; clear hf a; intro a hf
          refine s_v hf (x_nilCheck (hf.eval rfl)) ?_; clear hf a; intro a hf
          refine s_v hf (x_fieldAddr fo78_1 (hf.eval rfl)) ?_; clear hf a; intro a hf
          refine s_r hf (x_load sc22 (hf.eval rfl) (by first | exact hs.cell (.here _) rfl | exact hs.cell (.there _ (.here _)) rfl | exact hs.cell (.there _ (.there _ (.here _))) rfl | exact hs.cell (.there _ (.there _ (.there _ (.here _)))) rfl | exact hs.cell (.there _ (.there _ (.there _ (.there _ (.here _))))) rfl | exact hs.cell (.there _ (.there _ (.there _ (.there _ (.there _ (.here _)))))) rfl)) ?_; clear hf a; intro a hf
          refine s_v hf (x_len Try.underlying22 (hf.eval rfl)) ?_; clear hf a; intro a hf
          refine s_a hf rfl ?_; clear hf a; intro a hf
          refine s_nil ?_
          refine then_n ?_
          refine wp_seq ?_
          refine wp_seq ?_
          refine wp_region_lit ?_
          refine s_m hf rfl ?_; clear hf a; intro a hf
          refine s_m hf rfl ?_; clear hf a; intro a hf
          refine s_v hf (x_bin (hf.eval rfl) (hf.eval rfl) (r_gt _ _ _ _)) ?_; clear hf a; intro a hf
          refine s_nil ?_
          refine then_n ?_
          refine c_cond hf rfl (fun hi5 => ?_) (fun hi5 => ?_)
          · simp only [decide_eq_true_eq, decide_eq_false_iff_not, Bool.not_eq_true', Bool.not_eq_false', Bool.not_eq_true, Int.not_lt, Int.not_le] at hi5
            refine wp_region_lit ?_
            refine s_m hf rfl ?_; clear hf a; intro a hf
            refine s_m hf rfl ?_; clear hf a; intro a hf
            refine s_m hf rfl ?_; clear hf a; intro a hf
            refine s_m hf rfl ?_; clear hf a; intro a hf
            refine s_v hf (x_bin (hf.eval rfl) (hf.eval rfl) (r_subi _ (by omega) (by omega))) ?_; clear hf a; intro a hf
            refine s_do hf rfl (y_makeB (m := n.toNat - t.now.length) (c := n.toNat - t.now.length) hs sl22 (hf.eval rfl) (hf.eval rfl) (by omega) (by omega) (Nat.le_refl _) (by omega) ?_); clear hf hs a; intro b w hs a hf
            replace hs := hs.ofBb (n := (List.replicate (n.toNat - t.now.length) (0 : UInt8)).length) rfl (by simp; omega)
            replace hf := hf.now (k := 41) (v' := .slice (some ⟨b, 0, none⟩) (List.replicate (n.toNat - t.now.length) (0 : UInt8)).length (List.replicate (n.toNat - t.now.length) (0 : UInt8)).length) rfl (by simp)
            replace hs := St.give (L := _) hs (.there _ (.there _ (.there _ (.there _ (.there _ (.there _ (.here _)))))))
            replace hs := diskA_close (s := t) (x := ⟨_, _, m, _, es, clk⟩) hm hg hs
            refine s_do hf rfl (y_call (hf.eval rfl) (hf.evals rfl) Try.call55 ((lay_spec σ _ _ p t hs t.now.length _ _ (List.replicate (n.toNat - t.now.length) (0 : UInt8)) (Rdy.own (.here _)) (by intro h9; have h8 := congrArg List.length h9; simp at h8; omega) (Nat.le_refl _) (by simp; omega) (by omega) (by omega)).mono ?_))
            rintro e w1 ⟨rfl, hs⟩
            replace hs := hs.lose (.there _ (.here _))
            rw [← trC_up (by omega)] at hs
            obtain ⟨u, hu⟩ : ∃ u, u = trC t n.toNat := ⟨_, rfl⟩
            rw [← hu] at hs
            have husz : u.sizes = t.sizes := by rw [hu]; unfold trC; split <;> rfl
            have husz2 : u.sizes.length = t.sizes.length := by rw [husz]
            have hul : n.toNat ≤ u.now.length := by have h9 := trN_len t n.toNat; unfold trN at h9; rw [← hu] at h9; simp only [List.length_take] at h9; omega
            obtain ⟨⟨v1, v2, m, v4, es, clk⟩, hm, hg, hs⟩ := diskA_open hs
            dsimp only at hm hg hs
            obtain ⟨a1, c1, rfl, hc1⟩ := slB_shape (hs.take (.there _ (.here _)))
            obtain ⟨a2, c2, rfl, hc2⟩ := slB_shape (hs.take (.there _ (.there _ (.here _))))
            obtain ⟨a4, c4, rfl⟩ := sl_shape (hs.take (.there _ (.there _ (.there _ (.there _ (.there _ (.here _)))))))
            refine ⟨_, rfl, ?_⟩; clear hf a; intro a hf
            refine s_nil ?_
            refine then_n ?_
            refine wp_seq ?_
            refine wp_region_lit ?_
            refine s_m hf rfl ?_; clear hf a; intro a hf
            refine s_m hf rfl ?_; clear hf a; intro a hf
            refine s_v hf (x_nilCheck (hf.eval rfl)) ?_; clear hf a; intro a hf
            refine s_v hf (x_fieldAddr fo78_1 (hf.eval rfl)) ?_; clear hf a; intro a hf
            refine s_r hf (x_load sc22 (hf.eval rfl) (by first | exact hs.cell (.here _) rfl | exact hs.cell (.there _ (.here _)) rfl | exact hs.cell (.there _ (.there _ (.here _))) rfl | exact hs.cell (.there _ (.there _ (.there _ (.here _)))) rfl | exact hs.cell (.there _ (.there _ (.there _ (.there _ (.here _))))) rfl | exact hs.cell (.there _ (.there _ (.there _ (.there _ (.there _ (.here _)))))) rfl)) ?_; clear hf a; intro a hf
            refine s_m hf rfl ?_; clear hf a; intro a hf
            refine s_v hf (x_slice_hi sl22 (hf.eval rfl) (hf.eval rfl)  (by omega) (by omega) ) ?_; clear hf a; intro a hf
            refine s_v hf (x_nilCheck (hf.eval rfl)) ?_; clear hf a; intro a hf
            refine s_v hf (x_fieldAddr fo78_1 (hf.eval rfl)) ?_; clear hf a; intro a hf
            refine s_do0 hf rfl (y_store hs sc22 (hf.eval rfl) (hf.eval rfl) rfl (by first | exact .here _ | exact .there _ (.here _) | exact .there _ (.there _ (.here _)) | exact .there _ (.there _ (.there _ (.here _))) | exact .there _ (.there _ (.there _ (.there _ (.here _)))) | exact .there _ (.there _ (.there _ (.there _ (.there _ (.here _)))))) (by simp) ?_); clear hf hs a; intro w hs a hf
            have htk : (u.now.take n.toNat).length = n.toNat := by rw [List.length_take]; omega
            replace hs := ((hs.take (.there _ (.here _))).cutSl (m := n.toNat) hul).take (.there _ (.here _))
            refine s_nil ?_
            refine then_n ?_
            refine wp_seq ?_
            refine wp_seq ?_
            refine wp_region_lit ?_
            refine s_m hf rfl ?_; clear hf a; intro a hf
            refine s_m hf rfl ?_; clear hf a; intro a hf
            refine s_v hf (x_bin (hf.eval rfl) (hf.eval rfl) (r_ne _ _ _ _)) ?_; clear hf a; intro a hf
            refine s_nil ?_
            refine then_n ?_
            refine c_cond hf rfl (fun hi6 => ?_) (fun hi6 => ?_)
            · simp only [decide_eq_true_eq, decide_eq_false_iff_not, Bool.not_eq_true', Bool.not_eq_false', Bool.not_eq_true, Int.not_lt, Int.not_le] at hi6
              refine wp_region_lit ?_
              refine s_m hf rfl ?_; clear hf a; intro a hf
              refine s_m hf rfl ?_; clear hf a; intro a hf
              refine s_v hf (x_nilCheck (hf.eval rfl)) ?_; clear hf a; intro a hf
              refine s_v hf (x_fieldAddr fo78_4 (hf.eval rfl)) ?_; clear hf a; intro a hf
              refine s_r hf (x_load sc38 (hf.eval rfl) (by first | exact hs.cell (.here _) rfl | exact hs.cell (.there _ (.here _)) rfl | exact hs.cell (.there _ (.there _ (.here _))) rfl | exact hs.cell (.there _ (.there _ (.there _ (.here _)))) rfl | exact hs.cell (.there _ (.there _ (.there _ (.there _ (.here _))))) rfl | exact hs.cell (.there _ (.there _ (.there _ (.there _ (.there _ (.here _)))))) rfl)) ?_; clear hf a; intro a hf
              refine s_m hf rfl ?_; clear hf a; intro a hf
              replace hf := hf.now (k := 60) (v' := .int .i64 ((u.now.take n.toNat).length : Int)) rfl (by rw [htk]; congr 1; omega)
              refine s_do hf rfl (y_lit (xs := [.tmp 60]) hs sl38 (hf.evals rfl) rfl (by simp [Value.cells]) (by decide) ?_); clear hf hs a; intro b2 w hs a hf
              refine s_do hf rfl (y_append (n := u.sizes.length) (m := 1) (ys := [.int .i64 (((u.now.take n.toNat).length : Nat) : Int)]) hs sl38 (hf.eval rfl) (hf.eval rfl) (.there _ (.there _ (.there _ (.there _ (.there _ (.there _ (.here _))))))) (hs.rd (.here _) fun h hb => rd_rows hb rfl) (by simp [Value.oneCell']) (by omega) (by rw [maxLen_eq]; omega) ?_); clear hf hs a; intro v2 w hs hv a hf
              rw [← szC_append, show u.sizes.length + 1 = (u.sizes ++ [((u.now.take n.toNat).length : Nat)]).length by simp] at hs
              obtain ⟨a7, c7, rfl⟩ := sl_shape hs
              refine s_v hf (x_nilCheck (hf.eval rfl)) ?_; clear hf a; intro a hf
              refine s_v hf (x_fieldAddr fo78_4 (hf.eval rfl)) ?_; clear hf a; intro a hf
              refine s_do0 hf rfl (y_store hs sc38 (hf.eval rfl) (hf.eval rfl) rfl (by first | exact .here _ | exact .there _ (.here _) | exact .there _ (.there _ (.here _)) | exact .there _ (.there _ (.there _ (.here _))) | exact .there _ (.there _ (.there _ (.there _ (.here _)))) | exact .there _ (.there _ (.there _ (.there _ (.there _ (.here _)))))) (by simp) ?_); clear hf hs a; intro w hs a hf
              replace hs := St.give (L := _) (hs.lose (.there _ (.here _))) (.there _ (.there _ (.there _ (.there _ (.there _ (.here _))))))
              refine s_nil ?_
              refine then_n ?_
              refine wp_seq ?_
              refine wp_region_lit ?_
              refine s_a hf rfl ?_; clear hf a; intro a hf
              refine s_nil ?_
              refine then_n ?_
              refine wp_ret ?_
              refine r_1 hf Try.results32 rfl ?_
              rw [trS_some hi1 (by omega) (by omega) hi4, ← ht]
              unfold trN
              rw [← hu]
              first | (rw [sized_eq (show (u.now.take n.toNat).length = s.now.length by omega)]; exact ⟨rfl, diskA_close (s := { u with now := u.now.take n.toNat }) (x := ⟨.slice a1 n.toNat c1, .slice a2 u.dur.length c2, m, .slice a4 u.sizes.length c4, es, clk⟩) hm hg hs⟩) | (rw [sized_ne (show (u.now.take n.toNat).length ≠ s.now.length by omega)]; exact ⟨rfl, diskA_close (s := { { u with now := u.now.take n.toNat } with sizes := u.sizes ++ [(u.now.take n.toNat).length] }) (x := ⟨.slice a1 n.toNat c1, .slice a2 u.dur.length c2, m, .slice a7 (u.sizes ++ [(u.now.take n.toNat).length]).length c7, es, clk⟩) hm hg hs⟩)
            · simp only [decide_eq_true_eq, decide_eq_false_iff_not, Bool.not_eq_true', Bool.not_eq_false', Bool.not_eq_true, Int.not_lt, Int.not_le] at hi6
              refine wp_skip ?_
              refine then_n ?_
              refine wp_seq ?_
              refine wp_region_lit ?_
              refine s_a hf rfl ?_; clear hf a; intro a hf
              refine s_nil ?_
              refine then_n ?_
              refine wp_ret ?_
              refine r_1 hf Try.results32 rfl ?_
              rw [trS_some hi1 (by omega) (by omega) hi4, ← ht]
              unfold trN
              rw [← hu]
              first | (rw [sized_eq (show (u.now.take n.toNat).length = s.now.length by omega)]; exact ⟨rfl, diskA_close (s := { u with now := u.now.take n.toNat }) (x := ⟨.slice a1 n.toNat c1, .slice a2 u.dur.length c2, m, .slice a4 u.sizes.length c4, es, clk⟩) hm hg hs⟩) | (rw [sized_ne (show (u.now.take n.toNat).length ≠ s.now.length by omega)]; exact ⟨rfl, diskA_close (s := { { u with now := u.now.take n.toNat } with sizes := u.sizes ++ [(u.now.take n.toNat).length] }) (x := ⟨.slice a1 n.toNat c1, .slice a2 u.dur.length c2, m, .slice a7 (u.sizes ++ [(u.now.take n.toNat).length]).length c7, es, clk⟩) hm hg hs⟩)
          · simp only [decide_eq_true_eq, decide_eq_false_iff_not, Bool.not_eq_true', Bool.not_eq_false', Bool.not_eq_true, Int.not_lt, Int.not_le] at hi5
            replace hs := diskA_close (s := t) (x := ⟨_, _, m, _, es, clk⟩) hm hg hs
            rw [← trC_in (s := t) (n := n.toNat) (by omega)] at hs
            obtain ⟨u, hu⟩ : ∃ u, u = trC t n.toNat := ⟨_, rfl⟩
            rw [← hu] at hs
            have husz : u.sizes = t.sizes := by rw [hu]; unfold trC; split <;> rfl
            have husz2 : u.sizes.length = t.sizes.length := by rw [husz]
            have hul : n.toNat ≤ u.now.length := by have h9 := trN_len t n.toNat; unfold trN at h9; rw [← hu] at h9; simp only [List.length_take] at h9; omega
            obtain ⟨⟨v1, v2, m, v4, es, clk⟩, hm, hg, hs⟩ := diskA_open hs
            dsimp only at hm hg hs
            obtain ⟨a1, c1, rfl, hc1⟩ := slB_shape (hs.take (.there _ (.here _)))
            obtain ⟨a2, c2, rfl, hc2⟩ := slB_shape (hs.take (.there _ (.there _ (.here _))))
            obtain ⟨a4, c4, rfl⟩ := sl_shape (hs.take (.there _ (.there _ (.there _ (.there _ (.there _ (.here _)))))))
            refine wp_skip ?_
            refine then_n ?_
            refine wp_seq ?_
            refine wp_region_lit ?_
            refine s_m hf rfl ?_; clear hf a; intro a hf
            refine s_m hf rfl ?_; clear hf a; intro a hf
            refine s_v hf (x_nilCheck (hf.eval rfl)) ?_; clear hf a; intro a hf
            refine s_v hf (x_fieldAddr fo78_1 (hf.eval rfl)) ?_; clear hf a; intro a hf
            refine s_r hf (x_load sc22 (hf.eval rfl) (by first | exact hs.cell (.here _) rfl | exact hs.cell (.there _ (.here _)) rfl | exact hs.cell (.there _ (.there _ (.here _))) rfl | exact hs.cell (.there _ (.there _ (.there _ (.here _)))) rfl | exact hs.cell (.there _ (.there _ (.there _ (.there _ (.here _))))) rfl | exact hs.cell (.there _ (.there _ (.there _ (.there _ (.there _ (.here _)))))) rfl)) ?_; clear hf a; intro a hf
            refine s_m hf rfl ?_; clear hf a; intro a hf
            refine s_v hf (x_slice_hi sl22 (hf.eval rfl) (hf.eval rfl)  (by omega) (by omega) ) ?_; clear hf a; intro a hf
            refine s_v hf (x_nilCheck (hf.eval rfl)) ?_; clear hf a; intro a hf
            refine s_v hf (x_fieldAddr fo78_1 (hf.eval rfl)) ?_; clear hf a; intro a hf
            refine s_do0 hf rfl (y_store hs sc22 (hf.eval rfl) (hf.eval rfl) rfl (by first | exact .here _ | exact .there _ (.here _) | exact .there _ (.there _ (.here _)) | exact .there _ (.there _ (.there _ (.here _))) | exact .there _ (.there _ (.there _ (.there _ (.here _)))) | exact .there _ (.there _ (.there _ (.there _ (.there _ (.here _)))))) (by simp) ?_); clear hf hs a; intro w hs a hf
            have htk : (u.now.take n.toNat).length = n.toNat := by rw [List.length_take]; omega
            replace hs := ((hs.take (.there _ (.here _))).cutSl (m := n.toNat) hul).take (.there _ (.here _))
            refine s_nil ?_
            refine then_n ?_
            refine wp_seq ?_
            refine wp_seq ?_
            refine wp_region_lit ?_
            refine s_m hf rfl ?_; clear hf a; intro a hf
            refine s_m hf rfl ?_; clear hf a; intro a hf
            refine s_v hf (x_bin (hf.eval rfl) (hf.eval rfl) (r_ne _ _ _ _)) ?_; clear hf a; intro a hf
            refine s_nil ?_
            refine then_n ?_
            refine c_cond hf rfl (fun hi6 => ?_) (fun hi6 => ?_)
            · simp only [decide_eq_true_eq, decide_eq_false_iff_not, Bool.not_eq_true', Bool.not_eq_false', Bool.not_eq_true, Int.not_lt, Int.not_le] at hi6
              refine wp_region_lit ?_
              refine s_m hf rfl ?_; clear hf a; intro a hf
              refine s_m hf rfl ?_; clear hf a; intro a hf
              refine s_v hf (x_nilCheck (hf.eval rfl)) ?_; clear hf a; intro a hf
              refine s_v hf (x_fieldAddr fo78_4 (hf.eval rfl)) ?_; clear hf a; intro a hf
              refine s_r hf (x_load sc38 (hf.eval rfl) (by first | exact hs.cell (.here _) rfl | exact hs.cell (.there _ (.here _)) rfl | exact hs.cell (.there _ (.there _ (.here _))) rfl | exact hs.cell (.there _ (.there _ (.there _ (.here _)))) rfl | exact hs.cell (.there _ (.there _ (.there _ (.there _ (.here _))))) rfl | exact hs.cell (.there _ (.there _ (.there _ (.there _ (.there _ (.here _)))))) rfl)) ?_; clear hf a; intro a hf
              refine s_m hf rfl ?_; clear hf a; intro a hf
              replace hf := hf.now (k := 60) (v' := .int .i64 ((u.now.take n.toNat).length : Int)) rfl (by rw [htk]; congr 1; omega)
              refine s_do hf rfl (y_lit (xs := [.tmp 60]) hs sl38 (hf.evals rfl) rfl (by simp [Value.cells]) (by decide) ?_); clear hf hs a; intro b2 w hs a hf
              refine s_do hf rfl (y_append (n := u.sizes.length) (m := 1) (ys := [.int .i64 (((u.now.take n.toNat).length : Nat) : Int)]) hs sl38 (hf.eval rfl) (hf.eval rfl) (.there _ (.there _ (.there _ (.there _ (.there _ (.there _ (.here _))))))) (hs.rd (.here _) fun h hb => rd_rows hb rfl) (by simp [Value.oneCell']) (by omega) (by rw [maxLen_eq]; omega) ?_); clear hf hs a; intro v2 w hs hv a hf
              rw [← szC_append, show u.sizes.length + 1 = (u.sizes ++ [((u.now.take n.toNat).length : Nat)]).length by simp] at hs
              obtain ⟨a7, c7, rfl⟩ := sl_shape hs
              refine s_v hf (x_nilCheck (hf.eval rfl)) ?_; clear hf a; intro a hf
              refine s_v hf (x_fieldAddr fo78_4 (hf.eval rfl)) ?_; clear hf a; intro a hf
              refine s_do0 hf rfl (y_store hs sc38 (hf.eval rfl) (hf.eval rfl) rfl (by first | exact .here _ | exact .there _ (.here _) | exact .there _ (.there _ (.here _)) | exact .there _ (.there _ (.there _ (.here _))) | exact .there _ (.there _ (.there _ (.there _ (.here _)))) | exact .there _ (.there _ (.there _ (.there _ (.there _ (.here _)))))) (by simp) ?_); clear hf hs a; intro w hs a hf
              replace hs := St.give (L := _) (hs.lose (.there _ (.here _))) (.there _ (.there _ (.there _ (.there _ (.there _ (.here _))))))
              refine s_nil ?_
              refine then_n ?_
              refine wp_seq ?_
              refine wp_region_lit ?_
              refine s_a hf rfl ?_; clear hf a; intro a hf
              refine s_nil ?_
              refine then_n ?_
              refine wp_ret ?_
              refine r_1 hf Try.results32 rfl ?_
              rw [trS_some hi1 (by omega) (by omega) hi4, ← ht]
              unfold trN
              rw [← hu]
              first | (rw [sized_eq (show (u.now.take n.toNat).length = s.now.length by omega)]; exact ⟨rfl, diskA_close (s := { u with now := u.now.take n.toNat }) (x := ⟨.slice a1 n.toNat c1, .slice a2 u.dur.length c2, m, .slice a4 u.sizes.length c4, es, clk⟩) hm hg hs⟩) | (rw [sized_ne (show (u.now.take n.toNat).length ≠ s.now.length by omega)]; exact ⟨rfl, diskA_close (s := { { u with now := u.now.take n.toNat } with sizes := u.sizes ++ [(u.now.take n.toNat).length] }) (x := ⟨.slice a1 n.toNat c1, .slice a2 u.dur.length c2, m, .slice a7 (u.sizes ++ [(u.now.take n.toNat).length]).length c7, es, clk⟩) hm hg hs⟩)
            · simp only [decide_eq_true_eq, decide_eq_false_iff_not, Bool.not_eq_true', Bool.not_eq_false', Bool.not_eq_true, Int.not_lt, Int.not_le] at hi6
              refine wp_skip ?_
              refine then_n ?_
              refine wp_seq ?_
              refine wp_region_lit ?_
              refine s_a hf rfl ?_; clear hf a; intro a hf
              refine s_nil ?_
              refine then_n ?_
              refine wp_ret ?_
              refine r_1 hf Try.results32 rfl ?_
              rw [trS_some hi1 (by omega) (by omega) hi4, ← ht]
              unfold trN
              rw [← hu]
              first | (rw [sized_eq (show (u.now.take n.toNat).length = s.now.length by omega)]; exact ⟨rfl, diskA_close (s := { u with now := u.now.take n.toNat }) (x := ⟨.slice a1 n.toNat c1, .slice a2 u.dur.length c2, m, .slice a4 u.sizes.length c4, es, clk⟩) hm hg hs⟩) | (rw [sized_ne (show (u.now.take n.toNat).length ≠ s.now.length by omega)]; exact ⟨rfl, diskA_close (s := { { u with now := u.now.take n.toNat } with sizes := u.sizes ++ [(u.now.take n.toNat).length] }) (x := ⟨.slice a1 n.toNat c1, .slice a2 u.dur.length c2, m, .slice a7 (u.sizes ++ [(u.now.take n.toNat).length]).length c7, es, clk⟩) hm hg hs⟩)

theorem dSync_spec (σ : Sig) (w : World) (R : List Asrt) (p : Nat) (s : DS) (hs : St σ w (diskA 78 83 5 3 p s :: R)) (ho : DOk s) (hcl : s.calls ≤ 4611686018427387904) (hpc : s.pcs.length ≤ 1099511600000) (hsl : s.sizes.length ≤ 1099511600000) : Calls Try.prog 42 #[.pointer (some ⟨p, 0, none⟩)] w fun e w' => e = .returned (.int .i64 (syS s).1) ∧ St σ w' (diskA 78 83 5 3 p (syS s).2 :: R) := by
  have hroom1 := ho.room1
  have hnow1 := ho.now
  obtain ⟨⟨v1, v2, m, v4, es, clk⟩, hm, hg, hs⟩ := diskA_open hs
  dsimp only at hm hg hs
  obtain ⟨a1, c1, rfl, hc1⟩ := slB_shape (hs.take (.there _ (.here _)))
  obtain ⟨a2, c2, rfl, hc2⟩ := slB_shape (hs.take (.there _ (.there _ (.here _))))
  obtain ⟨a4, c4, rfl⟩ := sl_shape (hs.take (.there _ (.there _ (.there _ (.there _ (.there _ (.here _)))))))
  refine c_enter (N := 31) Try.func42 rfl Try.ntmps42 (by simp) ?_
  intro a hf
  refine wp_seq ?_
  refine wp_region_lit ?_
  refine s_a hf rfl ?_; clear hf a; intro a hf
  refine s_nil ?_
  refine then_n ?_
  refine wp_seq ?_
  refine wp_block ?_
  refine wp_seq ?_
  refine wp_region_lit ?_
  refine s_m hf rfl ?_; clear hf a; intro a hf
  refine s_v hf (x_eqNil Try.underlying23 (hf.eval rfl) (hf.eval rfl)) ?_; clear hf a; intro a hf
  replace hf := hf.now (k := 5) (v' := .bool false) rfl rfl
  refine s_a hf rfl ?_; clear hf a; intro a hf
  refine s_nil ?_
  refine then_n ?_
  refine c_cond_f hf rfl rfl ?_
  refine wp_seq ?_
  refine wp_region_lit ?_
  refine s_m hf rfl ?_; clear hf a; intro a hf
  refine s_v hf (x_nilCheck (hf.eval rfl)) ?_; clear hf a; intro a hf
  refine s_v hf (x_fieldAddr fo78_7 (hf.eval rfl)) ?_; clear hf a; intro a hf
  refine s_r hf (x_load sc4 (hf.eval rfl) (by first | exact hs.cell (.here _) rfl | exact hs.cell (.there _ (.here _)) rfl | exact hs.cell (.there _ (.there _ (.here _))) rfl | exact hs.cell (.there _ (.there _ (.there _ (.here _)))) rfl | exact hs.cell (.there _ (.there _ (.there _ (.there _ (.here _))))) rfl | exact hs.cell (.there _ (.there _ (.there _ (.there _ (.there _ (.here _)))))) rfl)) ?_; clear hf a; intro a hf
  refine s_m hf rfl ?_; clear hf a; intro a hf
  refine s_bool hf (k := 11) rfl (fun hg3_4 hf' => ?_) (fun hg3_4 hf' => ?_)
  · clear hf
    have hf := hf'
    clear hf'
    refine s_pass hf rfl rfl ?_; clear hf a; intro a hf
    refine s_pass hf rfl rfl ?_; clear hf a; intro a hf
    refine s_pass hf rfl rfl ?_; clear hf a; intro a hf
    refine s_v hf (x_pick_t (hf.eval rfl) (hf.eval rfl)) ?_; clear hf a; intro a hf
    refine s_a hf rfl ?_; clear hf a; intro a hf
    refine s_nil ?_
    refine then_n ?_
    refine c_cond_t hf rfl rfl ?_
    refine wp_seq ?_
    refine wp_region_lit ?_
    refine s_a hf rfl ?_; clear hf a; intro a hf
    refine s_nil ?_
    refine then_n ?_
    refine wp_ret ?_
    refine blk_r (then_r ?_)
    refine r_1 hf Try.results42 rfl ?_
    first | (rw [syS_dead hg3_4]; exact ⟨rfl, diskA_close (x := ⟨_, _, m, _, es, clk⟩) hm hg hs⟩) | (rw [syS_fuse hg3_4 hi1, ← ht]; exact ⟨rfl, hs⟩)
  · clear hf
    have hf := hf'
    clear hf'
    refine s_do hf (wanted_of hf rfl rfl rfl) (.value (x_move (hf.eval rfl) _) ?_); clear hf a; intro a hf
    replace hs := diskA_close (s := s) (x := ⟨_, _, m, _, es, clk⟩) hm hg hs
    refine s_do hf (wanted_of hf rfl rfl rfl) (y_call (hf.eval rfl) (hf.evals rfl) Try.call54 ((spend_spec _ _ _ p s hs ho.fuse.2 ho.fuse.1 hcl).mono ?_))
    rintro e w1 ⟨rfl, hs⟩
    obtain ⟨t, ht⟩ : ∃ t, t = spent s := ⟨_, rfl⟩
    rw [← ht] at hs
    obtain ⟨htn, htr, htd, htp, hts⟩ := spent_now s
    rw [← ht] at htn htr htd htp hts
    have hto := spent_ok ho
    rw [← ht] at hto
    have htn2 : t.now.length = s.now.length := by rw [htn]
    have htp2 : t.pcs.length = s.pcs.length := by rw [htp]
    have hts2 : t.sizes.length = s.sizes.length := by rw [hts]
    refine ⟨_, rfl, ?_⟩; clear hf a; intro a hf
    refine s_do hf (wanted_of hf rfl rfl rfl) (.value (x_not (hf.eval rfl) _) ?_); clear hf a; intro a hf
    refine s_v hf (x_pick_f (hf.eval rfl) (hf.eval rfl)) ?_; clear hf a; intro a hf
    refine s_a hf rfl ?_; clear hf a; intro a hf
    refine s_nil ?_
    refine then_n ?_
    refine c_cond hf rfl (fun hi1 => ?_) (fun hi1 => ?_)
    · simp only [Bool.not_eq_true', Bool.not_eq_false', decide_eq_true_eq, decide_eq_false_iff_not, ne_eq, Decidable.not_not] at hi1
      refine wp_seq ?_
      refine wp_region_lit ?_
      refine s_a hf rfl ?_; clear hf a; intro a hf
      refine s_nil ?_
      refine then_n ?_
      refine wp_ret ?_
      refine blk_r (then_r ?_)
      refine r_1 hf Try.results42 rfl ?_
      first | (rw [syS_dead hg3_4]; exact ⟨rfl, diskA_close (x := ⟨_, _, m, _, es, clk⟩) hm hg hs⟩) | (rw [syS_fuse hg3_4 hi1, ← ht]; exact ⟨rfl, hs⟩)
    · simp only [Bool.not_eq_true', Bool.not_eq_false', decide_eq_true_eq, decide_eq_false_iff_not, ne_eq, Decidable.not_not] at hi1
      obtain ⟨⟨v1, v2, m, v4, es, clk⟩, hm, hg, hs⟩ := diskA_open hs
      dsimp only at hm hg hs
      obtain ⟨a1, c1, rfl, hc1⟩ := slB_shape (hs.take (.there _ (.here _)))
      obtain ⟨a2, c2, rfl, hc2⟩ := slB_shape (hs.take (.there _ (.there _ (.here _))))
      obtain ⟨a4, c4, rfl⟩ := sl_shape (hs.take (.there _ (.there _ (.there _ (.there _ (.there _ (.here _)))))))
      refine wp_skip ?_
      refine blk_n ?_
      refine then_n ?_
      refine wp_seq ?_
      refine wp_region_lit ?_
      refine s_m hf rfl ?_; clear hf a; intro a hf
      refine s_m hf rfl ?_; clear hf a; intro a hf
      refine s_v hf (x_nilCheck (hf.eval rfl)) ?_; clear hf a; intro a hf
      refine s_v hf (x_fieldAddr fo78_1 (hf.eval rfl)) ?_; clear hf a; intro a hf
      refine s_r hf (x_load sc22 (hf.eval rfl) (by first | exact hs.cell (.here _) rfl | exact hs.cell (.there _ (.here _)) rfl | exact hs.cell (.there _ (.there _ (.here _))) rfl | exact hs.cell (.there _ (.there _ (.there _ (.here _)))) rfl | exact hs.cell (.there _ (.there _ (.there _ (.there _ (.here _))))) rfl | exact hs.cell (.there _ (.there _ (.there _ (.there _ (.there _ (.here _)))))) rfl)) ?_; clear hf a; intro a hf
      refine s_do hf rfl (y_call (hf.eval rfl) (hf.evals rfl) Try.call53 ((dclone_spec _ _ _ t.now (hs.rdB (.there _ (.here _)) fun h => slB_rd) (by omega)).mono ?_))
      rintro e w1 ⟨e1, fe1, rfl, hj⟩
      replace hs := hs.join hj
      simp only [List.cons_append, List.nil_append] at hs
      refine ⟨_, rfl, ?_⟩; clear hf a; intro a hf
      refine s_v hf (x_nilCheck (hf.eval rfl)) ?_; clear hf a; intro a hf
      refine s_v hf (x_fieldAddr fo78_2 (hf.eval rfl)) ?_; clear hf a; intro a hf
      refine s_do0 hf rfl (y_store hs sc22 (hf.eval rfl) (hf.eval rfl) rfl (by first | exact .here _ | exact .there _ (.here _) | exact .there _ (.there _ (.here _)) | exact .there _ (.there _ (.there _ (.here _))) | exact .there _ (.there _ (.there _ (.there _ (.here _)))) | exact .there _ (.there _ (.there _ (.there _ (.there _ (.here _)))))) (by simp) ?_); clear hf hs a; intro w hs a hf
      replace hs := (((hs.lose (.there _ (.there _ (.there _ (.here _))))).take (.there _ (.there _ (.here _)))).take (.there _ (.there _ (.here _))))
      refine s_nil ?_
      refine then_n ?_
      refine wp_seq ?_
      refine wp_region_lit ?_
      refine s_m hf rfl ?_; clear hf a; intro a hf
      refine s_do hf rfl (y_makeMap hs ?_); clear hf hs a; intro m2 w hs a hf
      refine s_v hf (x_nilCheck (hf.eval rfl)) ?_; clear hf a; intro a hf
      refine s_v hf (x_fieldAddr fo78_3 (hf.eval rfl)) ?_; clear hf a; intro a hf
      refine s_do0 hf rfl (y_store hs sc76 (hf.eval rfl) (hf.eval rfl) rfl (by first | exact .here _ | exact .there _ (.here _) | exact .there _ (.there _ (.here _)) | exact .there _ (.there _ (.there _ (.here _))) | exact .there _ (.there _ (.there _ (.there _ (.here _)))) | exact .there _ (.there _ (.there _ (.there _ (.there _ (.here _)))))) (by simp) ?_); clear hf hs a; intro w hs a hf
      refine s_nil ?_
      refine then_n ?_
      refine wp_seq ?_
      refine wp_region_lit ?_
      refine s_m hf rfl ?_; clear hf a; intro a hf
      refine s_v hf (x_nilCheck (hf.eval rfl)) ?_; clear hf a; intro a hf
      refine s_v hf (x_fieldAddr fo78_4 (hf.eval rfl)) ?_; clear hf a; intro a hf
      refine s_do0 hf rfl (y_store hs sc38 (hf.eval rfl) (hf.eval rfl) rfl (by first | exact .here _ | exact .there _ (.here _) | exact .there _ (.there _ (.here _)) | exact .there _ (.there _ (.there _ (.here _))) | exact .there _ (.there _ (.there _ (.there _ (.here _)))) | exact .there _ (.there _ (.there _ (.there _ (.there _ (.here _)))))) (by simp) ?_); clear hf hs a; intro w hs a hf
      refine s_nil ?_
      refine then_n ?_
      refine wp_seq ?_
      refine wp_region_lit ?_
      refine s_a hf rfl ?_; clear hf a; intro a hf
      refine s_nil ?_
      refine then_n ?_
      refine wp_ret ?_
      refine r_1 hf Try.results42 rfl ?_
      rw [syS_some hg3_4 hi1, ← ht, ← htn]
      replace hs := St.give (L := _) (((hs.lose (.there _ (.there _ (.there _ (.there _ (.here _)))))).lose (.there _ (.there _ (.there _ (.there _ (.here _)))))).lose (.there _ (.there _ (.there _ (.there _ (.here _)))))) (.there _ (.there _ (.there _ (.here _))))
      replace hs := St.give (L := _) (hs.emp (A := entsA 83 5 []) (fun _ => trivial)) (.there _ (.there _ (.there _ (.there _ (.here _)))))
      replace hs := St.give (L := _) (hs.emp (A := sl 3 1 (.slice none 0 0) 0 []) (fun _ => ⟨rfl, .inl ⟨rfl, rfl⟩⟩)) (.there _ (.there _ (.there _ (.there _ (.there _ (.here _))))))
      exact ⟨rfl, diskA_close (s := { t with dur := t.now, pcs := [], sizes := [] }) (x := ⟨.slice a1 t.now.length c1, .slice e1 t.now.length fe1, m2, .slice none 0 0, [], 0⟩) (MOk.nil 0) Grp.nil hs⟩

end Go.Proofs.Ytjfnpbeehjhmbaa
