/- Texts 15 of 17 that the law rests on: the small library, contracts of functions, printed by a program. -/
import Derived.Test.YtehakfbfjpolfaaDoorProg
import Derived.Test.YtehakfbfjpolfaaDoorRv1
import Derived.Test.YtehakfbfjpolfaaDoorRv2
import Derived.Test.YtehakfbfjpolfaaDoorRv3
import Derived.Test.YtehakfbfjpolfaaDoorRv4
import Derived.Test.YtehakfbfjpolfaaDoorRv5
import Derived.Test.YtehakfbfjpolfaaDoorRv6
import Derived.Test.YtehakfbfjpolfaaDoorRv7
import Derived.Test.YtehakfbfjpolfaaDoorRv8
import Derived.Test.YtehakfbfjpolfaaDoorRv9
import Derived.Test.YtehakfbfjpolfaaDoorRv10
import Derived.Test.YtehakfbfjpolfaaDoorRv11
import Derived.Test.YtehakfbfjpolfaaDoorRv12
import Derived.Test.YtehakfbfjpolfaaDoorRv13
import Derived.Test.YtehakfbfjpolfaaDoorRv14
set_option maxRecDepth 100000
set_option linter.all false
namespace Go.Proofs.YtehakfbfjpolfaaDoor
open Go Vw
theorem hole_eq (n : Nat) (data : List UInt8) : List.replicate n (0 : UInt8) ++ data = spl (List.replicate (n + data.length) 0) n (data.take (min data.length data.length)) := by
  unfold spl
  rw [Nat.min_self, List.take_length, List.take_replicate, List.drop_replicate, Nat.min_eq_left (by omega), Nat.sub_self, List.replicate_zero, List.append_nil]
theorem rWrite_spec (σ : Sig) (w : World) (R : List Asrt) (p : Nat) (s : DS) (hs : St σ w (refA 97 139 5 3 p s :: R)) (off : Int) (ad : Option Addr) (cd : Nat) (data : List UInt8) (hr : Rdy σ R (.slice ad data.length cd) data) (hdl : data.length ≤ 140737488351232) (ho : DOk s) (hcl : s.calls ≤ 4611686018427387904) (hpc : s.pcs.length ≤ 1099511600000) (hsl : s.sizes.length ≤ 1099511600000) : Calls Tryd.prog 68 #[.pointer (some ⟨p, 0, none⟩), .int .i64 off, .slice ad data.length cd] w fun e w' => e = .returned (.int .i64 (wrS s off data).1) ∧ St σ w' (refA 97 139 5 3 p (wrS s off data).2 :: R) := by
  have hroom0 := ho.room0
  have hroom1 := ho.room1
  have hnow1 := ho.now
  obtain ⟨⟨v1, v2, v3, v4, ps⟩, hps, hs⟩ := refA_open hs
  dsimp only at hps hs
  obtain ⟨a1, c1, rfl, hc1⟩ := slB_shape (hs.take .k1)
  obtain ⟨a2, c2, rfl, hc2⟩ := slB_shape (hs.take .k2)
  obtain ⟨a3, c3, rfl⟩ := sl_shape (hs.take .k3)
  obtain ⟨a4, c4, rfl⟩ := sl_shape (hs.take .k5)
  refine c_enter (N := 94) Tryd.func68 rfl Tryd.ntmps68 (by simp) ?_
  intro a hf
  refine wp_seq ?_
  refine wp_region_lit ?_
  refine s_a hf rfl ?_; clear hf a; intro a hf
  refine s_nil ?_
  refine then_n ?_
  refine wp_seq ?_
  refine wp_seq ?_
  refine wp_region_lit ?_
  refine s_m hf rfl ?_; clear hf a; intro a hf
  refine s_v hf (x_eqNil Tryd.underlying52 (hf.eval rfl) (hf.eval rfl)) ?_; clear hf a; intro a hf
  replace hf := hf.now (k := 11) (v' := .bool false) rfl rfl
  refine s_nil ?_
  refine then_n ?_
  refine c_cond_f hf rfl rfl ?_
  refine wp_skip ?_
  refine then_n ?_
  refine wp_seq ?_
  refine wp_seq ?_
  refine wp_region_lit ?_
  refine s_m hf rfl ?_; clear hf a; intro a hf
  refine s_v hf (x_nilCheck (hf.eval rfl)) ?_; clear hf a; intro a hf
  refine s_v hf (x_fieldAddr fo97_7 (hf.eval rfl)) ?_; clear hf a; intro a hf
  refine s_r hf (x_load sc4 (hf.eval rfl) (by first | exact hs.cell .k0 rfl | exact hs.cell .k1 rfl | exact hs.cell .k2 rfl | exact hs.cell .k3 rfl | exact hs.cell .k4 rfl | exact hs.cell .k5 rfl)) ?_; clear hf a; intro a hf
  refine s_v hf (x_not (hf.eval rfl)) ?_; clear hf a; intro a hf
  refine s_nil ?_
  refine then_n ?_
  refine c_cond hf rfl (fun hi1 => ?_) (fun hi1 => ?_)
  · simp only [Bool.not_not] at hi1
    refine wp_seq ?_
    refine wp_region_lit ?_
    refine s_a hf rfl ?_; clear hf a; intro a hf
    refine s_nil ?_
    refine then_n ?_
    refine wp_ret ?_
    refine then_r ?_
    refine r_1 hf Tryd.results68 rfl ?_
    rw [wrS_dead hi1]
    exact ⟨rfl, refA_close (x := ⟨_, _, _, _, ps⟩) hps hs⟩
  · simp only [Bool.not_not] at hi1
    refine wp_skip ?_
    refine then_n ?_
    refine wp_seq ?_
    refine wp_seq ?_
    refine wp_region_lit ?_
    refine s_m hf rfl ?_; clear hf a; intro a hf
    refine s_v hf (x_bin (hf.eval rfl) (hf.eval rfl) (r_lt _ _ _ _)) ?_; clear hf a; intro a hf
    refine s_nil ?_
    refine then_n ?_
    refine c_cond hf rfl (fun hi2 => ?_) (fun hi2 => ?_)
    · simp only [decide_eq_true_eq, decide_eq_false_iff_not, Bool.not_eq_true', Bool.not_eq_false', Bool.not_eq_true, Int.not_lt, Int.not_le] at hi2
      refine wp_seq ?_
      refine wp_region_lit ?_
      refine s_a hf rfl ?_; clear hf a; intro a hf
      refine s_nil ?_
      refine then_n ?_
      refine wp_ret ?_
      refine then_r ?_
      refine r_1 hf Tryd.results68 rfl ?_
      rw [wrS_neg hi1 (by omega)]
      exact ⟨rfl, refA_close (x := ⟨_, _, _, _, ps⟩) hps hs⟩
    · simp only [decide_eq_true_eq, decide_eq_false_iff_not, Bool.not_eq_true', Bool.not_eq_false', Bool.not_eq_true, Int.not_lt, Int.not_le] at hi2
      refine wp_skip ?_
      refine then_n ?_
      refine wp_seq ?_
      refine wp_seq ?_
      refine wp_region_lit ?_
      refine s_m hf rfl ?_; clear hf a; intro a hf
      refine s_m hf rfl ?_; clear hf a; intro a hf
      refine s_v hf (x_nilCheck (hf.eval rfl)) ?_; clear hf a; intro a hf
      refine s_v hf (x_fieldAddr fo97_0 (hf.eval rfl)) ?_; clear hf a; intro a hf
      refine s_r hf (x_load sc3 (hf.eval rfl) (by first | exact hs.cell .k0 rfl | exact hs.cell .k1 rfl | exact hs.cell .k2 rfl | exact hs.cell .k3 rfl | exact hs.cell .k4 rfl | exact hs.cell .k5 rfl)) ?_; clear hf a; intro a hf
      refine s_v hf (x_bin (hf.eval rfl) (hf.eval rfl) (r_gt _ _ _ _)) ?_; clear hf a; intro a hf
      refine s_m hf rfl ?_; clear hf a; intro a hf
      refine s_bool hf (k := 25) rfl (fun hg7_6 hf' => ?_) (fun hg7_6 hf' => ?_)
      · clear hf
        have hf := hf'
        clear hf'
        simp only [decide_eq_true_eq, decide_eq_false_iff_not] at hg7_6
        refine s_pass hf rfl rfl ?_; clear hf a; intro a hf
        refine s_pass hf rfl rfl ?_; clear hf a; intro a hf
        refine s_pass hf rfl rfl ?_; clear hf a; intro a hf
        refine s_pass hf rfl rfl ?_; clear hf a; intro a hf
        refine s_pass hf rfl rfl ?_; clear hf a; intro a hf
        refine s_pass hf rfl rfl ?_; clear hf a; intro a hf
        refine s_pass hf rfl rfl ?_; clear hf a; intro a hf
        refine s_pass hf rfl rfl ?_; clear hf a; intro a hf
        refine s_pass hf rfl rfl ?_; clear hf a; intro a hf
        refine s_v hf (x_pick_t (hf.eval rfl) (hf.eval rfl)) ?_; clear hf a; intro a hf
        refine s_nil ?_
        refine then_n ?_
        refine c_cond_t hf rfl rfl ?_
        refine wp_seq ?_
        refine wp_region_lit ?_
        refine s_a hf rfl ?_; clear hf a; intro a hf
        refine s_nil ?_
        refine then_n ?_
        refine wp_ret ?_
        refine then_r ?_
        refine r_1 hf Tryd.results68 rfl ?_
        rw [wrS_big hi1 (by omega) (by omega)]
        exact ⟨rfl, refA_close (x := ⟨_, _, _, _, ps⟩) hps hs⟩
      · clear hf
        have hf := hf'
        clear hf'
        simp only [decide_eq_true_eq, decide_eq_false_iff_not] at hg7_6
        refine s_do hf (wanted_of hf rfl rfl rfl) (.value (x_move (hf.eval rfl) _) ?_); clear hf a; intro a hf
        refine s_do hf (wanted_of hf rfl rfl rfl) (.value (x_len Tryd.underlying25 (hf.eval rfl) _) ?_); clear hf a; intro a hf
        refine s_do hf (wanted_of hf rfl rfl rfl) (.value (x_move (hf.eval rfl) _) ?_); clear hf a; intro a hf
        refine s_do hf (wanted_of hf rfl rfl rfl) (.value (x_nilCheck (hf.eval rfl) _) ?_); clear hf a; intro a hf
        refine s_do hf (wanted_of hf rfl rfl rfl) (.value (x_fieldAddr fo97_0 (hf.eval rfl) _) ?_); clear hf a; intro a hf
        refine s_do hf (wanted_of hf rfl rfl rfl) (.value (x_load sc3 (hf.eval rfl) (by first | exact hs.cell .k0 rfl | exact hs.cell .k1 rfl | exact hs.cell .k2 rfl | exact hs.cell .k3 rfl | exact hs.cell .k4 rfl | exact hs.cell .k5 rfl)) ?_); clear hf a; intro a hf
        refine s_do hf (wanted_of hf rfl rfl rfl) (.value (x_move (hf.eval rfl) _) ?_); clear hf a; intro a hf
        refine s_do hf (wanted_of hf rfl rfl rfl) (.value (x_bin (hf.eval rfl) (hf.eval rfl) (r_subi _ (by omega) (by omega)) _) ?_); clear hf a; intro a hf
        refine s_do hf (wanted_of hf rfl rfl rfl) (.value (x_bin (hf.eval rfl) (hf.eval rfl) (r_gt _ _ _ _) _) ?_); clear hf a; intro a hf
        refine s_v hf (x_pick_f (hf.eval rfl) (hf.eval rfl)) ?_; clear hf a; intro a hf
        refine s_nil ?_
        refine then_n ?_
        refine c_cond hf rfl (fun hi3 => ?_) (fun hi3 => ?_)
        · simp only [decide_eq_true_eq, decide_eq_false_iff_not, Bool.not_eq_true', Bool.not_eq_false', Bool.not_eq_true, Int.not_lt, Int.not_le] at hi3
          refine wp_seq ?_
          refine wp_region_lit ?_
          refine s_a hf rfl ?_; clear hf a; intro a hf
          refine s_nil ?_
          refine then_n ?_
          refine wp_ret ?_
          refine then_r ?_
          refine r_1 hf Tryd.results68 rfl ?_
          rw [wrS_big hi1 (by omega) (by omega)]
          exact ⟨rfl, refA_close (x := ⟨_, _, _, _, ps⟩) hps hs⟩
        · simp only [decide_eq_true_eq, decide_eq_false_iff_not, Bool.not_eq_true', Bool.not_eq_false', Bool.not_eq_true, Int.not_lt, Int.not_le] at hi3
          refine wp_skip ?_
          refine then_n ?_
          refine wp_seq ?_
          refine wp_region_lit ?_
          refine s_m hf rfl ?_; clear hf a; intro a hf
          replace hs := refA_close (s := s) (x := ⟨_, _, _, _, ps⟩) hps hs
          refine s_do hf rfl (y_call (hf.eval rfl) (hf.evals rfl) Tryd.call88 ((carried_spec _ _ _ p s hs ho.fuse.2 ho.fuse.1 hcl).mono ?_))
          rintro e w1 ⟨rfl, hs⟩
          obtain ⟨t, ht⟩ : ∃ t, t = spent s := ⟨_, rfl⟩
          rw [← ht] at hs
          obtain ⟨htn, htr, htd, htp, hts⟩ := spent_now s
          rw [← ht] at htn htr htd htp hts
          have hto := spent_ok ho
          rw [← ht] at hto
          have htn2 : t.now.length = s.now.length := by rw [htn]
          have htp2 : t.pcs.length = s.pcs.length := by rw [htp]
          have hts2 : t.sizes.length = s.sizes.length := by rw [hts]
          refine ⟨_, rfl, ?_⟩; clear hf a; intro a hf
          refine s_a hf rfl ?_; clear hf a; intro a hf
          refine s_nil ?_
          refine then_n ?_
          refine wp_seq ?_
          refine wp_seq ?_
          refine wp_region_lit ?_
          refine s_m hf rfl ?_; clear hf a; intro a hf
          refine s_v hf (x_not (hf.eval rfl)) ?_; clear hf a; intro a hf
          refine s_nil ?_
          refine then_n ?_
          refine c_cond hf rfl (fun hi4 => ?_) (fun hi4 => ?_)
          · simp only [Bool.not_eq_true', Bool.not_eq_false', decide_eq_true_eq, decide_eq_false_iff_not, ne_eq, Decidable.not_not] at hi4
            refine wp_seq ?_
            refine wp_region_lit ?_
            refine s_a hf rfl ?_; clear hf a; intro a hf
            refine s_nil ?_
            refine then_n ?_
            refine wp_ret ?_
            refine then_r ?_
            refine r_1 hf Tryd.results68 rfl ?_
            rw [wrS_fuse hi1 (by omega) (by omega) hi4, ← ht]
            exact ⟨rfl, hs⟩
          · simp only [Bool.not_eq_true', Bool.not_eq_false', decide_eq_true_eq, decide_eq_false_iff_not, ne_eq, Decidable.not_not] at hi4
            refine wp_skip ?_
            refine then_n ?_
            refine wp_seq ?_
            refine wp_seq ?_
            refine wp_region_lit ?_
            refine s_m hf rfl ?_; clear hf a; intro a hf
            refine s_v hf (x_len Tryd.underlying25 (hf.eval rfl)) ?_; clear hf a; intro a hf
            refine s_v hf (x_bin (hf.eval rfl) (hf.eval rfl) (r_eq _ _ _ _)) ?_; clear hf a; intro a hf
            refine s_nil ?_
            refine then_n ?_
            refine c_cond hf rfl (fun hi5 => ?_) (fun hi5 => ?_)
            · simp only [decide_eq_true_eq, decide_eq_false_iff_not, Bool.not_eq_true', Bool.not_eq_false', Bool.not_eq_true, Int.not_lt, Int.not_le] at hi5
              refine wp_seq ?_
              refine wp_region_lit ?_
              refine s_a hf rfl ?_; clear hf a; intro a hf
              refine s_nil ?_
              refine then_n ?_
              refine wp_ret ?_
              refine then_r ?_
              refine r_1 hf Tryd.results68 rfl ?_
              rw [wrS_none hi1 (by omega) (by omega) hi4 (List.eq_nil_of_length_eq_zero (by omega)), ← ht]
              exact ⟨rfl, hs⟩
            · simp only [decide_eq_true_eq, decide_eq_false_iff_not, Bool.not_eq_true', Bool.not_eq_false', Bool.not_eq_true, Int.not_lt, Int.not_le] at hi5
              have hd : data ≠ [] := by intro h9; subst h9; simp at hi5
              obtain ⟨⟨v1, v2, v3, v4, ps⟩, hps, hs⟩ := refA_open hs
              dsimp only at hps hs
              obtain ⟨a1, c1, rfl, hc1⟩ := slB_shape (hs.take .k1)
              obtain ⟨a2, c2, rfl, hc2⟩ := slB_shape (hs.take .k2)
              obtain ⟨a3, c3, rfl⟩ := sl_shape (hs.take .k3)
              obtain ⟨a4, c4, rfl⟩ := sl_shape (hs.take .k5)
              refine wp_skip ?_
              refine then_n ?_
              refine wp_seq ?_
              refine wp_region_lit ?_
              refine s_m hf rfl ?_; clear hf a; intro a hf
              refine s_v hf (x_nilCheck (hf.eval rfl)) ?_; clear hf a; intro a hf
              refine s_v hf (x_fieldAddr fo97_1 (hf.eval rfl)) ?_; clear hf a; intro a hf
              refine s_r hf (x_load sc25 (hf.eval rfl) (by first | exact hs.cell .k0 rfl | exact hs.cell .k1 rfl | exact hs.cell .k2 rfl | exact hs.cell .k3 rfl | exact hs.cell .k4 rfl | exact hs.cell .k5 rfl)) ?_; clear hf a; intro a hf
              refine s_v hf (x_len Tryd.underlying25 (hf.eval rfl)) ?_; clear hf a; intro a hf
              refine s_a hf rfl ?_; clear hf a; intro a hf
              refine s_nil ?_
              refine then_n ?_
              refine wp_seq ?_
              refine wp_seq ?_
              refine wp_region_lit ?_
              refine s_m hf rfl ?_; clear hf a; intro a hf
              refine s_m hf rfl ?_; clear hf a; intro a hf
              refine s_v hf (x_bin (hf.eval rfl) (hf.eval rfl) (r_le _ _ _ _)) ?_; clear hf a; intro a hf
              refine s_nil ?_
              refine then_n ?_
              refine c_cond hf rfl (fun hi6 => ?_) (fun hi6 => ?_)
              · simp only [decide_eq_true_eq, decide_eq_false_iff_not, Bool.not_eq_true', Bool.not_eq_false', Bool.not_eq_true, Int.not_lt, Int.not_le] at hi6
                refine wp_region_lit ?_
                refine s_m hf rfl ?_; clear hf a; intro a hf
                refine s_m hf rfl ?_; clear hf a; intro a hf
                replace hf := hf.now (k := 52) (v' := .int .i64 (off.toNat : Int)) rfl (by congr 1; omega)
                refine s_m hf rfl ?_; clear hf a; intro a hf
                replace hs := refA_close (s := t) (x := ⟨_, _, _, _, ps⟩) hps hs
                refine s_do hf rfl (y_call (hf.eval rfl) (hf.evals rfl) Tryd.call89 ((rlay_spec σ _ _ p t hs off.toNat ad cd data hr hd (by omega) (by omega) (by omega) (by omega)).mono ?_))
                rintro e w1 ⟨rfl, hs⟩
                rw [← layW_in (by omega)] at hs
                obtain ⟨u, hu⟩ : ∃ u, u = layW t off.toNat data := ⟨_, rfl⟩
                rw [← hu] at hs
                have hul : u.now.length = max t.now.length (off.toNat + data.length) := by rw [hu, layW_len]
                have husz : u.sizes = t.sizes := by rw [hu]; unfold layW; split <;> rfl
                have husz2 : u.sizes.length = t.sizes.length := by rw [husz]
                obtain ⟨⟨v1, v2, v3, v4, ps⟩, hps, hs⟩ := refA_open hs
                dsimp only at hps hs
                obtain ⟨a1, c1, rfl, hc1⟩ := slB_shape (hs.take .k1)
                obtain ⟨a2, c2, rfl, hc2⟩ := slB_shape (hs.take .k2)
                obtain ⟨a3, c3, rfl⟩ := sl_shape (hs.take .k3)
                obtain ⟨a4, c4, rfl⟩ := sl_shape (hs.take .k5)
                refine ⟨_, rfl, ?_⟩; clear hf a; intro a hf
                refine s_nil ?_
                refine then_n ?_
                refine wp_seq ?_
                refine wp_seq ?_
                refine wp_region_lit ?_
                refine s_m hf rfl ?_; clear hf a; intro a hf
                refine s_v hf (x_nilCheck (hf.eval rfl)) ?_; clear hf a; intro a hf
                refine s_v hf (x_fieldAddr fo97_1 (hf.eval rfl)) ?_; clear hf a; intro a hf
                refine s_r hf (x_load sc25 (hf.eval rfl) (by first | exact hs.cell .k0 rfl | exact hs.cell .k1 rfl | exact hs.cell .k2 rfl | exact hs.cell .k3 rfl | exact hs.cell .k4 rfl | exact hs.cell .k5 rfl)) ?_; clear hf a; intro a hf
                refine s_v hf (x_len Tryd.underlying25 (hf.eval rfl)) ?_; clear hf a; intro a hf
                refine s_m hf rfl ?_; clear hf a; intro a hf
                refine s_v hf (x_bin (hf.eval rfl) (hf.eval rfl) (r_ne _ _ _ _)) ?_; clear hf a; intro a hf
                refine s_nil ?_
                refine then_n ?_
                refine c_cond hf rfl (fun hi7 => ?_) (fun hi7 => ?_)
                · simp only [decide_eq_true_eq, decide_eq_false_iff_not, Bool.not_eq_true', Bool.not_eq_false', Bool.not_eq_true, Int.not_lt, Int.not_le] at hi7
                  refine c_draw hs (fun w' => w'.cell? ⟨p, 4, none⟩ = some (.slice a4 u.sizes.length c4)) [.held, .held, .held, .held, .held, .held, .held, .held, .read, .held, .eff, .eff, .held, .held, .fin] (by kernel_rfl) (by kernel_rfl) (fun w' _ hs => hs.cell (k := 4) .k0 rfl) ?_
                  clear hs; intro w hs hC hw
                  refine m_held hf rfl (fun w' _ => x_move (hf.eval rfl) w') ?_; clear hf a; intro a hf
                  refine m_held hf rfl (fun w' _ => x_move (hf.eval rfl) w') ?_; clear hf a; intro a hf
                  refine m_held hf rfl (fun w' _ => x_nilCheck (hf.eval rfl) w') ?_; clear hf a; intro a hf
                  refine m_held hf rfl (fun w' _ => x_fieldAddr fo97_4 (hf.eval rfl) w') ?_; clear hf a; intro a hf
                  refine m_held hf rfl (fun w' hc => x_load sc67 (hf.eval rfl) hc) ?_; clear hf a; intro a hf
                  refine m_held hf rfl (fun w' _ => x_move (hf.eval rfl) w') ?_; clear hf a; intro a hf
                  refine m_held hf rfl (fun w' _ => x_nilCheck (hf.eval rfl) w') ?_; clear hf a; intro a hf
                  refine m_held hf rfl (fun w' _ => x_fieldAddr fo97_1 (hf.eval rfl) w') ?_; clear hf a; intro a hf
                  refine m_read hf rfl (x_load sc25 (hf.eval rfl) (by first | exact hs.cell .k0 rfl | exact hs.cell .k1 rfl | exact hs.cell .k2 rfl | exact hs.cell .k3 rfl | exact hs.cell .k4 rfl | exact hs.cell .k5 rfl)) ?_; clear hf a; intro a hf
                  refine m_held hf rfl (fun w' _ => x_len Tryd.underlying25 (hf.eval rfl) w') ?_; clear hf a; intro a hf
                  refine m_eff hf rfl (y_lit (xs := [.tmp 89]) hs sl67 (hf.evals rfl) rfl (by simp [Value.cells]) (by decide) ?_); clear hf hs a; intro b2 w hs; refine ⟨hs.cell (k := 4) .k1 rfl, ?_⟩; intro a hf
                  refine m_eff hf rfl (y_append (n := u.sizes.length) (m := 1) (ys := [.int .i64 (u.now.length : Int)]) hs sl67 (hf.eval rfl) (hf.eval rfl) .k6 (hs.rd .k0 fun h hb => rd_rows hb rfl) (by simp [Value.oneCell']) (by omega) (by rw [maxLen_eq]; omega) ?_); clear hf hs a; intro v2 w hs hv; refine ⟨hs.cell (k := 4) .k2 rfl, ?_⟩; intro a hf
                  rw [← szC_append, show u.sizes.length + 1 = (u.sizes ++ [u.now.length]).length by simp] at hs
                  obtain ⟨a7, c7, rfl⟩ := sl_shape hs
                  refine m_held hf rfl (fun w' _ => x_nilCheck (hf.eval rfl) w') ?_; clear hf a; intro a hf
                  refine m_held hf rfl (fun w' _ => x_fieldAddr fo97_4 (hf.eval rfl) w') ?_; clear hf a; intro a hf
                  refine m_fin0 hf rfl (y_store hs sc67 (hf.eval rfl) (hf.eval rfl) rfl (by first | exact .k0 | exact .k1 | exact .k2 | exact .k3 | exact .k4 | exact .k5) (by simp) ?_); clear hf hs a; intro w hs; intro a hf
                  replace hs := St.give (L := _) (hs.lose .k1) .k5
                  refine then_n ?_
                  refine wp_seq ?_
                  refine wp_region_lit ?_
                  refine s_a hf rfl ?_; clear hf a; intro a hf
                  refine s_nil ?_
                  refine then_n ?_
                  refine wp_ret ?_
                  refine r_1 hf Tryd.results68 rfl ?_
                  rw [wrS_some hi1 (by omega) (by omega) hi4 hd, ← ht, ← hu]
                  first | (rw [sized_eq (by omega)]; exact ⟨rfl, refA_close (x := ⟨_, _, _, _, ps⟩) hps hs⟩) | (rw [sized_ne (by omega)]; exact ⟨rfl, refA_close (x := ⟨.slice a1 u.now.length c1, .slice a2 u.dur.length c2, .slice a3 ps.length c3, .slice a7 (u.sizes ++ [u.now.length]).length c7, ps⟩) hps hs⟩)
                · simp only [decide_eq_true_eq, decide_eq_false_iff_not, Bool.not_eq_true', Bool.not_eq_false', Bool.not_eq_true, Int.not_lt, Int.not_le] at hi7
                  refine wp_skip ?_
                  refine then_n ?_
                  refine wp_seq ?_
                  refine wp_region_lit ?_
                  refine s_a hf rfl ?_; clear hf a; intro a hf
                  refine s_nil ?_
                  refine then_n ?_
                  refine wp_ret ?_
                  refine r_1 hf Tryd.results68 rfl ?_
                  rw [wrS_some hi1 (by omega) (by omega) hi4 hd, ← ht, ← hu]
                  first | (rw [sized_eq (by omega)]; exact ⟨rfl, refA_close (x := ⟨_, _, _, _, ps⟩) hps hs⟩) | (rw [sized_ne (by omega)]; exact ⟨rfl, refA_close (x := ⟨.slice a1 u.now.length c1, .slice a2 u.dur.length c2, .slice a3 ps.length c3, .slice a7 (u.sizes ++ [u.now.length]).length c7, ps⟩) hps hs⟩)
              · simp only [decide_eq_true_eq, decide_eq_false_iff_not, Bool.not_eq_true', Bool.not_eq_false', Bool.not_eq_true, Int.not_lt, Int.not_le] at hi6
                refine wp_seq ?_
                refine wp_region_lit ?_
                refine s_m hf rfl ?_; clear hf a; intro a hf
                refine s_m hf rfl ?_; clear hf a; intro a hf
                refine s_v hf (x_bin (hf.eval rfl) (hf.eval rfl) (r_subi _ (by omega) (by omega))) ?_; clear hf a; intro a hf
                refine s_m hf rfl ?_; clear hf a; intro a hf
                refine s_v hf (x_len Tryd.underlying25 (hf.eval rfl)) ?_; clear hf a; intro a hf
                refine s_v hf (x_bin (hf.eval rfl) (hf.eval rfl) (r_addi _ (by omega) (by omega))) ?_; clear hf a; intro a hf
                refine s_do hf rfl (y_makeB (m := off.toNat - t.now.length + data.length) (c := off.toNat - t.now.length + data.length) hs sl25 (hf.eval rfl) (hf.eval rfl) (by omega) (by omega) (Nat.le_refl _) (by omega) ?_); clear hf hs a; intro b w hs a hf
                refine s_a hf rfl ?_; clear hf a; intro a hf
                refine s_nil ?_
                refine then_n ?_
                refine wp_seq ?_
                refine wp_region_lit ?_
                refine s_m hf rfl ?_; clear hf a; intro a hf
                refine s_m hf rfl ?_; clear hf a; intro a hf
                refine s_m hf rfl ?_; clear hf a; intro a hf
                refine s_v hf (x_bin (hf.eval rfl) (hf.eval rfl) (r_subi _ (by omega) (by omega))) ?_; clear hf a; intro a hf
                refine s_v hf (x_slice_lo sl25 (hf.eval rfl) (hf.eval rfl)  (by omega) (by omega) ) ?_; clear hf a; intro a hf
                replace hf := hf.now (k := 66) (v' := .slice (subA (some ⟨b, 0, none⟩) (off.toNat - t.now.length + data.length) (off.toNat - t.now.length) 1) data.length data.length) rfl (by rw [show (off - (t.now.length : Int)).toNat = off.toNat - t.now.length by omega]; congr 1; omega; omega)
                refine s_m hf rfl ?_; clear hf a; intro a hf
                rw [subA_at (by have := List.length_pos_iff.2 hd; omega)] at hf
                refine s_do hf rfl (y_copyB (o := off.toNat - t.now.length) (cur' := (List.replicate (off.toNat - t.now.length) (0 : UInt8)) ++ data) hs sl25 (hf.eval rfl) (hf.eval rfl) (fun _ => rfl) (hr _ [_, _, _, _, _, _, _] hs) rfl .k0 (hole_eq _ _) (by simp) ?_); clear hf hs a; intro w hs a hf
                replace hs := hs.ofBb (n := ((List.replicate (off.toNat - t.now.length) (0 : UInt8)) ++ data).length) rfl (by simp; omega)
                refine s_nil ?_
                refine then_n ?_
                refine wp_region_lit ?_
                refine s_m hf rfl ?_; clear hf a; intro a hf
                refine s_m hf rfl ?_; clear hf a; intro a hf
                refine s_m hf rfl ?_; clear hf a; intro a hf
                replace hf := hf.now (k := 71) (v' := .slice (some ⟨b, 0, none⟩) ((List.replicate (off.toNat - t.now.length) (0 : UInt8)) ++ data).length ((List.replicate (off.toNat - t.now.length) (0 : UInt8)) ++ data).length) rfl (by simp)
                replace hs := St.give (L := _) hs .k6
                replace hs := refA_close (s := t) (x := ⟨_, _, _, _, ps⟩) hps hs
                refine s_do hf rfl (y_call (hf.eval rfl) (hf.evals rfl) Tryd.call89 ((rlay_spec σ _ _ p t hs t.now.length _ _ ((List.replicate (off.toNat - t.now.length) (0 : UInt8)) ++ data) (Rdy.own .k0) (by simp [hd]) (Nat.le_refl _) (by simp; omega) (by omega) (by omega)).mono ?_))
                rintro e w1 ⟨rfl, hs⟩
                replace hs := hs.lose .k1
                rw [← layW_hole (by omega)] at hs
                obtain ⟨u, hu⟩ : ∃ u, u = layW t off.toNat data := ⟨_, rfl⟩
                rw [← hu] at hs
                have hul : u.now.length = max t.now.length (off.toNat + data.length) := by rw [hu, layW_len]
                have husz : u.sizes = t.sizes := by rw [hu]; unfold layW; split <;> rfl
                have husz2 : u.sizes.length = t.sizes.length := by rw [husz]
                obtain ⟨⟨v1, v2, v3, v4, ps⟩, hps, hs⟩ := refA_open hs
                dsimp only at hps hs
                obtain ⟨a1, c1, rfl, hc1⟩ := slB_shape (hs.take .k1)
                obtain ⟨a2, c2, rfl, hc2⟩ := slB_shape (hs.take .k2)
                obtain ⟨a3, c3, rfl⟩ := sl_shape (hs.take .k3)
                obtain ⟨a4, c4, rfl⟩ := sl_shape (hs.take .k5)
                refine ⟨_, rfl, ?_⟩; clear hf a; intro a hf
                refine s_nil ?_
                refine then_n ?_
                refine wp_seq ?_
                refine wp_seq ?_
                refine wp_region_lit ?_
                refine s_m hf rfl ?_; clear hf a; intro a hf
                refine s_v hf (x_nilCheck (hf.eval rfl)) ?_; clear hf a; intro a hf
                refine s_v hf (x_fieldAddr fo97_1 (hf.eval rfl)) ?_; clear hf a; intro a hf
                refine s_r hf (x_load sc25 (hf.eval rfl) (by first | exact hs.cell .k0 rfl | exact hs.cell .k1 rfl | exact hs.cell .k2 rfl | exact hs.cell .k3 rfl | exact hs.cell .k4 rfl | exact hs.cell .k5 rfl)) ?_; clear hf a; intro a hf
                refine s_v hf (x_len Tryd.underlying25 (hf.eval rfl)) ?_; clear hf a; intro a hf
                refine s_m hf rfl ?_; clear hf a; intro a hf
                refine s_v hf (x_bin (hf.eval rfl) (hf.eval rfl) (r_ne _ _ _ _)) ?_; clear hf a; intro a hf
                refine s_nil ?_
                refine then_n ?_
                refine c_cond hf rfl (fun hi7 => ?_) (fun hi7 => ?_)
                · simp only [decide_eq_true_eq, decide_eq_false_iff_not, Bool.not_eq_true', Bool.not_eq_false', Bool.not_eq_true, Int.not_lt, Int.not_le] at hi7
                  refine c_draw hs (fun w' => w'.cell? ⟨p, 4, none⟩ = some (.slice a4 u.sizes.length c4)) [.held, .held, .held, .held, .held, .held, .held, .held, .read, .held, .eff, .eff, .held, .held, .fin] (by kernel_rfl) (by kernel_rfl) (fun w' _ hs => hs.cell (k := 4) .k0 rfl) ?_
                  clear hs; intro w hs hC hw
                  refine m_held hf rfl (fun w' _ => x_move (hf.eval rfl) w') ?_; clear hf a; intro a hf
                  refine m_held hf rfl (fun w' _ => x_move (hf.eval rfl) w') ?_; clear hf a; intro a hf
                  refine m_held hf rfl (fun w' _ => x_nilCheck (hf.eval rfl) w') ?_; clear hf a; intro a hf
                  refine m_held hf rfl (fun w' _ => x_fieldAddr fo97_4 (hf.eval rfl) w') ?_; clear hf a; intro a hf
                  refine m_held hf rfl (fun w' hc => x_load sc67 (hf.eval rfl) hc) ?_; clear hf a; intro a hf
                  refine m_held hf rfl (fun w' _ => x_move (hf.eval rfl) w') ?_; clear hf a; intro a hf
                  refine m_held hf rfl (fun w' _ => x_nilCheck (hf.eval rfl) w') ?_; clear hf a; intro a hf
                  refine m_held hf rfl (fun w' _ => x_fieldAddr fo97_1 (hf.eval rfl) w') ?_; clear hf a; intro a hf
                  refine m_read hf rfl (x_load sc25 (hf.eval rfl) (by first | exact hs.cell .k0 rfl | exact hs.cell .k1 rfl | exact hs.cell .k2 rfl | exact hs.cell .k3 rfl | exact hs.cell .k4 rfl | exact hs.cell .k5 rfl)) ?_; clear hf a; intro a hf
                  refine m_held hf rfl (fun w' _ => x_len Tryd.underlying25 (hf.eval rfl) w') ?_; clear hf a; intro a hf
                  refine m_eff hf rfl (y_lit (xs := [.tmp 89]) hs sl67 (hf.evals rfl) rfl (by simp [Value.cells]) (by decide) ?_); clear hf hs a; intro b2 w hs; refine ⟨hs.cell (k := 4) .k1 rfl, ?_⟩; intro a hf
                  refine m_eff hf rfl (y_append (n := u.sizes.length) (m := 1) (ys := [.int .i64 (u.now.length : Int)]) hs sl67 (hf.eval rfl) (hf.eval rfl) .k6 (hs.rd .k0 fun h hb => rd_rows hb rfl) (by simp [Value.oneCell']) (by omega) (by rw [maxLen_eq]; omega) ?_); clear hf hs a; intro v2 w hs hv; refine ⟨hs.cell (k := 4) .k2 rfl, ?_⟩; intro a hf
                  rw [← szC_append, show u.sizes.length + 1 = (u.sizes ++ [u.now.length]).length by simp] at hs
                  obtain ⟨a7, c7, rfl⟩ := sl_shape hs
                  refine m_held hf rfl (fun w' _ => x_nilCheck (hf.eval rfl) w') ?_; clear hf a; intro a hf
                  refine m_held hf rfl (fun w' _ => x_fieldAddr fo97_4 (hf.eval rfl) w') ?_; clear hf a; intro a hf
                  refine m_fin0 hf rfl (y_store hs sc67 (hf.eval rfl) (hf.eval rfl) rfl (by first | exact .k0 | exact .k1 | exact .k2 | exact .k3 | exact .k4 | exact .k5) (by simp) ?_); clear hf hs a; intro w hs; intro a hf
                  replace hs := St.give (L := _) (hs.lose .k1) .k5
                  refine then_n ?_
                  refine wp_seq ?_
                  refine wp_region_lit ?_
                  refine s_a hf rfl ?_; clear hf a; intro a hf
                  refine s_nil ?_
                  refine then_n ?_
                  refine wp_ret ?_
                  refine r_1 hf Tryd.results68 rfl ?_
                  rw [wrS_some hi1 (by omega) (by omega) hi4 hd, ← ht, ← hu]
                  first | (rw [sized_eq (by omega)]; exact ⟨rfl, refA_close (x := ⟨_, _, _, _, ps⟩) hps hs⟩) | (rw [sized_ne (by omega)]; exact ⟨rfl, refA_close (x := ⟨.slice a1 u.now.length c1, .slice a2 u.dur.length c2, .slice a3 ps.length c3, .slice a7 (u.sizes ++ [u.now.length]).length c7, ps⟩) hps hs⟩)
                · simp only [decide_eq_true_eq, decide_eq_false_iff_not, Bool.not_eq_true', Bool.not_eq_false', Bool.not_eq_true, Int.not_lt, Int.not_le] at hi7
                  refine wp_skip ?_
                  refine then_n ?_
                  refine wp_seq ?_
                  refine wp_region_lit ?_
                  refine s_a hf rfl ?_; clear hf a; intro a hf
                  refine s_nil ?_
                  refine then_n ?_
                  refine wp_ret ?_
                  refine r_1 hf Tryd.results68 rfl ?_
                  rw [wrS_some hi1 (by omega) (by omega) hi4 hd, ← ht, ← hu]
                  first | (rw [sized_eq (by omega)]; exact ⟨rfl, refA_close (x := ⟨_, _, _, _, ps⟩) hps hs⟩) | (rw [sized_ne (by omega)]; exact ⟨rfl, refA_close (x := ⟨.slice a1 u.now.length c1, .slice a2 u.dur.length c2, .slice a3 ps.length c3, .slice a7 (u.sizes ++ [u.now.length]).length c7, ps⟩) hps hs⟩)
theorem rTrunc_spec (σ : Sig) (w : World) (R : List Asrt) (p : Nat) (s : DS) (hs : St σ w (refA 97 139 5 3 p s :: R)) (n : Int) (ho : DOk s) (hcl : s.calls ≤ 4611686018427387904) (hpc : s.pcs.length ≤ 1099511600000) (hsl : s.sizes.length ≤ 1099511600000) : Calls Tryd.prog 90 #[.pointer (some ⟨p, 0, none⟩), .int .i64 n] w fun e w' => e = .returned (.int .i64 (trS s n).1) ∧ St σ w' (refA 97 139 5 3 p (trS s n).2 :: R) := by
  have hroom0 := ho.room0
  have hroom1 := ho.room1
  have hnow1 := ho.now
  obtain ⟨⟨v1, v2, v3, v4, ps⟩, hps, hs⟩ := refA_open hs
  dsimp only at hps hs
  obtain ⟨a1, c1, rfl, hc1⟩ := slB_shape (hs.take .k1)
  obtain ⟨a2, c2, rfl, hc2⟩ := slB_shape (hs.take .k2)
  obtain ⟨a3, c3, rfl⟩ := sl_shape (hs.take .k3)
  obtain ⟨a4, c4, rfl⟩ := sl_shape (hs.take .k5)
  refine c_enter (N := 74) Tryd.func90 rfl Tryd.ntmps90 (by simp) ?_
  intro a hf
  refine wp_seq ?_
  refine wp_region_lit ?_
  refine s_a hf rfl ?_; clear hf a; intro a hf
  refine s_nil ?_
  refine then_n ?_
  refine wp_seq ?_
  refine wp_seq ?_
  refine wp_region_lit ?_
  refine s_m hf rfl ?_; clear hf a; intro a hf
  refine s_v hf (x_eqNil Tryd.underlying52 (hf.eval rfl) (hf.eval rfl)) ?_; clear hf a; intro a hf
  replace hf := hf.now (k := 7) (v' := .bool false) rfl rfl
  refine s_nil ?_
  refine then_n ?_
  refine c_cond_f hf rfl rfl ?_
  refine wp_skip ?_
  refine then_n ?_
  refine wp_seq ?_
  refine wp_seq ?_
  refine wp_region_lit ?_
  refine s_m hf rfl ?_; clear hf a; intro a hf
  refine s_v hf (x_nilCheck (hf.eval rfl)) ?_; clear hf a; intro a hf
  refine s_v hf (x_fieldAddr fo97_7 (hf.eval rfl)) ?_; clear hf a; intro a hf
  refine s_r hf (x_load sc4 (hf.eval rfl) (by first | exact hs.cell .k0 rfl | exact hs.cell .k1 rfl | exact hs.cell .k2 rfl | exact hs.cell .k3 rfl | exact hs.cell .k4 rfl | exact hs.cell .k5 rfl)) ?_; clear hf a; intro a hf
  refine s_v hf (x_not (hf.eval rfl)) ?_; clear hf a; intro a hf
  refine s_nil ?_
  refine then_n ?_
  refine c_cond hf rfl (fun hi1 => ?_) (fun hi1 => ?_)
  · simp only [Bool.not_not] at hi1
    refine wp_seq ?_
    refine wp_region_lit ?_
    refine s_a hf rfl ?_; clear hf a; intro a hf
    refine s_nil ?_
    refine then_n ?_
    refine wp_ret ?_
    refine then_r ?_
    refine r_1 hf Tryd.results90 rfl ?_
    rw [trS_dead hi1]
    exact ⟨rfl, refA_close (x := ⟨_, _, _, _, ps⟩) hps hs⟩
  · simp only [Bool.not_not] at hi1
    refine wp_skip ?_
    refine then_n ?_
    refine wp_seq ?_
    refine wp_seq ?_
    refine wp_region_lit ?_
    refine s_m hf rfl ?_; clear hf a; intro a hf
    refine s_v hf (x_bin (hf.eval rfl) (hf.eval rfl) (r_lt _ _ _ _)) ?_; clear hf a; intro a hf
    refine s_nil ?_
    refine then_n ?_
    refine c_cond hf rfl (fun hi2 => ?_) (fun hi2 => ?_)
    · simp only [decide_eq_true_eq, decide_eq_false_iff_not, Bool.not_eq_true', Bool.not_eq_false', Bool.not_eq_true, Int.not_lt, Int.not_le] at hi2
      refine wp_seq ?_
      refine wp_region_lit ?_
      refine s_a hf rfl ?_; clear hf a; intro a hf
      refine s_nil ?_
      refine then_n ?_
      refine wp_ret ?_
      refine then_r ?_
      refine r_1 hf Tryd.results90 rfl ?_
      rw [trS_neg hi1 (by omega)]
      exact ⟨rfl, refA_close (x := ⟨_, _, _, _, ps⟩) hps hs⟩
    · simp only [decide_eq_true_eq, decide_eq_false_iff_not, Bool.not_eq_true', Bool.not_eq_false', Bool.not_eq_true, Int.not_lt, Int.not_le] at hi2
      refine wp_skip ?_
      refine then_n ?_
      refine wp_seq ?_
      refine wp_seq ?_
      refine wp_region_lit ?_
      refine s_m hf rfl ?_; clear hf a; intro a hf
      refine s_m hf rfl ?_; clear hf a; intro a hf
      refine s_v hf (x_nilCheck (hf.eval rfl)) ?_; clear hf a; intro a hf
      refine s_v hf (x_fieldAddr fo97_0 (hf.eval rfl)) ?_; clear hf a; intro a hf
      refine s_r hf (x_load sc3 (hf.eval rfl) (by first | exact hs.cell .k0 rfl | exact hs.cell .k1 rfl | exact hs.cell .k2 rfl | exact hs.cell .k3 rfl | exact hs.cell .k4 rfl | exact hs.cell .k5 rfl)) ?_; clear hf a; intro a hf
      refine s_v hf (x_bin (hf.eval rfl) (hf.eval rfl) (r_gt _ _ _ _)) ?_; clear hf a; intro a hf
      refine s_nil ?_
      refine then_n ?_
      refine c_cond hf rfl (fun hi3 => ?_) (fun hi3 => ?_)
      · simp only [decide_eq_true_eq, decide_eq_false_iff_not, Bool.not_eq_true', Bool.not_eq_false', Bool.not_eq_true, Int.not_lt, Int.not_le] at hi3
        refine wp_seq ?_
        refine wp_region_lit ?_
        refine s_a hf rfl ?_; clear hf a; intro a hf
        refine s_nil ?_
        refine then_n ?_
        refine wp_ret ?_
        refine then_r ?_
        refine r_1 hf Tryd.results90 rfl ?_
        rw [trS_big hi1 (by omega) (by omega)]
        exact ⟨rfl, refA_close (x := ⟨_, _, _, _, ps⟩) hps hs⟩
      · simp only [decide_eq_true_eq, decide_eq_false_iff_not, Bool.not_eq_true', Bool.not_eq_false', Bool.not_eq_true, Int.not_lt, Int.not_le] at hi3
        refine wp_skip ?_
        refine then_n ?_
        refine wp_seq ?_
        refine wp_region_lit ?_
        refine s_m hf rfl ?_; clear hf a; intro a hf
        replace hs := refA_close (s := s) (x := ⟨_, _, _, _, ps⟩) hps hs
        refine s_do hf rfl (y_call (hf.eval rfl) (hf.evals rfl) Tryd.call88 ((carried_spec _ _ _ p s hs ho.fuse.2 ho.fuse.1 hcl).mono ?_))
        rintro e w1 ⟨rfl, hs⟩
        obtain ⟨t, ht⟩ : ∃ t, t = spent s := ⟨_, rfl⟩
        rw [← ht] at hs
        obtain ⟨htn, htr, htd, htp, hts⟩ := spent_now s
        rw [← ht] at htn htr htd htp hts
        have hto := spent_ok ho
        rw [← ht] at hto
        have htn2 : t.now.length = s.now.length := by rw [htn]
        have htp2 : t.pcs.length = s.pcs.length := by rw [htp]
        have hts2 : t.sizes.length = s.sizes.length := by rw [hts]
        refine ⟨_, rfl, ?_⟩; clear hf a; intro a hf
        refine s_a hf rfl ?_; clear hf a; intro a hf
        refine s_nil ?_
        refine then_n ?_
        refine wp_seq ?_
        refine wp_seq ?_
        refine wp_region_lit ?_
        refine s_m hf rfl ?_; clear hf a; intro a hf
        refine s_v hf (x_not (hf.eval rfl)) ?_; clear hf a; intro a hf
        refine s_nil ?_
        refine then_n ?_
        refine c_cond hf rfl (fun hi4 => ?_) (fun hi4 => ?_)
        · simp only [Bool.not_eq_true', Bool.not_eq_false', decide_eq_true_eq, decide_eq_false_iff_not, ne_eq, Decidable.not_not] at hi4
          refine wp_seq ?_
          refine wp_region_lit ?_
          refine s_a hf rfl ?_; clear hf a; intro a hf
          refine s_nil ?_
          refine then_n ?_
          refine wp_ret ?_
          refine then_r ?_
          refine r_1 hf Tryd.results90 rfl ?_
          rw [trS_fuse hi1 (by omega) (by omega) hi4, ← ht]
          exact ⟨rfl, hs⟩
        · simp only [Bool.not_eq_true', Bool.not_eq_false', decide_eq_true_eq, decide_eq_false_iff_not, ne_eq, Decidable.not_not] at hi4
          obtain ⟨⟨v1, v2, v3, v4, ps⟩, hps, hs⟩ := refA_open hs
          dsimp only at hps hs
          obtain ⟨a1, c1, rfl, hc1⟩ := slB_shape (hs.take .k1)
          obtain ⟨a2, c2, rfl, hc2⟩ := slB_shape (hs.take .k2)
          obtain ⟨a3, c3, rfl⟩ := sl_shape (hs.take .k3)
          obtain ⟨a4, c4, rfl⟩ := sl_shape (hs.take .k5)
          refine wp_skip ?_
          refine then_n ?_
          refine wp_seq ?_
          refine wp_seq ?_
          refine wp_region_lit ?_
          refine s_m hf rfl ?_; clear hf a; intro a hf
          refine s_m hf rfl ?_; clear hf a; intro a hf
          refine s_v hf (x_nilCheck (hf.eval rfl)) ?_; clear hf a; intro a hf
          refine s_v hf (x_fieldAddr fo97_1 (hf.eval rfl)) ?_; clear hf a; intro a hf
          refine s_r hf (x_load sc25 (hf.eval rfl) (by first | exact hs.cell .k0 rfl | exact hs.cell .k1 rfl | exact hs.cell .k2 rfl | exact hs.cell .k3 rfl | exact hs.cell .k4 rfl | exact hs.cell .k5 rfl)) ?_; clear hf a; intro a hf
          refine s_v hf (x_len Tryd.underlying25 (hf.eval rfl)) ?_; clear hf a; intro a hf
          refine s_v hf (x_bin (hf.eval rfl) (hf.eval rfl) (r_eq _ _ _ _)) ?_; clear hf a; intro a hf
          refine s_nil ?_
          refine then_n ?_
          refine c_cond hf rfl (fun hi5 => ?_) (fun hi5 => ?_)
          · simp only [decide_eq_true_eq, decide_eq_false_iff_not, Bool.not_eq_true', Bool.not_eq_false', Bool.not_eq_true, Int.not_lt, Int.not_le] at hi5
            refine wp_seq ?_
            refine wp_region_lit ?_
            refine s_a hf rfl ?_; clear hf a; intro a hf
            refine s_nil ?_
            refine then_n ?_
            refine wp_ret ?_
            refine then_r ?_
            refine r_1 hf Tryd.results90 rfl ?_
            rw [trS_some hi1 (by omega) (by omega) hi4, ← ht]
            have htn9 : trN t n.toNat = t := by unfold trN; rw [trC_in (by omega), List.take_of_length_le (by omega)]
            rw [htn9, sized_eq (by omega)]
            exact ⟨rfl, refA_close (x := ⟨_, _, _, _, ps⟩) hps hs⟩
          · simp only [decide_eq_true_eq, decide_eq_false_iff_not, Bool.not_eq_true', Bool.not_eq_false', Bool.not_eq_true, Int.not_lt, Int.not_le] at hi5
            refine wp_skip ?_
            refine then_n ?_
            refine wp_seq ?_
            refine wp_seq ?_
            refine wp_region_lit ?_
            refine s_m hf rfl ?_; clear hf a; intro a hf
            refine s_m hf rfl ?_; clear hf a; intro a hf
            refine s_v hf (x_nilCheck (hf.eval rfl)) ?_; clear hf a; intro a hf
            refine s_v hf (x_fieldAddr fo97_1 (hf.eval rfl)) ?_; clear hf a; intro a hf
            refine s_r hf (x_load sc25 (hf.eval rfl) (by first | exact hs.cell .k0 rfl | exact hs.cell .k1 rfl | exact hs.cell .k2 rfl | exact hs.cell .k3 rfl | exact hs.cell .k4 rfl | exact hs.cell .k5 rfl)) ?_; clear hf a; intro a hf
            refine s_v hf (x_len Tryd.underlying25 (hf.eval rfl)) ?_; clear hf a; intro a hf
            refine s_v hf (x_bin (hf.eval rfl) (hf.eval rfl) (r_gt _ _ _ _)) ?_; clear hf a; intro a hf
            refine s_nil ?_
            refine then_n ?_
            refine c_cond hf rfl (fun hi6 => ?_) (fun hi6 => ?_)
            · simp only [decide_eq_true_eq, decide_eq_false_iff_not, Bool.not_eq_true', Bool.not_eq_false', Bool.not_eq_true, Int.not_lt, Int.not_le] at hi6
              refine c_draw hs (fun w' => w'.cell? ⟨p, 1, none⟩ = some (.slice a1 t.now.length c1)) [.held, .held, .held, .held, .held, .held, .held, .held, .held, .held, .read, .held, .held, .eff, .fin] (by kernel_rfl) (by kernel_rfl) (fun w' _ hs => hs.cell (k := 1) .k0 rfl) ?_
              clear hs; intro w hs hC hw
              refine m_held hf rfl (fun w' _ => x_move (hf.eval rfl) w') ?_; clear hf a; intro a hf
              refine m_held hf rfl (fun w' _ => x_move (hf.eval rfl) w') ?_; clear hf a; intro a hf
              refine m_held hf rfl (fun w' _ => x_nilCheck (hf.eval rfl) w') ?_; clear hf a; intro a hf
              refine m_held hf rfl (fun w' _ => x_fieldAddr fo97_1 (hf.eval rfl) w') ?_; clear hf a; intro a hf
              refine m_held hf rfl (fun w' hc => x_load sc25 (hf.eval rfl) hc) ?_; clear hf a; intro a hf
              refine m_held hf rfl (fun w' _ => x_len Tryd.underlying25 (hf.eval rfl) w') ?_; clear hf a; intro a hf
              refine m_held hf rfl (fun w' _ => x_move (hf.eval rfl) w') ?_; clear hf a; intro a hf
              refine m_held hf rfl (fun w' _ => x_move (hf.eval rfl) w') ?_; clear hf a; intro a hf
              refine m_held hf rfl (fun w' _ => x_nilCheck (hf.eval rfl) w') ?_; clear hf a; intro a hf
              refine m_held hf rfl (fun w' _ => x_fieldAddr fo97_1 (hf.eval rfl) w') ?_; clear hf a; intro a hf
              refine m_read hf rfl (x_load sc25 (hf.eval rfl) (by first | exact hs.cell .k0 rfl | exact hs.cell .k1 rfl | exact hs.cell .k2 rfl | exact hs.cell .k3 rfl | exact hs.cell .k4 rfl | exact hs.cell .k5 rfl)) ?_; clear hf a; intro a hf
              refine m_held hf rfl (fun w' _ => x_len Tryd.underlying25 (hf.eval rfl) w') ?_; clear hf a; intro a hf
              refine m_held hf rfl (fun w' _ => x_bin (hf.eval rfl) (hf.eval rfl) (r_subi _ (by omega) (by omega)) w') ?_; clear hf a; intro a hf
              refine m_eff hf rfl (y_makeB (m := n.toNat - t.now.length) (c := n.toNat - t.now.length) hs sl25 (hf.eval rfl) (hf.eval rfl) (by omega) (by omega) (Nat.le_refl _) (by omega) ?_); clear hf hs a; intro b w hs; refine ⟨hs.cell (k := 1) .k1 rfl, ?_⟩; intro a hf
              replace hs := hs.ofBb (n := (List.replicate (n.toNat - t.now.length) (0 : UInt8)).length) rfl (by simp; omega)
              replace hf := hf.now (k := 52) (v' := .slice (some ⟨b, 0, none⟩) (List.replicate (n.toNat - t.now.length) (0 : UInt8)).length (List.replicate (n.toNat - t.now.length) (0 : UInt8)).length) rfl (by simp)
              replace hs := St.give (L := _) hs .k6
              replace hs := refA_close (s := t) (x := ⟨_, _, _, _, ps⟩) hps hs
              refine m_fin hf rfl (y_call (hf.eval rfl) (hf.evals rfl) Tryd.call89 ((rlay_spec σ _ _ p t hs t.now.length _ _ (List.replicate (n.toNat - t.now.length) (0 : UInt8)) (Rdy.own .k0) (by intro h9; have h8 := congrArg List.length h9; simp at h8; omega) (Nat.le_refl _) (by simp; omega) (by omega) (by omega)).mono ?_))
              rintro e w1 ⟨rfl, hs⟩
              replace hs := hs.lose .k1
              rw [← trC_up (by omega)] at hs
              have hle9 : (trC t n.toNat).now.length ≤ n.toNat := by rw [trC_up (by omega), layS_len]; simp; omega
              have e9 : trC t n.toNat = trN t n.toNat := by unfold trN; rw [List.take_of_length_le hle9]
              rw [e9] at hs
              obtain ⟨u, hu⟩ : ∃ u, u = trN t n.toNat := ⟨_, rfl⟩
              rw [← hu] at hs
              have husz : u.sizes = t.sizes := by rw [hu]; unfold trN trC; split <;> rfl
              have husz2 : u.sizes.length = t.sizes.length := by rw [husz]
              have hul : u.now.length = n.toNat := by rw [hu, trN_len]
              obtain ⟨⟨v1, v2, v3, v4, ps⟩, hps, hs⟩ := refA_open hs
              dsimp only at hps hs
              obtain ⟨a1, c1, rfl, hc1⟩ := slB_shape (hs.take .k1)
              obtain ⟨a2, c2, rfl, hc2⟩ := slB_shape (hs.take .k2)
              obtain ⟨a3, c3, rfl⟩ := sl_shape (hs.take .k3)
              obtain ⟨a4, c4, rfl⟩ := sl_shape (hs.take .k5)
              refine ⟨_, rfl, ?_⟩; clear hf a; intro a hf
              refine then_n ?_
              refine wp_seq ?_
              refine wp_region_lit ?_
              refine s_m hf rfl ?_; clear hf a; intro a hf
              refine s_m hf rfl ?_; clear hf a; intro a hf
              refine s_v hf (x_nilCheck (hf.eval rfl)) ?_; clear hf a; intro a hf
              refine s_v hf (x_fieldAddr fo97_4 (hf.eval rfl)) ?_; clear hf a; intro a hf
              refine s_r hf (x_load sc67 (hf.eval rfl) (by first | exact hs.cell .k0 rfl | exact hs.cell .k1 rfl | exact hs.cell .k2 rfl | exact hs.cell .k3 rfl | exact hs.cell .k4 rfl | exact hs.cell .k5 rfl)) ?_; clear hf a; intro a hf
              refine s_m hf rfl ?_; clear hf a; intro a hf
              replace hf := hf.now (k := 69) (v' := .int .i64 (u.now.length : Int)) rfl (by rw [hul]; congr 1; omega)
              refine s_do hf rfl (y_lit (xs := [.tmp 69]) hs sl67 (hf.evals rfl) rfl (by simp [Value.cells]) (by decide) ?_); clear hf hs a; intro b2 w hs a hf
              refine s_do hf rfl (y_append (n := u.sizes.length) (m := 1) (ys := [.int .i64 (u.now.length : Int)]) hs sl67 (hf.eval rfl) (hf.eval rfl) .k6 (hs.rd .k0 fun h hb => rd_rows hb rfl) (by simp [Value.oneCell']) (by omega) (by rw [maxLen_eq]; omega) ?_); clear hf hs a; intro v2 w hs hv a hf
              rw [← szC_append, show u.sizes.length + 1 = (u.sizes ++ [u.now.length]).length by simp] at hs
              obtain ⟨a7, c7, rfl⟩ := sl_shape hs
              refine s_v hf (x_nilCheck (hf.eval rfl)) ?_; clear hf a; intro a hf
              refine s_v hf (x_fieldAddr fo97_4 (hf.eval rfl)) ?_; clear hf a; intro a hf
              refine s_do0 hf rfl (y_store hs sc67 (hf.eval rfl) (hf.eval rfl) rfl (by first | exact .k0 | exact .k1 | exact .k2 | exact .k3 | exact .k4 | exact .k5) (by simp) ?_); clear hf hs a; intro w hs a hf
              replace hs := St.give (L := _) (hs.lose .k1) .k5
              refine s_nil ?_
              refine then_n ?_
              refine wp_seq ?_
              refine wp_region_lit ?_
              refine s_a hf rfl ?_; clear hf a; intro a hf
              refine s_nil ?_
              refine then_n ?_
              refine wp_ret ?_
              refine r_1 hf Tryd.results90 rfl ?_
              rw [trS_some hi1 (by omega) (by omega) hi4, ← ht, ← hu, sized_ne (by omega)]
              exact ⟨rfl, refA_close (x := ⟨.slice a1 u.now.length c1, .slice a2 u.dur.length c2, .slice a3 ps.length c3, .slice a7 (u.sizes ++ [u.now.length]).length c7, ps⟩) hps hs⟩
            · simp only [decide_eq_true_eq, decide_eq_false_iff_not, Bool.not_eq_true', Bool.not_eq_false', Bool.not_eq_true, Int.not_lt, Int.not_le] at hi6
              refine wp_region_lit ?_
              refine s_m hf rfl ?_; clear hf a; intro a hf
              refine s_m hf rfl ?_; clear hf a; intro a hf
              refine s_v hf (x_nilCheck (hf.eval rfl)) ?_; clear hf a; intro a hf
              refine s_v hf (x_fieldAddr fo97_1 (hf.eval rfl)) ?_; clear hf a; intro a hf
              refine s_r hf (x_load sc25 (hf.eval rfl) (by first | exact hs.cell .k0 rfl | exact hs.cell .k1 rfl | exact hs.cell .k2 rfl | exact hs.cell .k3 rfl | exact hs.cell .k4 rfl | exact hs.cell .k5 rfl)) ?_; clear hf a; intro a hf
              refine s_m hf rfl ?_; clear hf a; intro a hf
              refine s_v hf (x_slice_hi sl25 (hf.eval rfl) (hf.eval rfl)  (by omega) (by omega) ) ?_; clear hf a; intro a hf
              have htk : (t.now.take n.toNat).length = n.toNat := by rw [List.length_take]; omega
              replace hf := hf.now (k := 60) (v' := .slice a1 (t.now.take n.toNat).length c1) rfl (by rw [htk])
              refine s_do hf rfl (y_call (hf.eval rfl) (hf.evals rfl) Tryd.call61 ((rclone_spec _ _ _ (t.now.take n.toNat) (by rw [htk]; exact RdB.pre (hs.rdB .k1 fun h => slB_rd) rfl (by omega)) (by omega)).mono ?_))
              rintro e w1 ⟨e1, fe1, rfl, hj⟩
              replace hs := hs.join hj
              simp only [List.cons_append, List.nil_append] at hs
              refine ⟨_, rfl, ?_⟩; clear hf a; intro a hf
              refine s_v hf (x_nilCheck (hf.eval rfl)) ?_; clear hf a; intro a hf
              refine s_v hf (x_fieldAddr fo97_1 (hf.eval rfl)) ?_; clear hf a; intro a hf
              refine s_do0 hf rfl (y_store hs sc25 (hf.eval rfl) (hf.eval rfl) rfl (by first | exact .k0 | exact .k1 | exact .k2 | exact .k3 | exact .k4 | exact .k5) (by simp) ?_); clear hf hs a; intro w hs a hf
              replace hs := (hs.lose .k2).take .k1
              replace hs := refA_close (s := { t with now := t.now.take n.toNat }) (x := ⟨.slice e1 (t.now.take n.toNat).length fe1, .slice a2 t.dur.length c2, .slice a3 ps.length c3, .slice a4 t.sizes.length c4, ps⟩) hps hs
              have e9 : { t with now := t.now.take n.toNat } = trN t n.toNat := by unfold trN; rw [trC_in (by omega)]
              rw [e9] at hs
              obtain ⟨u, hu⟩ : ∃ u, u = trN t n.toNat := ⟨_, rfl⟩
              rw [← hu] at hs
              have husz : u.sizes = t.sizes := by rw [hu]; unfold trN trC; split <;> rfl
              have husz2 : u.sizes.length = t.sizes.length := by rw [husz]
              have hul : u.now.length = n.toNat := by rw [hu, trN_len]
              obtain ⟨⟨v1, v2, v3, v4, ps⟩, hps, hs⟩ := refA_open hs
              dsimp only at hps hs
              obtain ⟨a1, c1, rfl, hc1⟩ := slB_shape (hs.take .k1)
              obtain ⟨a2, c2, rfl, hc2⟩ := slB_shape (hs.take .k2)
              obtain ⟨a3, c3, rfl⟩ := sl_shape (hs.take .k3)
              obtain ⟨a4, c4, rfl⟩ := sl_shape (hs.take .k5)
              refine s_nil ?_
              refine then_n ?_
              refine wp_seq ?_
              refine wp_region_lit ?_
              refine s_m hf rfl ?_; clear hf a; intro a hf
              refine s_m hf rfl ?_; clear hf a; intro a hf
              refine s_v hf (x_nilCheck (hf.eval rfl)) ?_; clear hf a; intro a hf
              refine s_v hf (x_fieldAddr fo97_4 (hf.eval rfl)) ?_; clear hf a; intro a hf
              refine s_r hf (x_load sc67 (hf.eval rfl) (by first | exact hs.cell .k0 rfl | exact hs.cell .k1 rfl | exact hs.cell .k2 rfl | exact hs.cell .k3 rfl | exact hs.cell .k4 rfl | exact hs.cell .k5 rfl)) ?_; clear hf a; intro a hf
              refine s_m hf rfl ?_; clear hf a; intro a hf
              replace hf := hf.now (k := 69) (v' := .int .i64 (u.now.length : Int)) rfl (by rw [hul]; congr 1; omega)
              refine s_do hf rfl (y_lit (xs := [.tmp 69]) hs sl67 (hf.evals rfl) rfl (by simp [Value.cells]) (by decide) ?_); clear hf hs a; intro b2 w hs a hf
              refine s_do hf rfl (y_append (n := u.sizes.length) (m := 1) (ys := [.int .i64 (u.now.length : Int)]) hs sl67 (hf.eval rfl) (hf.eval rfl) .k6 (hs.rd .k0 fun h hb => rd_rows hb rfl) (by simp [Value.oneCell']) (by omega) (by rw [maxLen_eq]; omega) ?_); clear hf hs a; intro v2 w hs hv a hf
              rw [← szC_append, show u.sizes.length + 1 = (u.sizes ++ [u.now.length]).length by simp] at hs
              obtain ⟨a7, c7, rfl⟩ := sl_shape hs
              refine s_v hf (x_nilCheck (hf.eval rfl)) ?_; clear hf a; intro a hf
              refine s_v hf (x_fieldAddr fo97_4 (hf.eval rfl)) ?_; clear hf a; intro a hf
              refine s_do0 hf rfl (y_store hs sc67 (hf.eval rfl) (hf.eval rfl) rfl (by first | exact .k0 | exact .k1 | exact .k2 | exact .k3 | exact .k4 | exact .k5) (by simp) ?_); clear hf hs a; intro w hs a hf
              replace hs := St.give (L := _) (hs.lose .k1) .k5
              refine s_nil ?_
              refine then_n ?_
              refine wp_seq ?_
              refine wp_region_lit ?_
              refine s_a hf rfl ?_; clear hf a; intro a hf
              refine s_nil ?_
              refine then_n ?_
              refine wp_ret ?_
              refine r_1 hf Tryd.results90 rfl ?_
              rw [trS_some hi1 (by omega) (by omega) hi4, ← ht, ← hu, sized_ne (by omega)]
              exact ⟨rfl, refA_close (x := ⟨.slice a1 u.now.length c1, .slice a2 u.dur.length c2, .slice a3 ps.length c3, .slice a7 (u.sizes ++ [u.now.length]).length c7, ps⟩) hps hs⟩
theorem rSync_spec (σ : Sig) (w : World) (R : List Asrt) (p : Nat) (s : DS) (hs : St σ w (refA 97 139 5 3 p s :: R)) (ho : DOk s) (hcl : s.calls ≤ 4611686018427387904) (hpc : s.pcs.length ≤ 1099511600000) (hsl : s.sizes.length ≤ 1099511600000) : Calls Tryd.prog 69 #[.pointer (some ⟨p, 0, none⟩)] w fun e w' => e = .returned (.int .i64 (syS s).1) ∧ St σ w' (refA 97 139 5 3 p (syS s).2 :: R) := by
  have hroom1 := ho.room1
  have hnow1 := ho.now
  obtain ⟨⟨v1, v2, v3, v4, ps⟩, hps, hs⟩ := refA_open hs
  dsimp only at hps hs
  obtain ⟨a1, c1, rfl, hc1⟩ := slB_shape (hs.take .k1)
  obtain ⟨a2, c2, rfl, hc2⟩ := slB_shape (hs.take .k2)
  obtain ⟨a3, c3, rfl⟩ := sl_shape (hs.take .k3)
  obtain ⟨a4, c4, rfl⟩ := sl_shape (hs.take .k5)
  refine c_enter (N := 29) Tryd.func69 rfl Tryd.ntmps69 (by simp) ?_
  intro a hf
  refine wp_seq ?_
  refine wp_region_lit ?_
  refine s_a hf rfl ?_; clear hf a; intro a hf
  refine s_nil ?_
  refine then_n ?_
  refine wp_seq ?_
  refine wp_seq ?_
  refine wp_region_lit ?_
  refine s_m hf rfl ?_; clear hf a; intro a hf
  refine s_v hf (x_eqNil Tryd.underlying52 (hf.eval rfl) (hf.eval rfl)) ?_; clear hf a; intro a hf
  replace hf := hf.now (k := 5) (v' := .bool false) rfl rfl
  refine s_nil ?_
  refine then_n ?_
  refine c_cond_f hf rfl rfl ?_
  refine wp_skip ?_
  refine then_n ?_
  refine wp_seq ?_
  refine wp_seq ?_
  refine wp_region_lit ?_
  refine s_m hf rfl ?_; clear hf a; intro a hf
  refine s_v hf (x_nilCheck (hf.eval rfl)) ?_; clear hf a; intro a hf
  refine s_v hf (x_fieldAddr fo97_7 (hf.eval rfl)) ?_; clear hf a; intro a hf
  refine s_r hf (x_load sc4 (hf.eval rfl) (by first | exact hs.cell .k0 rfl | exact hs.cell .k1 rfl | exact hs.cell .k2 rfl | exact hs.cell .k3 rfl | exact hs.cell .k4 rfl | exact hs.cell .k5 rfl)) ?_; clear hf a; intro a hf
  refine s_v hf (x_not (hf.eval rfl)) ?_; clear hf a; intro a hf
  refine s_nil ?_
  refine then_n ?_
  refine c_cond hf rfl (fun hi1 => ?_) (fun hi1 => ?_)
  · simp only [Bool.not_not] at hi1
    refine wp_seq ?_
    refine wp_region_lit ?_
    refine s_a hf rfl ?_; clear hf a; intro a hf
    refine s_nil ?_
    refine then_n ?_
    refine wp_ret ?_
    refine then_r ?_
    refine r_1 hf Tryd.results69 rfl ?_
    rw [syS_dead hi1]
    exact ⟨rfl, refA_close (x := ⟨_, _, _, _, ps⟩) hps hs⟩
  · simp only [Bool.not_not] at hi1
    refine wp_skip ?_
    refine then_n ?_
    refine wp_seq ?_
    refine wp_region_lit ?_
    refine s_m hf rfl ?_; clear hf a; intro a hf
    replace hs := refA_close (s := s) (x := ⟨_, _, _, _, ps⟩) hps hs
    refine s_do hf rfl (y_call (hf.eval rfl) (hf.evals rfl) Tryd.call88 ((carried_spec _ _ _ p s hs ho.fuse.2 ho.fuse.1 hcl).mono ?_))
    rintro e w1 ⟨rfl, hs⟩
    obtain ⟨t, ht⟩ : ∃ t, t = spent s := ⟨_, rfl⟩
    rw [← ht] at hs
    obtain ⟨htn, htr, htd, htp, hts⟩ := spent_now s
    rw [← ht] at htn htr htd htp hts
    have hto := spent_ok ho
    rw [← ht] at hto
    have htn2 : t.now.length = s.now.length := by rw [htn]
    have htp2 : t.pcs.length = s.pcs.length := by rw [htp]
    have hts2 : t.sizes.length = s.sizes.length := by rw [hts]
    refine ⟨_, rfl, ?_⟩; clear hf a; intro a hf
    refine s_a hf rfl ?_; clear hf a; intro a hf
    refine s_nil ?_
    refine then_n ?_
    refine wp_seq ?_
    refine wp_seq ?_
    refine wp_region_lit ?_
    refine s_m hf rfl ?_; clear hf a; intro a hf
    refine s_v hf (x_not (hf.eval rfl)) ?_; clear hf a; intro a hf
    refine s_nil ?_
    refine then_n ?_
    refine c_cond hf rfl (fun hi2 => ?_) (fun hi2 => ?_)
    · simp only [Bool.not_eq_true', Bool.not_eq_false', decide_eq_true_eq, decide_eq_false_iff_not, ne_eq, Decidable.not_not] at hi2
      refine wp_seq ?_
      refine wp_region_lit ?_
      refine s_a hf rfl ?_; clear hf a; intro a hf
      refine s_nil ?_
      refine then_n ?_
      refine wp_ret ?_
      refine then_r ?_
      refine r_1 hf Tryd.results69 rfl ?_
      rw [syS_fuse hi1 hi2, ← ht]
      exact ⟨rfl, hs⟩
    · simp only [Bool.not_eq_true', Bool.not_eq_false', decide_eq_true_eq, decide_eq_false_iff_not, ne_eq, Decidable.not_not] at hi2
      obtain ⟨⟨v1, v2, v3, v4, ps⟩, hps, hs⟩ := refA_open hs
      dsimp only at hps hs
      obtain ⟨a1, c1, rfl, hc1⟩ := slB_shape (hs.take .k1)
      obtain ⟨a2, c2, rfl, hc2⟩ := slB_shape (hs.take .k2)
      obtain ⟨a3, c3, rfl⟩ := sl_shape (hs.take .k3)
      obtain ⟨a4, c4, rfl⟩ := sl_shape (hs.take .k5)
      refine wp_skip ?_
      refine then_n ?_
      refine wp_seq ?_
      refine wp_region_lit ?_
      refine s_m hf rfl ?_; clear hf a; intro a hf
      refine s_m hf rfl ?_; clear hf a; intro a hf
      refine s_v hf (x_nilCheck (hf.eval rfl)) ?_; clear hf a; intro a hf
      refine s_v hf (x_fieldAddr fo97_1 (hf.eval rfl)) ?_; clear hf a; intro a hf
      refine s_r hf (x_load sc25 (hf.eval rfl) (by first | exact hs.cell .k0 rfl | exact hs.cell .k1 rfl | exact hs.cell .k2 rfl | exact hs.cell .k3 rfl | exact hs.cell .k4 rfl | exact hs.cell .k5 rfl)) ?_; clear hf a; intro a hf
      refine s_do hf rfl (y_call (hf.eval rfl) (hf.evals rfl) Tryd.call61 ((rclone_spec _ _ _ t.now (hs.rdB .k1 fun h => slB_rd) (by omega)).mono ?_))
      rintro e w1 ⟨e1, fe1, rfl, hj⟩
      replace hs := hs.join hj
      simp only [List.cons_append, List.nil_append] at hs
      refine ⟨_, rfl, ?_⟩; clear hf a; intro a hf
      refine s_v hf (x_nilCheck (hf.eval rfl)) ?_; clear hf a; intro a hf
      refine s_v hf (x_fieldAddr fo97_2 (hf.eval rfl)) ?_; clear hf a; intro a hf
      refine s_do0 hf rfl (y_store hs sc25 (hf.eval rfl) (hf.eval rfl) rfl (by first | exact .k0 | exact .k1 | exact .k2 | exact .k3 | exact .k4 | exact .k5) (by simp) ?_); clear hf hs a; intro w hs a hf
      replace hs := (((hs.lose .k3).take .k2).take .k2)
      refine s_nil ?_
      refine then_n ?_
      refine wp_seq ?_
      refine wp_region_lit ?_
      refine s_m hf rfl ?_; clear hf a; intro a hf
      refine s_v hf (x_nilCheck (hf.eval rfl)) ?_; clear hf a; intro a hf
      refine s_v hf (x_fieldAddr fo97_3 (hf.eval rfl)) ?_; clear hf a; intro a hf
      refine s_do0 hf rfl (y_store hs sc95 (hf.eval rfl) (hf.eval rfl) rfl (by first | exact .k0 | exact .k1 | exact .k2 | exact .k3 | exact .k4 | exact .k5) (by simp) ?_); clear hf hs a; intro w hs a hf
      refine s_nil ?_
      refine then_n ?_
      refine wp_seq ?_
      refine wp_region_lit ?_
      refine s_m hf rfl ?_; clear hf a; intro a hf
      refine s_v hf (x_nilCheck (hf.eval rfl)) ?_; clear hf a; intro a hf
      refine s_v hf (x_fieldAddr fo97_4 (hf.eval rfl)) ?_; clear hf a; intro a hf
      refine s_do0 hf rfl (y_store hs sc67 (hf.eval rfl) (hf.eval rfl) rfl (by first | exact .k0 | exact .k1 | exact .k2 | exact .k3 | exact .k4 | exact .k5) (by simp) ?_); clear hf hs a; intro w hs a hf
      refine s_nil ?_
      refine then_n ?_
      refine wp_seq ?_
      refine wp_region_lit ?_
      refine s_a hf rfl ?_; clear hf a; intro a hf
      refine s_nil ?_
      refine then_n ?_
      refine wp_ret ?_
      refine r_1 hf Tryd.results69 rfl ?_
      rw [syS_some hi1 hi2, ← ht, ← htn]
      replace hs := ((hs.lose .k3).lose .k3).lose .k3
      replace hs := St.give (L := _) (hs.emp (A := sl 139 3 (.slice none 0 0) 0 []) (fun _ => ⟨rfl, .inl ⟨rfl, rfl⟩⟩)) .k3
      replace hs := St.give (L := _) (hs.emp (A := datA 5 []) (fun _ => trivial)) .k4
      replace hs := St.give (L := _) (hs.emp (A := sl 3 1 (.slice none 0 0) 0 []) (fun _ => ⟨rfl, .inl ⟨rfl, rfl⟩⟩)) .k5
      exact ⟨rfl, refA_close (s := { t with dur := t.now, pcs := [], sizes := [] }) (x := ⟨.slice a1 t.now.length c1, .slice e1 t.now.length fe1, .slice none 0 0, .slice none 0 0, []⟩) rfl hs⟩
end Go.Proofs.YtehakfbfjpolfaaDoor

namespace Go.Proofs.YtehakfbfjpolfaaDoor
open Go Vw
theorem wlk_next {old : Int} {body : List UInt8} {N : Nat} : ∀ {j k e t : Nat}, wlk old body k = some (e, t) → k ≤ j → j < N → (∃ p, wlk old body N = some p) → e ≤ spA body j ∧ ∀ e' t', wlk old body j = some (e', t') → e ≤ e' := by
  intro j
  induction j with
  | zero =>
    intro k e t h hk hj ⟨p, hp⟩
    obtain rfl : k = 0 := by omega
    injection h with h; injection h with h1 h2
    subst h1
    exact ⟨Nat.zero_le _, fun _ _ _ => Nat.zero_le _⟩
  | succ j ih =>
    intro k e t h hk hj ⟨p, hp⟩
    obtain ⟨pe, pt⟩ := p
    obtain ⟨e1, t1, h1, _⟩ := wlk_mono hp (j + 1) (by omega)
    obtain ⟨e2, t2, h2, _⟩ := wlk_mono hp (j + 1 + 1) (by omega)
    have hA : e1 ≤ spA body (j + 1) := by
      by_cases hb : spN body (j + 1) < 1 ∨ spA body (j + 1) < e1 ∨ old < ((spA body (j + 1) + spN body (j + 1) : Nat) : Int)
      · rw [wlk_bad h1 hb] at h2; cases h2
      · omega
    have hE : e ≤ e1 := by
      by_cases hkj : k = j + 1
      · subst hkj; rw [h] at h1; injection h1 with h1; injection h1 with h1 _; omega
      · obtain ⟨e0, t0, h0, _⟩ := wlk_mono hp j (by omega)
        have h9 := (ih h (by omega) (by omega) ⟨_, hp⟩).2 e0 t0 h0
        by_cases hb : spN body j < 1 ∨ spA body j < e0 ∨ old < ((spA body j + spN body j : Nat) : Int)
        · rw [wlk_bad h0 hb] at h1; cases h1
        · rw [wlk_good h0 hb] at h1
          injection h1 with h1; injection h1 with h1 _
          omega
    exact ⟨by omega, fun e' t' h' => by rw [h1] at h'; injection h' with h'; injection h' with h' _; omega⟩
theorem bk_slice {s : Sl} {body : List UInt8} (h : bkOk s body = true) {N : Nat} (hN : s.2.2.2.2.1 = (N : Int)) {i : Nat} (hi : i < N) (X : List UInt8) (hX : s.2.2.1 ≤ (X.length : Int)) :
    ((putPs X (bkL s body N)).drop (spA body i)).take (spN body i) = (body.drop (8 * s.2.2.2.2.1.toNat + totB s.2.2.1 body i)).take (spN body i) := by
  obtain ⟨b1, b2, b3, b4⟩ := bk_span h hN hi
  have hNt : s.2.2.2.2.1.toNat = N := by omega
  have hw : ∃ p, wlk s.2.2.1 body N = some p := by
    unfold bkOk at h
    rw [hNt] at h
    cases hw : wlk s.2.2.1 body N with
    | none => rw [hw] at h; simp at h
    | some p => exact ⟨p, rfl⟩
  have hdl : ((body.drop (8 * s.2.2.2.2.1.toNat + totB s.2.2.1 body i)).take (spN body i)).length = spN body i := by
    rw [hNt, List.length_take, List.length_drop]; omega
  have hbl : bkL s body N = bkL s body i ++ (spA body i, (body.drop (8 * s.2.2.2.2.1.toNat + totB s.2.2.1 body i)).take (spN body i)) :: (bkL s body N).drop (i + 1) := by
    have hlen : (bkL s body N).length = N := by unfold bkL; simp
    have h1 : (bkL s body N).take i = bkL s body i := by
      unfold bkL
      rw [← List.map_take, List.take_range, Nat.min_eq_left (by omega)]
    have h2 : (bkL s body N)[i]'(by omega) = (spA body i, (body.drop (8 * s.2.2.2.2.1.toNat + totB s.2.2.1 body i)).take (spN body i)) := by
      unfold bkL; simp
    rw [← h1, ← h2, ← List.drop_eq_getElem_cons, List.take_append_drop]
  have hrest : ∀ p ∈ (bkL s body N).drop (i + 1), spA body i + spN body i ≤ p.1 := fun p hp => by
    obtain ⟨j, hj, rfl⟩ := List.getElem_of_mem hp
    have hlen : (bkL s body N).length = N := by unfold bkL; simp
    rw [List.length_drop, hlen] at hj
    have e9 : ((bkL s body N).drop (i + 1))[j]'(by rw [List.length_drop, hlen]; exact hj) = (bkL s body N)[i + 1 + j]'(by omega) := List.getElem_drop ..
    have e8 : ((bkL s body N)[i + 1 + j]'(by omega)).1 = spA body (i + 1 + j) := by unfold bkL; simp
    rw [e9, e8]
    obtain ⟨p, hp⟩ := hw
    obtain ⟨pe, pt⟩ := p
    obtain ⟨e1, t1, h1, _⟩ := wlk_mono hp i (by omega)
    obtain ⟨e2, t2, h2, _⟩ := wlk_mono hp (i + 1) (by omega)
    have hE : e2 = spA body i + spN body i := by
      by_cases hb : spN body i < 1 ∨ spA body i < e1 ∨ s.2.2.1 < ((spA body i + spN body i : Nat) : Int)
      · rw [wlk_bad h1 hb] at h2; cases h2
      · rw [wlk_good h1 hb] at h2
        injection h2 with h2; injection h2 with h2 _; omega
    have := (wlk_next (N := N) h2 (show i + 1 ≤ i + 1 + j by omega) (by omega) ⟨_, hp⟩).1
    omega
  refine getD_list (by rw [hdl, List.length_take, List.length_drop, putPs_len]; omega) fun x hx => ?_
  have hxn : x < spN body i := by rw [List.length_take] at hx; omega
  rw [getD_take, if_pos hxn, getD_drop, putPs_get _ _ (by omega), hbl, vis_append]
  rw [vis_cons, vis_out _ _ _ (fun p hp hc => by have := hrest p hp; omega), vis_one, if_pos (by rw [hdl]; exact ⟨by omega, by omega⟩)]
  rw [show spA body i + x - spA body i = x by omega]
theorem own_sub {σ : Sig} {R R' : List Asrt} {T c i n : Nat} {a : Option Addr} {l D : List UInt8} (tk : Take (slB T (.slice a l.length c) l) R R') (h : i + n ≤ l.length) (hD : D = (l.drop i).take n) : Rdy σ R (.slice (subA a c i 1) D.length (c - i)) D := by
  have h9 := (Rdy.own (σ := σ) tk).sub rfl (i := i) (j := i + n) (by omega) h
  rw [show i + n - i = n by omega, ← hD] at h9
  have hl : D.length = n := by rw [hD, List.length_take, List.length_drop]; omega
  rw [hl]; exact h9
def preR (im : List UInt8) : List COp := if (lkV im).1.1 = 3 then (lkP im).map wrO ++ [syO] else []
theorem opsR_pre {im : List UInt8} (h : (lkV im).1.1 ≠ 0) : opsR im = preR im ++ [(3, (lkV im).1.2.2, []), syO] := by unfold opsR preR; rw [if_neg h]
theorem lkP_3 {l : List UInt8} (h : (sdS l).1 = 3) {N : Nat} (hN : (sdS l).2.2.2.2.1 = (N : Int)) : lkP l = bkL (sdS l) (bodyS l) N := by unfold lkP; rw [if_pos h, hN, Int.toNat_natCast]
theorem wrO_succ {P : List Pc} {i : Nat} (h : i < P.length) : (P.take (i + 1)).map wrO = (P.take i).map wrO ++ [wrO P[i]] := by rw [List.take_succ_eq_append_getElem h, List.map_append]; rfl
theorem bkL_get {s : Sl} {body : List UInt8} {N i : Nat} (h : i < N) : ∃ h2 : i < (bkL s body N).length, (bkL s body N)[i] = (spA body i, (body.drop (8 * s.2.2.2.2.1.toNat + totB s.2.2.1 body i)).take (spN body i)) := by
  refine ⟨by unfold bkL; simpa using h, ?_⟩
  unfold bkL; simp
attribute [local irreducible] Vw.sl Vw.sdS Vw.bodyS Vw.zt Vw.putPs Vw.seOk Vw.bkOk Vw.lkZ Vw.lkP Vw.lkOk Vw.lkV Vw.runS Vw.opsR Vw.wrsU recV recS preR Vw.bkL Vw.spL Vw.spA Vw.spN Vw.totB Vw.upZ
theorem rcut_spec (w0 w : World) (R : List Asrt) (D : Nat) (s : DS) (size : Int) (hs : St ⟨w0, None_⟩ w (refA 97 139 5 3 D s :: R)) (ho : DOk s) (k : Nat) (hb : DB s k) (hk : k ≤ 33000000) : Calls Tryd.prog 70 #[.pointer (some ⟨D, 0, none⟩), .int .i64 size] w fun e w' => e = .returned (.int .i64 (runS s [(3, size, []), syO]).1) ∧ St ⟨w0, None_⟩ w' (refA 97 139 5 3 D (runS s [(3, size, []), syO]).2 :: R) := by
  refine c_enter (N := 14) Tryd.func70 rfl Tryd.ntmps70 (by simp) ?_
  intro a hf
  refine wp_seq ?_
  refine wp_region_lit ?_
  refine s_a hf rfl ?_; clear hf a; intro a hf
  refine s_nil ?_
  refine then_n ?_
  refine wp_seq ?_
  refine wp_region_lit ?_
  refine s_m hf rfl ?_; clear hf a; intro a hf
  refine s_m hf rfl ?_; clear hf a; intro a hf
  refine s_do hf rfl (y_call (hf.eval rfl) (hf.evals rfl) Tryd.call90 ((rTrunc_spec _ _ _ D s hs size ho (by have := hb.calls; omega) (by have := hb.pcs; omega) (by have := hb.sizes; omega)).mono ?_))
  rintro e w1 ⟨rfl, hs⟩
  rw [← co_tr] at hs ⊢
  obtain ⟨t, ht⟩ : ∃ t, t = (coS s (3, size, [])).2 := ⟨_, rfl⟩
  have hto := coS_ok ho (3, size, [])
  have htb := coS_b ho hb (3, size, [])
  rw [← ht] at hs hto htb
  refine ⟨_, rfl, ?_⟩; clear hf a; intro a hf
  refine s_a hf rfl ?_; clear hf a; intro a hf
  refine s_nil ?_
  refine then_n ?_
  refine wp_seq ?_
  refine wp_seq ?_
  refine wp_region_lit ?_
  refine s_m hf rfl ?_; clear hf a; intro a hf
  refine s_v hf (x_bin (hf.eval rfl) (hf.eval rfl) (r_ne _ _ _ _)) ?_; clear hf a; intro a hf
  refine s_nil ?_
  refine then_n ?_
  refine c_cond hf rfl (fun hi0 => ?_) (fun hi0 => ?_)
  · first | simp only [decide_eq_true_eq, decide_eq_false_iff_not, Bool.not_eq_true', Bool.not_eq_false', ne_eq, Classical.not_not] at hi0 | skip
    refine wp_seq ?_
    refine wp_region_lit ?_
    refine s_m hf rfl ?_; clear hf a; intro a hf
    refine s_a hf rfl ?_; clear hf a; intro a hf
    refine s_nil ?_
    refine then_n ?_
    refine wp_ret ?_
    refine then_r ?_
    refine r_1 hf Tryd.results70 rfl ?_
    rw [runS2_bad hi0, ← ht]
    exact ⟨rfl, hs⟩
  · first | simp only [decide_eq_true_eq, decide_eq_false_iff_not, Bool.not_eq_true', Bool.not_eq_false', ne_eq, Classical.not_not] at hi0 | skip
    refine wp_skip ?_
    refine then_n ?_
    refine wp_seq ?_
    refine wp_region_lit ?_
    refine s_m hf rfl ?_; clear hf a; intro a hf
    refine s_do hf rfl (y_call (hf.eval rfl) (hf.evals rfl) Tryd.call69 ((rSync_spec _ _ _ D t hs hto (by have := htb.calls; omega) (by have := htb.pcs; omega) (by have := htb.sizes; omega)).mono ?_))
    rintro e w1 ⟨rfl, hs⟩
    rw [← co_sy] at hs ⊢
    refine ⟨_, rfl, ?_⟩; clear hf a; intro a hf
    refine s_a hf rfl ?_; clear hf a; intro a hf
    refine s_nil ?_
    refine then_n ?_
    refine wp_ret ?_
    refine r_1 hf Tryd.results70 rfl ?_
    rw [runS2_ok hi0, ← ht]
    exact ⟨rfl, hs⟩
set_option maxHeartbeats 1600000
theorem rrecover_spec (w0 w : World) (R : List Asrt) (D : Nat) (s : DS) (hs : St ⟨w0, None_⟩ w (refA 97 139 5 3 D s :: R)) (ho : DOk s) (k : Nat) (hb : DB s k) (hk : k ≤ 100000) : Calls Tryd.prog 30 #[.pointer (some ⟨D, 0, none⟩)] w fun e w' => e = .returned (.tuple #[.agg (vdF (recV s).1).toArray, .int .i64 (recV s).2]) ∧ St ⟨w0, None_⟩ w' (refA 97 139 5 3 D (recS s) :: R) := by
  have hn1 := ho.now
  have hn2 := ho.room1
  refine c_enter (N := 105) Tryd.func30 rfl Tryd.ntmps30 (by simp) ?_
  intro a hf
  refine wp_seq ?_
  refine wp_region_lit ?_
  refine s_do hf rfl (y_alloc hs Tryd.zeroValue45 ?_); clear hf hs a; intro b2 w hs a hf
  change St _ _ (cb b2 45 (vdF (0, 0, 0)) :: _) at hs
  refine s_a hf rfl ?_; clear hf a; intro a hf
  refine s_nil ?_
  refine then_n ?_
  refine wp_seq ?_
  refine wp_seq ?_
  refine wp_region_lit ?_
  refine s_m hf rfl ?_; clear hf a; intro a hf
  refine s_v hf (x_eqNil Tryd.underlying52 (hf.eval rfl) (hf.eval rfl)) ?_; clear hf a; intro a hf
  replace hf := hf.now (k := 18) (v' := .bool false) rfl rfl
  refine s_nil ?_
  refine then_n ?_
  refine c_cond_f hf rfl rfl ?_
  refine wp_skip ?_
  refine then_n ?_
  refine wp_seq ?_
  refine wp_region_lit ?_
  refine s_m hf rfl ?_; clear hf a; intro a hf
  replace hs := hs.take (A := refA 97 139 5 3 D s) (by first | exact .k0 | exact .k1 | exact .k2 | exact .k3 | exact .k4 | exact .k5 | exact .k6 | exact .k7 | exact .k8 | exact .k9 | exact .k10 | exact .k11)
  refine s_do hf rfl (y_call (hf.eval rfl) (hf.evals rfl) Tryd.call66 ((rAlive_spec _ _ _ D s hs).mono ?_))
  rintro e w1 ⟨rfl, hw9⟩
  rw [hw9]
  clear hw9 w1
  refine ⟨_, rfl, ?_⟩; clear hf a; intro a hf
  refine s_a hf rfl ?_; clear hf a; intro a hf
  refine s_nil ?_
  refine then_n ?_
  refine wp_seq ?_
  refine wp_seq ?_
  refine wp_region_lit ?_
  refine s_m hf rfl ?_; clear hf a; intro a hf
  refine s_v hf (x_not (hf.eval rfl)) ?_; clear hf a; intro a hf
  refine s_nil ?_
  refine then_n ?_
  refine c_cond hf rfl (fun hi1 => ?_) (fun hi1 => ?_)
  · simp only [Bool.not_not, Bool.not_eq_true', Bool.not_eq_false'] at hi1
    refine wp_seq ?_
    refine wp_region_lit ?_
    refine s_r hf (x_build (v := .agg (vdF (0, 0, 0)).toArray) (hf.parts rfl) (fun w => by kernel_rfl) _) ?_; clear hf a; intro a hf
    replace hs := hs.take (A := cb b2 45 (vdF (0, 0, 0))) (by first | exact .k0 | exact .k1 | exact .k2 | exact .k3 | exact .k4 | exact .k5 | exact .k6 | exact .k7 | exact .k8 | exact .k9 | exact .k10 | exact .k11)
    refine s_do0 hf rfl (y_storeAgg (cs := vdF (0, 0, 0)) hs (n := 3) (by kernel_rfl) (hf.eval rfl) (hf.eval rfl) (by simp [Value.oneCell', vdF]) rfl rfl .k0 ?_); clear hf hs a; intro w hs a hf
    refine s_a hf rfl ?_; clear hf a; intro a hf
    refine s_nil ?_
    refine then_n ?_
    refine wp_ret ?_
    refine then_r ?_
    refine r_2c hf Tryd.results30 rfl rfl hs ag45 rfl (by first | exact .k0 | exact .k1 | exact .k2 | exact .k3 | exact .k4 | exact .k5 | exact .k6 | exact .k7 | exact .k8 | exact .k9 | exact .k10 | exact .k11) ?_
    rw [(rec_dead hi1).1, (rec_dead hi1).2]
    replace hs := hs.take (A := refA 97 139 5 3 D s) (by first | exact .k0 | exact .k1 | exact .k2 | exact .k3 | exact .k4 | exact .k5 | exact .k6 | exact .k7 | exact .k8 | exact .k9 | exact .k10 | exact .k11)
    exact ⟨rfl, St.mid [_] hs⟩
  · simp only [Bool.not_not, Bool.not_eq_true', Bool.not_eq_false'] at hi1
    refine wp_skip ?_
    refine then_n ?_
    refine wp_seq ?_
    refine wp_region_lit ?_
    refine s_m hf rfl ?_; clear hf a; intro a hf
    replace hs := hs.take (A := refA 97 139 5 3 D s) (by first | exact .k0 | exact .k1 | exact .k2 | exact .k3 | exact .k4 | exact .k5 | exact .k6 | exact .k7 | exact .k8 | exact .k9 | exact .k10 | exact .k11)
    refine s_do hf rfl (y_call (hf.eval rfl) (hf.evals rfl) Tryd.call67 ((rImage_spec _ _ _ D s hs (by omega)).mono ?_))
    rintro e w1 ⟨e1, f1, rfl, hs⟩
    have hf1 := slB_cap hs
    refine ⟨_, rfl, ?_⟩; clear hf a; intro a hf
    refine s_a hf rfl ?_; clear hf a; intro a hf
    refine s_nil ?_
    refine then_n ?_
    refine wp_seq ?_
    refine wp_region_lit ?_
    refine s_m hf rfl ?_; clear hf a; intro a hf
    refine s_do hf rfl (y_call (hf.eval rfl) (hf.evals rfl) Tryd.call21 ((rlook_spec _ _ _ s.now (hs.rdB .k0 fun h => slB_rd) (by omega)).mono ?_))
    rintro e w1 ⟨g, cg, rfl, hj⟩
    replace hs := hs.join hj
    simp only [List.cons_append, List.nil_append] at hs
    have hcg := slB_cap hs
    refine ⟨_, rfl, ?_⟩; clear hf a; intro a hf
    refine s_m hf rfl ?_; clear hf a; intro a hf
    refine s_v hf (x_extract (hf.eval rfl) rfl) ?_; clear hf a; intro a hf
    refine s_v hf (x_extract (hf.eval rfl) rfl) ?_; clear hf a; intro a hf
    refine s_do hf rfl (y_alloc hs Tryd.zeroValue45 ?_); clear hf hs a; intro b6 w hs a hf
    change St _ _ (cb b6 45 (vdF (0, 0, 0)) :: _) at hs
    refine s_do0 hf rfl (y_storeAgg (cs := vdF (lkV s.now).1) hs (n := 3) (by kernel_rfl) (hf.eval rfl) (hf.eval rfl) (by simp [Value.oneCell', vdF]) rfl rfl .k0 ?_); clear hf hs a; intro w hs a hf
    refine s_a hf rfl ?_; clear hf a; intro a hf
    refine s_nil ?_
    refine then_n ?_
    refine wp_seq ?_
    refine wp_seq ?_
    refine wp_region_lit ?_
    refine s_v hf (x_fieldAddr fo45_0 (hf.eval rfl)) ?_; clear hf a; intro a hf
    refine s_r hf (x_load sc3 (hf.eval rfl) (by first | exact hs.cell .k0 rfl | exact hs.cell .k1 rfl | exact hs.cell .k2 rfl | exact hs.cell .k3 rfl | exact hs.cell .k4 rfl | exact hs.cell .k5 rfl | exact hs.cell .k6 rfl | exact hs.cell .k7 rfl | exact hs.cell .k8 rfl | exact hs.cell .k9 rfl)) ?_; clear hf a; intro a hf
    replace hf := hf.now (k := 33) (v' := .int .i64 (lkV s.now).1.1) rfl (rfl)
    refine s_v hf (x_bin (hf.eval rfl) (hf.eval rfl) (r_eq _ _ _ _)) ?_; clear hf a; intro a hf
    refine s_nil ?_
    refine then_n ?_
    refine c_cond hf rfl (fun hi2 => ?_) (fun hi2 => ?_)
    · first | simp only [decide_eq_true_eq, decide_eq_false_iff_not, Bool.not_eq_true', Bool.not_eq_false', ne_eq, Classical.not_not] at hi2 | skip
      refine wp_seq ?_
      refine wp_region_lit ?_
      refine s_r hf (x_loadBlk hs ag45 (hf.eval rfl) rfl (by first | exact .k0 | exact .k1 | exact .k2 | exact .k3 | exact .k4 | exact .k5 | exact .k6 | exact .k7 | exact .k8 | exact .k9)) ?_; clear hf a; intro a hf
      replace hs := hs.take (A := cb b2 45 (vdF (0, 0, 0))) (by first | exact .k0 | exact .k1 | exact .k2 | exact .k3 | exact .k4 | exact .k5 | exact .k6 | exact .k7 | exact .k8 | exact .k9 | exact .k10 | exact .k11)
      refine s_do0 hf rfl (y_storeAgg (cs := vdF (lkV s.now).1) hs (n := 3) (by kernel_rfl) (hf.eval rfl) (hf.eval rfl) (by simp [Value.oneCell', vdF]) rfl rfl .k0 ?_); clear hf hs a; intro w hs a hf
      refine s_a hf rfl ?_; clear hf a; intro a hf
      refine s_nil ?_
      refine then_n ?_
      refine wp_ret ?_
      refine then_r ?_
      refine r_2c hf Tryd.results30 rfl rfl hs ag45 rfl (by first | exact .k0 | exact .k1 | exact .k2 | exact .k3 | exact .k4 | exact .k5 | exact .k6 | exact .k7 | exact .k8 | exact .k9 | exact .k10 | exact .k11) ?_
      rw [(rec_none hi1 hi2).1, (rec_none hi1 hi2).2]
      replace hs := hs.take (A := refA 97 139 5 3 D s) (by first | exact .k0 | exact .k1 | exact .k2 | exact .k3 | exact .k4 | exact .k5 | exact .k6 | exact .k7 | exact .k8 | exact .k9 | exact .k10 | exact .k11)
      exact ⟨rfl, St.mid [_, _, _, _] hs⟩
    · first | simp only [decide_eq_true_eq, decide_eq_false_iff_not, Bool.not_eq_true', Bool.not_eq_false', ne_eq, Classical.not_not] at hi2 | skip
      refine wp_skip ?_
      refine then_n ?_
      replace hs := hs.take (A := cb b2 45 (vdF (0, 0, 0))) (by first | exact .k0 | exact .k1 | exact .k2 | exact .k3 | exact .k4 | exact .k5 | exact .k6 | exact .k7 | exact .k8 | exact .k9 | exact .k10 | exact .k11)
      replace hs := hs.take (A := cb b6 45 (vdF (lkV s.now).1)) (by first | exact .k0 | exact .k1 | exact .k2 | exact .k3 | exact .k4 | exact .k5 | exact .k6 | exact .k7 | exact .k8 | exact .k9 | exact .k10 | exact .k11)
      replace hs := hs.take (A := refA 97 139 5 3 D s) (by first | exact .k0 | exact .k1 | exact .k2 | exact .k3 | exact .k4 | exact .k5 | exact .k6 | exact .k7 | exact .k8 | exact .k9 | exact .k10 | exact .k11)
      refine c_join (N := 105) (L0 := [(0, _), (2, _), (6, _)]) (fun M w => ∃ t : DS, M = [] ∧ runS s (preR s.now) = (0, t) ∧ St ⟨w0, None_⟩ w (refA 97 139 5 3 D t :: cb b6 45 (vdF (lkV s.now).1) :: cb b2 45 (vdF (0, 0, 0)) :: R)) (hf.sub ⟨rfl, rfl, rfl, trivial⟩) ?_ ?_
      · refine wp_seq ?_
        refine wp_region_lit ?_
        refine s_v hf (x_fieldAddr fo45_0 (hf.eval rfl)) ?_; clear hf a; intro a hf
        refine s_r hf (x_load sc3 (hf.eval rfl) (by first | exact hs.cell .k0 rfl | exact hs.cell .k1 rfl | exact hs.cell .k2 rfl | exact hs.cell .k3 rfl | exact hs.cell .k4 rfl | exact hs.cell .k5 rfl | exact hs.cell .k6 rfl | exact hs.cell .k7 rfl | exact hs.cell .k8 rfl | exact hs.cell .k9 rfl)) ?_; clear hf a; intro a hf
        replace hf := hf.now (k := 37) (v' := .int .i64 (lkV s.now).1.1) rfl (rfl)
        refine s_v hf (x_bin (hf.eval rfl) (hf.eval rfl) (r_eq _ _ _ _)) ?_; clear hf a; intro a hf
        refine s_nil ?_
        refine then_n ?_
        refine c_cond hf rfl (fun hi3 => ?_) (fun hi3 => ?_)
        · first | simp only [decide_eq_true_eq, decide_eq_false_iff_not, Bool.not_eq_true', Bool.not_eq_false', ne_eq, Classical.not_not] at hi3 | skip
          have h3 := look_cases s.now
          obtain ⟨k1, k2, k3, k4, k5, k6⟩ : lkOk s.now = true ∧ (sdS s.now).1 = 3 ∧ (lkV s.now).1.2.2 = lkZ s.now ∧ 0 ≤ lkZ s.now ∧ lkZ s.now ≤ (s.now.length : Int) ∧ (lkV s.now).2 = putPs (s.now.take (lkZ s.now).toNat) (lkP s.now) := by
            rcases h3 with h | h | ⟨_, h⟩
            · omega
            · omega
            · exact h
          have hse : seOk s.now = true ∧ bkOk (sdS s.now) (bodyS s.now) = true := by have k9 := k1; unfold lkOk at k9; rw [k2] at k9; simpa using k9
          have hgd := seGood hse.1
          obtain ⟨g1, g2, g3, g4, g5⟩ := hgd.flds
          have gu := hgd.sum
          have gb := hgd.body
          clear hgd
          have hz : lkZ s.now = (sdS s.now).2.2.1 := by unfold lkZ; rw [if_neg (by omega)]
          obtain ⟨N, hN⟩ : ∃ N : Nat, (sdS s.now).2.2.2.2.1 = (N : Int) := ⟨(sdS s.now).2.2.2.2.1.toNat, by omega⟩
          have hNt : (sdS s.now).2.2.2.2.1.toNat = N := by omega
          have hP := lkP_3 k2 hN
          have hPs := lkP_small k1 (by omega)
          have hPl : (lkP s.now).length = N := by rw [hP]; unfold bkL; simp
          refine wp_seq ?_
          refine wp_region_lit ?_
          refine s_m hf rfl ?_; clear hf a; intro a hf
          replace hs := hs.take (A := slB 5 (.slice e1 s.now.length f1) s.now) (by first | exact .k0 | exact .k1 | exact .k2 | exact .k3 | exact .k4 | exact .k5 | exact .k6 | exact .k7 | exact .k8 | exact .k9 | exact .k10 | exact .k11)
          refine s_do hf rfl (y_call (hf.eval rfl) (hf.evals rfl) Tryd.call57 ((rsealed_spec _ _ _ s.now (hs.rdB .k0 fun h => slB_rd) (by omega)).mono ?_))
          rintro e w1 ⟨sv, rfl, hsv, hk9⟩
          replace hs := hs.ext hk9
          obtain rfl := hsv hse.1
          refine ⟨_, rfl, ?_⟩; clear hf a; intro a hf
          refine s_m hf rfl ?_; clear hf a; intro a hf
          refine s_v hf (x_extract (hf.eval rfl) rfl) ?_; clear hf a; intro a hf
          refine s_v hf (x_extract (hf.eval rfl) rfl) ?_; clear hf a; intro a hf
          refine s_do hf rfl (y_alloc hs Tryd.zeroValue24 ?_); clear hf hs a; intro b8 w hs a hf
          change St _ _ (cb b8 24 (slF zSl) :: _) at hs
          refine s_do0 hf rfl (y_storeAgg (cs := slF (sdS s.now)) hs (n := 7) (by kernel_rfl) (hf.eval rfl) (hf.eval rfl) (by simp [Value.oneCell', slF]) rfl rfl .k0 ?_); clear hf hs a; intro w hs a hf
          refine s_a hf rfl ?_; clear hf a; intro a hf
          refine s_nil ?_
          refine then_n ?_
          refine wp_seq ?_
          refine wp_region_lit ?_
          refine s_v hf (x_fieldAddr fo24_2 (hf.eval rfl)) ?_; clear hf a; intro a hf
          refine s_r hf (x_load sc3 (hf.eval rfl) (by first | exact hs.cell .k0 rfl | exact hs.cell .k1 rfl | exact hs.cell .k2 rfl | exact hs.cell .k3 rfl | exact hs.cell .k4 rfl | exact hs.cell .k5 rfl | exact hs.cell .k6 rfl | exact hs.cell .k7 rfl | exact hs.cell .k8 rfl | exact hs.cell .k9 rfl)) ?_; clear hf a; intro a hf
          replace hf := hf.now (k := 45) (v' := .int .i64 (sdS s.now).2.2.1) rfl (rfl)
          refine s_v hf (x_fieldAddr fo24_3 (hf.eval rfl)) ?_; clear hf a; intro a hf
          refine s_r hf (x_load sc3 (hf.eval rfl) (by first | exact hs.cell .k0 rfl | exact hs.cell .k1 rfl | exact hs.cell .k2 rfl | exact hs.cell .k3 rfl | exact hs.cell .k4 rfl | exact hs.cell .k5 rfl | exact hs.cell .k6 rfl | exact hs.cell .k7 rfl | exact hs.cell .k8 rfl | exact hs.cell .k9 rfl)) ?_; clear hf a; intro a hf
          replace hf := hf.now (k := 47) (v' := .int .i64 (sdS s.now).2.2.2.1) rfl (rfl)
          refine s_do hf rfl (y_call (hf.eval rfl) (hf.evals rfl) Tryd.call58 ((body_spec _ (sdS s.now).2.2.1 (sdS s.now).2.2.2.1 (by omega) (by omega) (by omega) (by omega)).mono ?_))
          rintro e w1 ⟨rfl, hk9⟩
          replace hs := hs.ext hk9
          refine ⟨_, rfl, ?_⟩; clear hf a; intro a hf
          refine s_a hf rfl ?_; clear hf a; intro a hf
          refine s_nil ?_
          refine then_n ?_
          refine wp_seq ?_
          refine c_draw hs (fun _ => True) [.read, .held, .held, .held, .held, .read, .held, .held, .eff, .held, .held, .held, .held, .held] (by kernel_rfl) (by kernel_rfl) (fun _ _ _ => trivial) ?_
          clear hs; intro w hs hC hw
          replace hs := hs.take (A := cb b8 24 (slF (sdS s.now))) (by first | exact .k0 | exact .k1 | exact .k2 | exact .k3 | exact .k4 | exact .k5 | exact .k6 | exact .k7 | exact .k8 | exact .k9 | exact .k10 | exact .k11)
          refine m_read hf rfl (x_loadBlk hs ag24 (hf.eval rfl) rfl (by first | exact .k0 | exact .k1 | exact .k2 | exact .k3 | exact .k4 | exact .k5 | exact .k6 | exact .k7 | exact .k8 | exact .k9)) ?_; clear hf a; intro a hf
          refine m_held hf rfl (fun w' _ => x_move (hf.eval rfl) w') ?_; clear hf a; intro a hf
          refine m_held hf rfl (fun w' _ => x_move (hf.eval rfl) w') ?_; clear hf a; intro a hf
          refine m_held hf rfl (fun w' _ => x_move (hf.eval rfl) w') ?_; clear hf a; intro a hf
          refine m_held hf rfl (fun w' _ => x_fieldAddr fo24_5 (hf.eval rfl) w') ?_; clear hf a; intro a hf
          refine m_read hf rfl (x_load sc3 (hf.eval rfl) (by first | exact hs.cell .k0 rfl | exact hs.cell .k1 rfl | exact hs.cell .k2 rfl | exact hs.cell .k3 rfl | exact hs.cell .k4 rfl | exact hs.cell .k5 rfl | exact hs.cell .k6 rfl | exact hs.cell .k7 rfl | exact hs.cell .k8 rfl | exact hs.cell .k9 rfl)) ?_; clear hf a; intro a hf
          replace hf := hf.now (k := 55) (v' := .int .i64 (sdS s.now).2.2.2.2.2.1) rfl (rfl)
          refine m_held hf rfl (fun w' _ => x_bin (hf.eval rfl) (hf.eval rfl) (r_addi _ (by omega) (by omega)) w') ?_; clear hf a; intro a hf
          refine m_held hf rfl (fun w' _ => x_slice sl25 (hf.eval rfl) (hf.eval rfl) (hf.eval rfl)  (by omega) (by omega) (by omega) w') ?_; clear hf a; intro a hf
          have hbl : (bodyS s.now).length = (sdS s.now).2.2.2.2.2.1.toNat := by unfold bodyS; rw [List.length_take, List.length_drop]; omega
          have hbr : RdB (hp w) (.slice (subA e1 f1 (upZ (max (sdS s.now).2.2.1 (sdS s.now).2.2.2.1)).toNat 1) (bodyS s.now).length (f1 - (upZ (max (sdS s.now).2.2.1 (sdS s.now).2.2.2.1)).toNat)) (bodyS s.now) := by unfold bodyS; exact sub_rd (hs.rdB (A := slB 5 (.slice e1 s.now.length f1) s.now) (by first | exact .k0 | exact .k1 | exact .k2 | exact .k3 | exact .k4 | exact .k5 | exact .k6 | exact .k7 | exact .k8 | exact .k9 | exact .k10 | exact .k11) fun h => slB_rd) (by omega)
          replace hf := hf.now (k := 57) (v' := .slice (subA e1 f1 (upZ (max (sdS s.now).2.2.1 (sdS s.now).2.2.2.1)).toNat 1) (bodyS s.now).length (f1 - (upZ (max (sdS s.now).2.2.1 (sdS s.now).2.2.2.1)).toNat)) rfl (by rw [hbl]; exact slice_eq rfl (by omega) rfl)
          refine m_eff hf rfl (y_call (hf.eval rfl) (hf.evals rfl) Tryd.call59 ((back_spec _ (sdS s.now) gu (by omega) (by omega) _ _ (bodyS s.now) hbr (by omega)).mono ?_))
          rintro e w1 ⟨vs, ns, rfl, hns, hj⟩
          replace hs := hs.join hj
          simp only [List.cons_append, List.nil_append] at hs
          obtain rfl : ns = N := by rw [hns hse.2, hNt]
          obtain ⟨vs_, vc_, rfl⟩ := sl_shape hs
          refine ⟨_, rfl, ⟨trivial, ?_⟩⟩; clear hf a; intro a hf
          refine m_held hf rfl (fun w' _ => x_move (hf.eval rfl) w') ?_; clear hf a; intro a hf
          refine m_held hf rfl (fun w' _ => x_extract (hf.eval rfl) rfl w') ?_; clear hf a; intro a hf
          refine m_held hf rfl (fun w' _ => x_extract (hf.eval rfl) rfl w') ?_; clear hf a; intro a hf
          refine m_held hf rfl (fun w' _ => x_assign (hf.eval rfl) w') ?_; clear hf a; intro a hf
          refine m_held hf rfl (fun w' _ => x_assign (hf.eval rfl) w') ?_; clear hf a; intro a hf
          refine m_nil ?_
          refine then_n ?_
          refine wp_seq ?_
          refine wp_seq ?_
          refine wp_region_lit ?_
          replace hs := hs.take (A := cb b2 45 (vdF (0, 0, 0))) (by first | exact .k0 | exact .k1 | exact .k2 | exact .k3 | exact .k4 | exact .k5 | exact .k6 | exact .k7 | exact .k8 | exact .k9 | exact .k10 | exact .k11)
          replace hs := hs.take (A := cb b6 45 (vdF (lkV s.now).1)) (by first | exact .k0 | exact .k1 | exact .k2 | exact .k3 | exact .k4 | exact .k5 | exact .k6 | exact .k7 | exact .k8 | exact .k9 | exact .k10 | exact .k11)
          replace hs := hs.take (A := slB 5 (.slice g (lkV s.now).2.length cg) (lkV s.now).2) (by first | exact .k0 | exact .k1 | exact .k2 | exact .k3 | exact .k4 | exact .k5 | exact .k6 | exact .k7 | exact .k8 | exact .k9 | exact .k10 | exact .k11)
          replace hs := hs.take (A := sl 91 2 (.slice vs_ (spL (bodyS s.now) ns).length vc_) (spL (bodyS s.now) ns).length ((spL (bodyS s.now) ns).flatMap spF)) (by first | exact .k0 | exact .k1 | exact .k2 | exact .k3 | exact .k4 | exact .k5 | exact .k6 | exact .k7 | exact .k8 | exact .k9 | exact .k10 | exact .k11)
          replace hs := hs.take (A := refA 97 139 5 3 D s) (by first | exact .k0 | exact .k1 | exact .k2 | exact .k3 | exact .k4 | exact .k5 | exact .k6 | exact .k7 | exact .k8 | exact .k9 | exact .k10 | exact .k11)
          replace hs := St.cut [_, _, _, _, _] [_, _] hs
          refine s_a hf rfl ?_; clear hf a; intro a hf
          refine s_nil ?_
          refine then_n ?_
          refine wp_block ?_
          refine c_loop (L0 := [(0, _), (2, _), (6, _), (7, _), (11, _)]) (fun M w m => ∃ (i : Nat) (t : DS), M = [(13, .int .i64 (i : Int))] ∧ ns - i = m ∧ i ≤ ns ∧ (runS s (((lkP s.now).take i).map wrO)).1 = 0 ∧ t = (runS s (((lkP s.now).take i).map wrO)).2 ∧ St ⟨w0, None_⟩ w (refA 97 139 5 3 D t :: sl 91 2 (.slice vs_ (spL (bodyS s.now) ns).length vc_) (spL (bodyS s.now) ns).length ((spL (bodyS s.now) ns).flatMap spF) :: slB 5 (.slice g (lkV s.now).2.length cg) (lkV s.now).2 :: cb b6 45 (vdF (lkV s.now).1) :: cb b2 45 (vdF (0, 0, 0)) :: R)) (M0 := [(13, .int .i64 0)]) (⟨0, s, rfl, rfl, Nat.zero_le _, by rw [List.take_zero, List.map_nil, runS_nil], by rw [List.take_zero, List.map_nil, runS_nil], hs⟩) (hf.sub ⟨rfl, rfl, rfl, rfl, rfl, rfl, trivial⟩) ?_
          clear hf hs a
          rintro M m a w ⟨i, t, rfl, rfl, hi, hr0, ht, hs⟩ hf
          have hto : DOk t := by rw [ht]; exact runS_ok _ ho
          have htb : DB t (k + i) := by rw [ht]; have h9 := runS_b (((lkP s.now).take i).map wrO) ho hb; have h8 : (((lkP s.now).take i).map wrO).length = i := (by rw [List.length_map, List.length_take]; omega); rw [h8] at h9; exact h9
          refine wp_seq ?_
          refine wp_seq ?_
          refine wp_region_lit ?_
          refine s_m hf rfl ?_; clear hf a; intro a hf
          refine s_m hf rfl ?_; clear hf a; intro a hf
          refine s_v hf (x_len Tryd.underlying87 (hf.eval rfl)) ?_; clear hf a; intro a hf
          refine s_v hf (x_bin (hf.eval rfl) (hf.eval rfl) (r_lt _ _ _ _)) ?_; clear hf a; intro a hf
          refine s_nil ?_
          refine then_n ?_
          refine c_cond hf rfl (fun hi4 => ?_) (fun hi4 => ?_)
          · first | simp only [decide_eq_true_eq, decide_eq_false_iff_not, Bool.not_eq_true', Bool.not_eq_false', ne_eq, Classical.not_not] at hi4 | skip
            have hsl9 : (spL (bodyS s.now) ns).length = ns := by unfold spL; simp
            have hlt : i < ns := by omega
            have hlP : i < (lkP s.now).length := by omega
            obtain ⟨hq1, hq2⟩ := spL_at (body := bodyS s.now) hlt
            obtain ⟨q1, q2, q3, q4⟩ := bk_span hse.2 hN hlt
            have hPi : (lkP s.now)[i] = ((spA (bodyS s.now) i), (((bodyS s.now).drop (8 * (sdS s.now).2.2.2.2.1.toNat + totB (sdS s.now).2.2.1 (bodyS s.now) i)).take (spN (bodyS s.now) i))) := by obtain ⟨_, h9⟩ := bkL_get (s := sdS s.now) (body := bodyS s.now) hlt; rw [← h9]; exact getElem_congr_coll hP
            have hwo : wrO (lkP s.now)[i] = (2, (((spA (bodyS s.now) i) : Nat) : Int), (((bodyS s.now).drop (8 * (sdS s.now).2.2.2.2.1.toNat + totB (sdS s.now).2.2.1 (bodyS s.now) i)).take (spN (bodyS s.now) i))) := by rw [hPi]; rfl
            have hsn : runS s (((lkP s.now).take (i + 1)).map wrO) = coS t (wrO (lkP s.now)[i]) := by rw [wrO_succ hlP, runS_snoc hr0, ← ht]
            have hcl : (lkV s.now).2.length = (lkZ s.now).toNat := by rw [k6, putPs_len, List.length_take]; omega
            have hdi : (((bodyS s.now).drop (8 * (sdS s.now).2.2.2.2.1.toNat + totB (sdS s.now).2.2.1 (bodyS s.now) i)).take (spN (bodyS s.now) i)) = ((lkV s.now).2.drop (spA (bodyS s.now) i)).take (spN (bodyS s.now) i) := by rw [k6, hP]; exact (bk_slice hse.2 hN hlt _ (by rw [List.length_take]; omega)).symm
            have hdl : (((bodyS s.now).drop (8 * (sdS s.now).2.2.2.2.1.toNat + totB (sdS s.now).2.2.1 (bodyS s.now) i)).take (spN (bodyS s.now) i)).length = (spN (bodyS s.now) i) := by rw [hdi, List.length_take, List.length_drop]; omega
            replace hs := hs.take (A := sl 91 2 (.slice vs_ (spL (bodyS s.now) ns).length vc_) (spL (bodyS s.now) ns).length ((spL (bodyS s.now) ns).flatMap spF)) (by first | exact .k0 | exact .k1 | exact .k2 | exact .k3 | exact .k4 | exact .k5 | exact .k6 | exact .k7 | exact .k8 | exact .k9 | exact .k10 | exact .k11)
            obtain ⟨vs_, rfl⟩ := sl_some hs (by omega)
            obtain ⟨DX, hDX⟩ : ∃ DX, DX = (((bodyS s.now).drop (8 * (sdS s.now).2.2.2.2.1.toNat + totB (sdS s.now).2.2.1 (bodyS s.now) i)).take (spN (bodyS s.now) i)) := ⟨_, rfl⟩
            rw [← hDX] at hdi hdl hwo
            refine wp_skip ?_
            refine then_n ?_
            refine wp_seq ?_
            refine wp_block ?_
            refine wp_seq ?_
            refine c_draw hs (fun _ => True) [.held, .held, .held, .held, .held, .read, .held, .held, .held, .held, .held, .read, .held, .held, .held, .held, .read, .held, .eff, .held] (by kernel_rfl) (by kernel_rfl) (fun _ _ _ => trivial) ?_
            clear hs; intro w hs hC hw
            refine m_held hf rfl (fun w' _ => x_move (hf.eval rfl) w') ?_; clear hf a; intro a hf
            refine m_held hf rfl (fun w' _ => x_move (hf.eval rfl) w') ?_; clear hf a; intro a hf
            refine m_held hf rfl (fun w' _ => x_move (hf.eval rfl) w') ?_; clear hf a; intro a hf
            refine m_held hf rfl (fun w' _ => x_indexAddr sl87 (hf.eval rfl) (hf.eval rfl) (by omega) (by omega) w') ?_; clear hf a; intro a hf
            refine m_held hf rfl (fun w' _ => x_fieldAddrG fo91_0 (hf.eval rfl) w') ?_; clear hf a; intro a hf
            refine m_read hf rfl (x_loadF (k := 0) (i := (i : Int)) (f := spF) (l := spL (bodyS s.now) ns) (u := .int .i64 (((spA (bodyS s.now) i) : Nat) : Int)) sc3 (by intro _; rfl) (hs.rd (A := sl 91 2 (.slice (some vs_) (spL (bodyS s.now) ns).length vc_) (spL (bodyS s.now) ns).length ((spL (bodyS s.now) ns).flatMap spF)) (by first | exact .k0 | exact .k1 | exact .k2 | exact .k3 | exact .k4 | exact .k5 | exact .k6 | exact .k7 | exact .k8 | exact .k9 | exact .k10 | exact .k11) fun h hh => sl_rd hh) (hf.eval rfl) (by rw [Int.toNat_natCast]; exact hq1) (by show (spF (spL (bodyS s.now) ns)[i])[0]? = _; rw [hq2]; rfl)) ?_; clear hf a; intro a hf
            refine m_held hf rfl (fun w' _ => x_move (hf.eval rfl) w') ?_; clear hf a; intro a hf
            refine m_held hf rfl (fun w' _ => x_move (hf.eval rfl) w') ?_; clear hf a; intro a hf
            refine m_held hf rfl (fun w' _ => x_move (hf.eval rfl) w') ?_; clear hf a; intro a hf
            refine m_held hf rfl (fun w' _ => x_indexAddr sl87 (hf.eval rfl) (hf.eval rfl) (by omega) (by omega) w') ?_; clear hf a; intro a hf
            refine m_held hf rfl (fun w' _ => x_fieldAddrG fo91_0 (hf.eval rfl) w') ?_; clear hf a; intro a hf
            refine m_read hf rfl (x_loadF (k := 0) (i := (i : Int)) (f := spF) (l := spL (bodyS s.now) ns) (u := .int .i64 (((spA (bodyS s.now) i) : Nat) : Int)) sc3 (by intro _; rfl) (hs.rd (A := sl 91 2 (.slice (some vs_) (spL (bodyS s.now) ns).length vc_) (spL (bodyS s.now) ns).length ((spL (bodyS s.now) ns).flatMap spF)) (by first | exact .k0 | exact .k1 | exact .k2 | exact .k3 | exact .k4 | exact .k5 | exact .k6 | exact .k7 | exact .k8 | exact .k9 | exact .k10 | exact .k11) fun h hh => sl_rd hh) (hf.eval rfl) (by rw [Int.toNat_natCast]; exact hq1) (by show (spF (spL (bodyS s.now) ns)[i])[0]? = _; rw [hq2]; rfl)) ?_; clear hf a; intro a hf
            refine m_held hf rfl (fun w' _ => x_move (hf.eval rfl) w') ?_; clear hf a; intro a hf
            refine m_held hf rfl (fun w' _ => x_move (hf.eval rfl) w') ?_; clear hf a; intro a hf
            refine m_held hf rfl (fun w' _ => x_indexAddr sl87 (hf.eval rfl) (hf.eval rfl) (by omega) (by omega) w') ?_; clear hf a; intro a hf
            refine m_held hf rfl (fun w' _ => x_fieldAddrG fo91_1 (hf.eval rfl) w') ?_; clear hf a; intro a hf
            refine m_read hf rfl (x_loadF (k := 1) (i := (i : Int)) (f := spF) (l := spL (bodyS s.now) ns) (u := .int .i64 (((spA (bodyS s.now) i) + (spN (bodyS s.now) i) : Nat) : Int)) sc3 (by intro _; rfl) (hs.rd (A := sl 91 2 (.slice (some vs_) (spL (bodyS s.now) ns).length vc_) (spL (bodyS s.now) ns).length ((spL (bodyS s.now) ns).flatMap spF)) (by first | exact .k0 | exact .k1 | exact .k2 | exact .k3 | exact .k4 | exact .k5 | exact .k6 | exact .k7 | exact .k8 | exact .k9 | exact .k10 | exact .k11) fun h hh => sl_rd hh) (hf.eval rfl) (by rw [Int.toNat_natCast]; exact hq1) (by show (spF (spL (bodyS s.now) ns)[i])[1]? = _; rw [hq2]; rfl)) ?_; clear hf a; intro a hf
            refine m_held hf rfl (fun w' _ => x_slice sl25 (hf.eval rfl) (hf.eval rfl) (hf.eval rfl)  (by omega) (by omega) (by omega) w') ?_; clear hf a; intro a hf
            replace hf := hf.now (k := 84) (v' := .slice (subA g cg (spA (bodyS s.now) i) 1) DX.length (cg - (spA (bodyS s.now) i))) rfl (by rw [hdl]; exact slice_eq rfl (by omega) rfl)
            replace hs := hs.take (A := refA 97 139 5 3 D t) (by first | exact .k0 | exact .k1 | exact .k2 | exact .k3 | exact .k4 | exact .k5 | exact .k6 | exact .k7 | exact .k8 | exact .k9 | exact .k10 | exact .k11)
            have hrd : Rdy ⟨w0, None_⟩ (sl 91 2 (.slice (some vs_) (spL (bodyS s.now) ns).length vc_) (spL (bodyS s.now) ns).length ((spL (bodyS s.now) ns).flatMap spF) :: slB 5 (.slice g (lkV s.now).2.length cg) (lkV s.now).2 :: cb b6 45 (vdF (lkV s.now).1) :: cb b2 45 (vdF (0, 0, 0)) :: R) (.slice (subA g cg (spA (bodyS s.now) i) 1) DX.length (cg - (spA (bodyS s.now) i))) DX := own_sub .k1 (by omega) hdi
            refine m_eff hf rfl (y_call (hf.eval rfl) (hf.evals rfl) Tryd.call68 ((rWrite_spec _ _ _ D t hs (((spA (bodyS s.now) i) : Nat) : Int) _ _ DX hrd (by omega) hto (by have := htb.calls; omega) (by have := htb.pcs; omega) (by have := htb.sizes; omega)).mono ?_))
            rintro e w1 ⟨rfl, hs⟩
            rw [← co_wr] at hs ⊢
            refine ⟨_, rfl, ⟨trivial, ?_⟩⟩; clear hf a; intro a hf
            refine m_held hf rfl (fun w' _ => x_assign (hf.eval rfl) w') ?_; clear hf a; intro a hf
            refine m_nil ?_
            refine then_n ?_
            refine wp_seq ?_
            refine wp_region_lit ?_
            refine s_m hf rfl ?_; clear hf a; intro a hf
            refine s_v hf (x_bin (hf.eval rfl) (hf.eval rfl) (r_ne _ _ _ _)) ?_; clear hf a; intro a hf
            refine s_nil ?_
            refine then_n ?_
            refine c_cond hf rfl (fun hi5 => ?_) (fun hi5 => ?_)
            · first | simp only [decide_eq_true_eq, decide_eq_false_iff_not, Bool.not_eq_true', Bool.not_eq_false', ne_eq, Classical.not_not] at hi5 | skip
              refine wp_seq ?_
              refine wp_region_lit ?_
              refine s_r hf (x_build (v := .agg (vdF (0, 0, 0)).toArray) (hf.parts rfl) (fun w => by kernel_rfl) _) ?_; clear hf a; intro a hf
              refine s_m hf rfl ?_; clear hf a; intro a hf
              replace hs := hs.take (A := cb b2 45 (vdF (0, 0, 0))) (by first | exact .k0 | exact .k1 | exact .k2 | exact .k3 | exact .k4 | exact .k5 | exact .k6 | exact .k7 | exact .k8 | exact .k9 | exact .k10 | exact .k11)
              refine s_do0 hf rfl (y_storeAgg (cs := vdF (0, 0, 0)) hs (n := 3) (by kernel_rfl) (hf.eval rfl) (hf.eval rfl) (by simp [Value.oneCell', vdF]) rfl rfl .k0 ?_); clear hf hs a; intro w hs a hf
              refine s_a hf rfl ?_; clear hf a; intro a hf
              refine s_nil ?_
              refine then_n ?_
              refine wp_ret ?_
              refine blk_r (then_r (then_r (blk_r (then_r (then_r ?_)))))
              refine r_2c hf Tryd.results30 rfl rfl hs ag45 rfl (by first | exact .k0 | exact .k1 | exact .k2 | exact .k3 | exact .k4 | exact .k5 | exact .k6 | exact .k7 | exact .k8 | exact .k9 | exact .k10 | exact .k11) ?_
              have hop : opsR s.now = ((lkP s.now).take (i + 1)).map wrO ++ (((lkP s.now).drop (i + 1)).map wrO ++ ([syO] ++ [(3, (lkV s.now).1.2.2, []), syO])) := by rw [opsR_3 hi3, ← List.append_assoc, ← List.map_append, List.take_append_drop, List.append_assoc]
              have hru : runS s (opsR s.now) = coS t (wrO (lkP s.now)[i]) := by rw [hop, runS_stop (by rw [hsn, hwo]; exact hi5), hsn]
              rw [hwo] at hru
              obtain ⟨r1, r2⟩ := rec_bad hi1 (by rw [hru]; exact hi5)
              rw [r1, r2, hru]
              replace hs := hs.take (A := refA 97 139 5 3 D (coS t (2, (((spA (bodyS s.now) i) : Nat) : Int), DX)).2) (by first | exact .k0 | exact .k1 | exact .k2 | exact .k3 | exact .k4 | exact .k5 | exact .k6 | exact .k7 | exact .k8 | exact .k9 | exact .k10 | exact .k11)
              exact ⟨rfl, St.mid [_, _, _, _] hs⟩
            · first | simp only [decide_eq_true_eq, decide_eq_false_iff_not, Bool.not_eq_true', Bool.not_eq_false', ne_eq, Classical.not_not] at hi5 | skip
              refine wp_skip ?_
              refine blk_n ?_
              refine then_n ?_
              refine wp_region_lit ?_
              refine s_m hf rfl ?_; clear hf a; intro a hf
              refine s_v hf (x_bin (hf.eval rfl) (hf.eval rfl) (r_addi _ (by omega) (by omega))) ?_; clear hf a; intro a hf
              refine s_a hf rfl ?_; clear hf a; intro a hf
              refine s_nil ?_
              exact ⟨_, _, ⟨i + 1, (coS t (wrO (lkP s.now)[i])).2, rfl, rfl, by omega, by rw [hsn, hwo]; exact hi5, by rw [hsn], by rw [hwo]; exact hs⟩, by omega, hf.sub ⟨rfl, rfl, rfl, rfl, rfl, rfl, trivial⟩⟩
          · first | simp only [decide_eq_true_eq, decide_eq_false_iff_not, Bool.not_eq_true', Bool.not_eq_false', ne_eq, Classical.not_not] at hi4 | skip
            have hsl9 : (spL (bodyS s.now) ns).length = ns := by unfold spL; simp
            refine wp_exit ?_
            refine then_x ?_
            refine then_x ?_
            refine blk_x ?_
            refine then_n ?_
            refine wp_seq ?_
            refine wp_region_lit ?_
            refine s_m hf rfl ?_; clear hf a; intro a hf
            obtain rfl : i = ns := by omega
            have hti : (lkP s.now).take i = lkP s.now := List.take_of_length_le (by omega)
            rw [hti] at hr0 ht
            replace hs := hs.take (A := refA 97 139 5 3 D t) (by first | exact .k0 | exact .k1 | exact .k2 | exact .k3 | exact .k4 | exact .k5 | exact .k6 | exact .k7 | exact .k8 | exact .k9 | exact .k10 | exact .k11)
            refine s_do hf rfl (y_call (hf.eval rfl) (hf.evals rfl) Tryd.call69 ((rSync_spec _ _ _ D t hs hto (by have := htb.calls; omega) (by have := htb.pcs; omega) (by have := htb.sizes; omega)).mono ?_))
            rintro e w1 ⟨rfl, hs⟩
            rw [← co_sy] at hs ⊢
            have hpr2 : runS s (preR s.now) = coS t syO := by unfold preR; rw [if_pos hi3, runS_snoc hr0, ← ht]
            refine ⟨_, rfl, ?_⟩; clear hf a; intro a hf
            refine s_a hf rfl ?_; clear hf a; intro a hf
            refine s_nil ?_
            refine then_n ?_
            refine wp_seq ?_
            refine wp_region_lit ?_
            refine s_m hf rfl ?_; clear hf a; intro a hf
            refine s_v hf (x_bin (hf.eval rfl) (hf.eval rfl) (r_ne _ _ _ _)) ?_; clear hf a; intro a hf
            refine s_nil ?_
            refine then_n ?_
            refine c_cond hf rfl (fun hi6 => ?_) (fun hi6 => ?_)
            · first | simp only [decide_eq_true_eq, decide_eq_false_iff_not, Bool.not_eq_true', Bool.not_eq_false', ne_eq, Classical.not_not] at hi6 | skip
              refine wp_seq ?_
              refine wp_region_lit ?_
              refine s_r hf (x_build (v := .agg (vdF (0, 0, 0)).toArray) (hf.parts rfl) (fun w => by kernel_rfl) _) ?_; clear hf a; intro a hf
              refine s_m hf rfl ?_; clear hf a; intro a hf
              replace hs := hs.take (A := cb b2 45 (vdF (0, 0, 0))) (by first | exact .k0 | exact .k1 | exact .k2 | exact .k3 | exact .k4 | exact .k5 | exact .k6 | exact .k7 | exact .k8 | exact .k9 | exact .k10 | exact .k11)
              refine s_do0 hf rfl (y_storeAgg (cs := vdF (0, 0, 0)) hs (n := 3) (by kernel_rfl) (hf.eval rfl) (hf.eval rfl) (by simp [Value.oneCell', vdF]) rfl rfl .k0 ?_); clear hf hs a; intro w hs a hf
              refine s_a hf rfl ?_; clear hf a; intro a hf
              refine s_nil ?_
              refine then_n ?_
              refine wp_ret ?_
              refine then_r ?_
              refine r_2c hf Tryd.results30 rfl rfl hs ag45 rfl (by first | exact .k0 | exact .k1 | exact .k2 | exact .k3 | exact .k4 | exact .k5 | exact .k6 | exact .k7 | exact .k8 | exact .k9 | exact .k10 | exact .k11) ?_
              have hru : runS s (opsR s.now) = coS t syO := by rw [opsR_pre hi2, runS_stop (by rw [hpr2]; exact hi6), hpr2]
              obtain ⟨r1, r2⟩ := rec_bad hi1 (by rw [hru]; exact hi6)
              rw [r1, r2, hru]
              replace hs := hs.take (A := refA 97 139 5 3 D (coS t syO).2) (by first | exact .k0 | exact .k1 | exact .k2 | exact .k3 | exact .k4 | exact .k5 | exact .k6 | exact .k7 | exact .k8 | exact .k9 | exact .k10 | exact .k11)
              exact ⟨rfl, St.mid [_, _, _, _] hs⟩
            · first | simp only [decide_eq_true_eq, decide_eq_false_iff_not, Bool.not_eq_true', Bool.not_eq_false', ne_eq, Classical.not_not] at hi6 | skip
              have hpr : runS s (preR s.now) = (0, (coS t syO).2) := by rw [hpr2]; exact Prod.ext hi6 rfl
              replace hs := hs.take (A := cb b2 45 (vdF (0, 0, 0))) (by first | exact .k0 | exact .k1 | exact .k2 | exact .k3 | exact .k4 | exact .k5 | exact .k6 | exact .k7 | exact .k8 | exact .k9 | exact .k10 | exact .k11)
              replace hs := hs.take (A := cb b6 45 (vdF (lkV s.now).1)) (by first | exact .k0 | exact .k1 | exact .k2 | exact .k3 | exact .k4 | exact .k5 | exact .k6 | exact .k7 | exact .k8 | exact .k9 | exact .k10 | exact .k11)
              replace hs := hs.take (A := refA 97 139 5 3 D (coS t syO).2) (by first | exact .k0 | exact .k1 | exact .k2 | exact .k3 | exact .k4 | exact .k5 | exact .k6 | exact .k7 | exact .k8 | exact .k9 | exact .k10 | exact .k11)
              have hs9 := St.cut [_, _, _] [_, _] hs
              refine wp_skip ?_
              refine then_n ?_
              exact ⟨_, ⟨_, rfl, hpr, hs9⟩, hf.sub ⟨rfl, rfl, rfl, trivial⟩⟩
        · first | simp only [decide_eq_true_eq, decide_eq_false_iff_not, Bool.not_eq_true', Bool.not_eq_false', ne_eq, Classical.not_not] at hi3 | skip
          have hpr : runS s (preR s.now) = (0, s) := by unfold preR; rw [if_neg hi3, runS_nil]
          have hs9 := St.cut [_, _, _] [_, _] hs
          refine wp_skip ?_
          refine then_n ?_
          exact ⟨_, ⟨_, rfl, hpr, hs9⟩, hf.sub ⟨rfl, rfl, rfl, trivial⟩⟩
      · clear hf hs a
        rintro M a w ⟨t, rfl, hpr, hs⟩ hf
        have hto : DOk t := by have h9 := runS_ok (preR s.now) ho; rw [hpr] at h9; exact h9
        have htb : DB t (k + (preR s.now).length) := by have h9 := runS_b (preR s.now) ho hb; rw [hpr] at h9; exact h9
        have hpl : (preR s.now).length ≤ 2097153 := by
          unfold preR
          split
          · rename_i h3
            rcases look_cases s.now with h | h | ⟨_, k1, _⟩
            · omega
            · omega
            · have h9 := lkP_small k1 (by omega); rw [List.length_append, List.length_map, List.length_singleton]; omega
          · simp
        refine wp_seq ?_
        refine wp_region_lit ?_
        refine s_m hf rfl ?_; clear hf a; intro a hf
        refine s_v hf (x_fieldAddr fo45_2 (hf.eval rfl)) ?_; clear hf a; intro a hf
        refine s_r hf (x_load sc3 (hf.eval rfl) (by first | exact hs.cell .k0 rfl | exact hs.cell .k1 rfl | exact hs.cell .k2 rfl | exact hs.cell .k3 rfl | exact hs.cell .k4 rfl | exact hs.cell .k5 rfl | exact hs.cell .k6 rfl | exact hs.cell .k7 rfl | exact hs.cell .k8 rfl | exact hs.cell .k9 rfl)) ?_; clear hf a; intro a hf
        replace hf := hf.now (k := 98) (v' := .int .i64 (lkV s.now).1.2.2) rfl (rfl)
        replace hs := hs.take (A := refA 97 139 5 3 D t) (by first | exact .k0 | exact .k1 | exact .k2 | exact .k3 | exact .k4 | exact .k5 | exact .k6 | exact .k7 | exact .k8 | exact .k9 | exact .k10 | exact .k11)
        refine s_do hf rfl (y_call (hf.eval rfl) (hf.evals rfl) Tryd.call70 ((rcut_spec w0 _ _ D t (lkV s.now).1.2.2 hs hto _ htb (by omega)).mono ?_))
        rintro e w1 ⟨rfl, hs⟩
        have hru : runS s (opsR s.now) = runS t [(3, (lkV s.now).1.2.2, []), syO] := by rw [opsR_pre hi2, runS_go (by rw [hpr]), hpr]
        rw [← hru] at hs ⊢
        refine ⟨_, rfl, ?_⟩; clear hf a; intro a hf
        refine s_a hf rfl ?_; clear hf a; intro a hf
        refine s_nil ?_
        refine then_n ?_
        refine wp_seq ?_
        refine wp_seq ?_
        refine wp_region_lit ?_
        refine s_m hf rfl ?_; clear hf a; intro a hf
        refine s_v hf (x_bin (hf.eval rfl) (hf.eval rfl) (r_ne _ _ _ _)) ?_; clear hf a; intro a hf
        refine s_nil ?_
        refine then_n ?_
        refine c_cond hf rfl (fun hi7 => ?_) (fun hi7 => ?_)
        · first | simp only [decide_eq_true_eq, decide_eq_false_iff_not, Bool.not_eq_true', Bool.not_eq_false', ne_eq, Classical.not_not] at hi7 | skip
          refine wp_seq ?_
          refine wp_region_lit ?_
          refine s_r hf (x_build (v := .agg (vdF (0, 0, 0)).toArray) (hf.parts rfl) (fun w => by kernel_rfl) _) ?_; clear hf a; intro a hf
          refine s_m hf rfl ?_; clear hf a; intro a hf
          replace hs := hs.take (A := cb b2 45 (vdF (0, 0, 0))) (by first | exact .k0 | exact .k1 | exact .k2 | exact .k3 | exact .k4 | exact .k5 | exact .k6 | exact .k7 | exact .k8 | exact .k9 | exact .k10 | exact .k11)
          refine s_do0 hf rfl (y_storeAgg (cs := vdF (0, 0, 0)) hs (n := 3) (by kernel_rfl) (hf.eval rfl) (hf.eval rfl) (by simp [Value.oneCell', vdF]) rfl rfl .k0 ?_); clear hf hs a; intro w hs a hf
          refine s_a hf rfl ?_; clear hf a; intro a hf
          refine s_nil ?_
          refine then_n ?_
          refine wp_ret ?_
          refine then_r ?_
          refine r_2c hf Tryd.results30 rfl rfl hs ag45 rfl (by first | exact .k0 | exact .k1 | exact .k2 | exact .k3 | exact .k4 | exact .k5 | exact .k6 | exact .k7 | exact .k8 | exact .k9 | exact .k10 | exact .k11) ?_
          rw [(rec_bad hi1 hi7).1, (rec_bad hi1 hi7).2]
          replace hs := hs.take (A := refA 97 139 5 3 D (runS s (opsR s.now)).2) (by first | exact .k0 | exact .k1 | exact .k2 | exact .k3 | exact .k4 | exact .k5 | exact .k6 | exact .k7 | exact .k8 | exact .k9 | exact .k10 | exact .k11)
          exact ⟨rfl, St.mid [_, _] hs⟩
        · first | simp only [decide_eq_true_eq, decide_eq_false_iff_not, Bool.not_eq_true', Bool.not_eq_false', ne_eq, Classical.not_not] at hi7 | skip
          refine wp_skip ?_
          refine then_n ?_
          refine wp_seq ?_
          refine wp_region_lit ?_
          refine s_r hf (x_loadBlk hs ag45 (hf.eval rfl) rfl (by first | exact .k0 | exact .k1 | exact .k2 | exact .k3 | exact .k4 | exact .k5 | exact .k6 | exact .k7 | exact .k8 | exact .k9)) ?_; clear hf a; intro a hf
          replace hs := hs.take (A := cb b2 45 (vdF (0, 0, 0))) (by first | exact .k0 | exact .k1 | exact .k2 | exact .k3 | exact .k4 | exact .k5 | exact .k6 | exact .k7 | exact .k8 | exact .k9 | exact .k10 | exact .k11)
          refine s_do0 hf rfl (y_storeAgg (cs := vdF (lkV s.now).1) hs (n := 3) (by kernel_rfl) (hf.eval rfl) (hf.eval rfl) (by simp [Value.oneCell', vdF]) rfl rfl .k0 ?_); clear hf hs a; intro w hs a hf
          refine s_a hf rfl ?_; clear hf a; intro a hf
          refine s_nil ?_
          refine then_n ?_
          refine wp_ret ?_
          refine r_2c hf Tryd.results30 rfl rfl hs ag45 rfl (by first | exact .k0 | exact .k1 | exact .k2 | exact .k3 | exact .k4 | exact .k5 | exact .k6 | exact .k7 | exact .k8 | exact .k9 | exact .k10 | exact .k11) ?_
          rw [(rec_ok hi1 hi7).1, (rec_ok hi1 hi7).2]
          replace hs := hs.take (A := refA 97 139 5 3 D (runS s (opsR s.now)).2) (by first | exact .k0 | exact .k1 | exact .k2 | exact .k3 | exact .k4 | exact .k5 | exact .k6 | exact .k7 | exact .k8 | exact .k9 | exact .k10 | exact .k11)
          exact ⟨rfl, St.mid [_, _] hs⟩
end Go.Proofs.YtehakfbfjpolfaaDoor

namespace Go.Proofs.YtehakfbfjpolfaaDoor
open Go Vw
theorem dNew_in (w0 : World) (a1 : Option Addr) (c1 : Nat) (image : List UInt8) (hr1 : RdB (hp w0) (.slice a1 image.length c1) image) (hl1 : image.length ≤ 140737488351232) (cap : Int) (hc1 : 0 ≤ cap) (hc2 : cap ≤ 16777216) (hc3 : image.length ≤ cap) : Calls Tryd.prog 25 #[.slice a1 image.length c1, .int .i64 cap] w0 fun e w' => ∃ p, e = .returned (.tuple #[.pointer (some ⟨p, 0, none⟩), .int .i64 0]) ∧ St ⟨w0, None_⟩ w' [diskA 94 113 5 3 p (newS image cap)] := by
  refine (dNew_ok w0 a1 c1 image hr1 hl1 cap hc1 hc2 hc3).mono fun e w' h => ?_
  obtain ⟨p, v1, v2, m, rfl, hs⟩ := h
  refine ⟨p, rfl, ?_⟩
  replace hs := St.give (L := _) (hs.emp (A := entsA 113 5 []) (fun _ => trivial)) .k4
  replace hs := St.give (L := _) (hs.emp (A := sl 3 1 (.slice none 0 0) 0 []) (fun _ => ⟨rfl, .inl ⟨rfl, rfl⟩⟩)) .k5
  exact diskA_close (s := newS image cap) (x := ⟨v1, v2, m, .slice none 0 0, [], 0⟩) (MOk.nil 0) Grp.nil hs
theorem upTo_spec (w : World) (k n : Int) : Calls Tryd.prog 74 #[.int .i64 k, .int .i64 n] w fun e w' => e = .returned (.int .i64 (max 0 (min k n))) ∧ w' = w := by
  refine c_enter (N := 9) Tryd.func74 rfl Tryd.ntmps74 (by simp) ?_
  intro a hf
  refine wp_seq ?_
  refine wp_region_lit ?_
  refine s_a hf rfl ?_; clear hf a; intro a hf
  refine s_nil ?_
  refine then_n ?_
  refine wp_seq ?_
  refine wp_region_lit ?_
  refine s_m hf rfl ?_; clear hf a; intro a hf
  refine s_m hf rfl ?_; clear hf a; intro a hf
  refine s_v hf (x_minI (hf.eval rfl) (hf.eval rfl)) ?_; clear hf a; intro a hf
  refine s_v hf (x_maxI (hf.eval rfl) (hf.eval rfl)) ?_; clear hf a; intro a hf
  refine s_a hf rfl ?_; clear hf a; intro a hf
  refine s_nil ?_
  refine then_n ?_
  refine wp_ret ?_
  refine r_1 hf Tryd.results74 rfl ?_
  exact ⟨rfl, rfl⟩
theorem dCrash_spec (σ : Sig) (w : World) (R : List Asrt) (p : Nat) (s : DS) (hs : St σ w (diskA 94 113 5 3 p s :: R)) (csz : Int) (ac : Option Addr) (cc : Nat) (secs : List Int) (rest : Int) (ho : DOk s) (hrc : RdyS iF 1 σ R (.slice ac secs.length cc) secs) (hsz : s.sizes.length ≤ 1099511600000) (hpc : s.pcs.length ≤ 1099511600000) : Calls Tryd.prog 37 #[.pointer (some ⟨p, 0, none⟩), .agg #[.int .i64 csz, .slice ac secs.length cc, .int .i64 rest]] w fun e w' => ∃ p', e = .returned (.tuple #[.pointer (some ⟨p', 0, none⟩), .int .i64 0]) ∧ St σ w' (diskA 94 113 5 3 p' (newS (outS s (csz, secs, rest)) s.room) :: diskA 94 113 5 3 p (kilS s) :: R) := by
  have hroom0 := ho.room0
  have hroom1 := ho.room1
  obtain ⟨⟨v1, v2, mp, v4, es, clk⟩, hm, hg, hs⟩ := diskA_open hs
  dsimp only at hm hg hs
  obtain ⟨a1, c1, rfl, hc1⟩ := slB_shape (hs.take .k1)
  obtain ⟨a2, c2, rfl, hc2⟩ := slB_shape (hs.take .k2)
  obtain ⟨a4, c4, rfl⟩ := sl_shape (hs.take .k5)
  refine c_enter (N := 103) Tryd.func37 rfl Tryd.ntmps37 (by simp) ?_
  intro a hf
  refine wp_seq ?_
  refine wp_region_lit ?_
  refine s_do hf rfl (y_box hs (hf.eval rfl) ?_); clear hf hs a; intro cb0 w hs a hf
  replace hs : St σ w (cb cb0 69 [.int .i64 csz, .slice ac secs.length cc, .int .i64 rest] :: _) := hs
  refine s_a hf rfl ?_; clear hf a; intro a hf
  refine s_a hf rfl ?_; clear hf a; intro a hf
  refine s_nil ?_
  refine then_n ?_
  refine wp_seq ?_
  refine wp_seq ?_
  refine wp_region_lit ?_
  refine s_m hf rfl ?_; clear hf a; intro a hf
  refine s_v hf (x_eqNil Tryd.underlying49 (hf.eval rfl) (hf.eval rfl)) ?_; clear hf a; intro a hf
  replace hf := hf.now (k := 15) (v' := .bool false) rfl rfl
  refine s_nil ?_
  refine then_n ?_
  refine c_cond_f hf rfl rfl ?_
  refine wp_skip ?_
  refine then_n ?_
  refine wp_seq ?_
  refine wp_region_lit ?_
  refine s_m hf rfl ?_; clear hf a; intro a hf
  refine s_v hf (x_nilCheck (hf.eval rfl)) ?_; clear hf a; intro a hf
  refine s_v hf (x_fieldAddr fo94_7 (hf.eval rfl)) ?_; clear hf a; intro a hf
  refine s_do0 hf rfl (y_store hs sc4 (hf.eval rfl) (hf.eval rfl) rfl (by first | exact .k0 | exact .k1 | exact .k2 | exact .k3 | exact .k4 | exact .k5) (by simp) ?_); clear hf hs a; intro w hs a hf
  replace hs : St σ w (cb cb0 _ _ :: dcell 94 p (kilS s) ⟨.slice a1 s.now.length c1, .slice a2 s.dur.length c2, mp, .slice a4 s.sizes.length c4, es, clk⟩ :: _) := hs
  refine s_nil ?_
  refine then_n ?_
  refine wp_seq ?_
  refine wp_region_lit ?_
  refine s_m hf rfl ?_; clear hf a; intro a hf
  refine s_v hf (x_nilCheck (hf.eval rfl)) ?_; clear hf a; intro a hf
  refine s_v hf (x_fieldAddr fo94_2 (hf.eval rfl)) ?_; clear hf a; intro a hf
  refine s_r hf (x_load sc25 (hf.eval rfl) (by first | exact hs.cell .k0 rfl | exact hs.cell .k1 rfl | exact hs.cell .k2 rfl | exact hs.cell .k3 rfl | exact hs.cell .k4 rfl | exact hs.cell .k5 rfl)) ?_; clear hf a; intro a hf
  refine s_v hf (x_len Tryd.underlying25 (hf.eval rfl)) ?_; clear hf a; intro a hf
  refine s_a hf rfl ?_; clear hf a; intro a hf
  refine s_nil ?_
  refine then_n ?_
  refine wp_seq ?_
  refine wp_seq ?_
  refine c_draw hs (fun _ => True) [.held, .read, .held, .held, .held, .read, .held, .eff, .held] (by kernel_rfl) (by kernel_rfl) (fun _ _ _ => trivial) ?_
  clear hs; intro w hs hC hw
  refine m_held hf rfl (fun w' _ => x_fieldAddr fo69_0 (hf.eval rfl) w') ?_; clear hf a; intro a hf
  refine m_read hf rfl (x_load sc3 (hf.eval rfl) (by first | exact hs.cell .k0 rfl | exact hs.cell .k1 rfl | exact hs.cell .k2 rfl | exact hs.cell .k3 rfl | exact hs.cell .k4 rfl | exact hs.cell .k5 rfl)) ?_; clear hf a; intro a hf
  refine m_held hf rfl (fun w' _ => x_move (hf.eval rfl) w') ?_; clear hf a; intro a hf
  refine m_held hf rfl (fun w' _ => x_nilCheck (hf.eval rfl) w') ?_; clear hf a; intro a hf
  refine m_held hf rfl (fun w' _ => x_fieldAddr fo94_4 (hf.eval rfl) w') ?_; clear hf a; intro a hf
  refine m_read hf rfl (x_load sc67 (hf.eval rfl) (by first | exact hs.cell .k0 rfl | exact hs.cell .k1 rfl | exact hs.cell .k2 rfl | exact hs.cell .k3 rfl | exact hs.cell .k4 rfl | exact hs.cell .k5 rfl)) ?_; clear hf a; intro a hf
  refine m_held hf rfl (fun w' _ => x_len Tryd.underlying67 (hf.eval rfl) w') ?_; clear hf a; intro a hf
  refine m_eff hf rfl (y_call (hf.eval rfl) (hf.evals rfl) Tryd.call74 ((upTo_spec _ csz s.sizes.length).mono ?_))
  rintro e w1 ⟨rfl, rfl⟩
  refine ⟨_, rfl, ⟨trivial, ?_⟩⟩; clear hf a; intro a hf
  refine m_held hf rfl (fun w' _ => x_assign (hf.eval rfl) w') ?_; clear hf a; intro a hf
  replace hf := hf.now (k := 7) (v' := .int .i64 (max 0 (szIx s (csz, secs, rest)))) rfl (rfl)
  refine m_nil ?_
  refine then_n ?_
  refine wp_seq ?_
  refine wp_region_lit ?_
  refine s_m hf rfl ?_; clear hf a; intro a hf
  refine s_v hf (x_bin (hf.eval rfl) (hf.eval rfl) (r_gt _ _ _ _)) ?_; clear hf a; intro a hf
  refine s_nil ?_
  refine then_n ?_
  refine c_cond hf rfl (fun hi1 => ?_) (fun hi1 => ?_)
  · simp only [decide_eq_true_eq, decide_eq_false_iff_not, Bool.not_eq_true', Bool.not_eq_false', Bool.not_eq_true, Int.not_lt, Int.not_le] at hi1
    have hix : 0 < szIx s (csz, secs, rest) := by omega
    have hix2 : szIx s (csz, secs, rest) ≤ s.sizes.length := by unfold szIx; omega
    obtain ⟨a4, rfl⟩ := sl_some (hs.take .k6) (by omega)
    refine wp_region_lit ?_
    refine s_m hf rfl ?_; clear hf a; intro a hf
    refine s_v hf (x_nilCheck (hf.eval rfl)) ?_; clear hf a; intro a hf
    refine s_v hf (x_fieldAddr fo94_4 (hf.eval rfl)) ?_; clear hf a; intro a hf
    refine s_r hf (x_load sc67 (hf.eval rfl) (by first | exact hs.cell .k0 rfl | exact hs.cell .k1 rfl | exact hs.cell .k2 rfl | exact hs.cell .k3 rfl | exact hs.cell .k4 rfl | exact hs.cell .k5 rfl)) ?_; clear hf a; intro a hf
    refine s_m hf rfl ?_; clear hf a; intro a hf
    refine s_v hf (x_bin (hf.eval rfl) (hf.eval rfl) (r_subi _ (by omega) (by omega))) ?_; clear hf a; intro a hf
    replace hf := hf.now (k := 39) (v' := .int .i64 (((szIx s (csz, secs, rest)).toNat - 1 : Nat) : Int)) rfl (by congr 1; omega)
    refine s_v hf (x_indexAddr sl67 (hf.eval rfl) (hf.eval rfl) (by omega) (by omega)) ?_; clear hf a; intro a hf
    refine s_r hf (x_loadC hs sc3 .k6 (hf.eval rfl) (szC_get (i := (szIx s (csz, secs, rest)).toNat - 1) (by omega))) ?_; clear hf a; intro a hf
    refine s_a hf rfl ?_; clear hf a; intro a hf
    replace hf := hf.now (k := 6) (v' := .int .i64 (outN s (csz, secs, rest) : Int)) rfl (by rw [outN_some hix])
    refine s_nil ?_
    refine then_n ?_
    refine wp_seq ?_
    refine wp_region_lit ?_
    refine s_m hf rfl ?_; clear hf a; intro a hf
    have hoN := outN_le ho (csz, secs, rest)
    refine s_do hf rfl (y_makeB (m := outN s (csz, secs, rest)) (c := outN s (csz, secs, rest)) hs sl25 (hf.eval rfl) (hf.eval rfl) rfl rfl (Nat.le_refl _) (by omega) ?_); clear hf hs a; intro fb w hs a hf
    refine s_a hf rfl ?_; clear hf a; intro a hf
    refine s_nil ?_
    refine then_n ?_
    refine wp_seq ?_
    refine wp_region_lit ?_
    refine s_m hf rfl ?_; clear hf a; intro a hf
    refine s_m hf rfl ?_; clear hf a; intro a hf
    refine s_v hf (x_nilCheck (hf.eval rfl)) ?_; clear hf a; intro a hf
    refine s_v hf (x_fieldAddr fo94_2 (hf.eval rfl)) ?_; clear hf a; intro a hf
    refine s_r hf (x_load sc25 (hf.eval rfl) (by first | exact hs.cell .k0 rfl | exact hs.cell .k1 rfl | exact hs.cell .k2 rfl | exact hs.cell .k3 rfl | exact hs.cell .k4 rfl | exact hs.cell .k5 rfl)) ?_; clear hf a; intro a hf
    refine s_do hf rfl (y_copyB (o := 0) (cur' := spl (List.replicate (outN s (csz, secs, rest)) 0) 0 (s.dur.take (min s.dur.length (outN s (csz, secs, rest))))) hs sl25 (hf.eval rfl) (hf.eval rfl) (fun _ => rfl) (hs.rdB .k4 fun h => slB_rd) rfl .k0 rfl (by simp) ?_); clear hf hs a; intro w hs a hf
    obtain ⟨out0, ho0⟩ : ∃ o, o = spl (List.replicate (outN s (csz, secs, rest)) 0) 0 (s.dur.take (min s.dur.length (outN s (csz, secs, rest)))) := ⟨_, rfl⟩
    rw [← ho0] at hs
    obtain ⟨hd1, hd2⟩ := dur_start s _ ho0
    refine s_nil ?_
    refine then_n ?_
    refine wp_seq ?_
    refine wp_seq ?_
    refine wp_region_lit ?_
    refine s_m hf rfl ?_; clear hf a; intro a hf
    refine s_v hf (x_nilCheck (hf.eval rfl)) ?_; clear hf a; intro a hf
    refine s_v hf (x_fieldAddr fo94_3 (hf.eval rfl)) ?_; clear hf a; intro a hf
    refine s_r hf (x_load sc92 (hf.eval rfl) (by first | exact hs.cell .k0 rfl | exact hs.cell .k1 rfl | exact hs.cell .k2 rfl | exact hs.cell .k3 rfl | exact hs.cell .k4 rfl | exact hs.cell .k5 rfl)) ?_; clear hf a; intro a hf
    refine s_do hf rfl (y_range hs Tryd.underlying92 (hf.eval rfl) .k5 ?_); clear hf hs a; intro r w hs a hf
    refine s_nil ?_
    refine then_n ?_
    refine wp_block ?_
    refine c_loop (L0 := [(0, _), (3, _), (4, _), (5, _), (6, _), (8, _), (54, _)]) (fun M w m => ∃ (seen : Array Nat) (out : List UInt8), M = [] ∧ (es.filter fun x => decide (x.born ∉ seen.toList)).length = m ∧ Fnd s (csz, secs, rest) es seen.toList out ∧ St σ w (blk r (.mapIter (some mp) clk seen clk) :: bb fb 5 (out) :: cb cb0 69 [.int .i64 csz, .slice ac secs.length cc, .int .i64 rest] :: dcell 94 p (kilS s) ⟨.slice a1 s.now.length c1, .slice a2 s.dur.length c2, mp, .slice a4 s.sizes.length c4, es, clk⟩ :: slB 5 (.slice a1 s.now.length c1) s.now :: slB 5 (.slice a2 s.dur.length c2) s.dur :: mapA mp es clk :: entsA 113 5 es :: sl 3 1 (.slice a4 s.sizes.length c4) s.sizes.length (szC s.sizes) :: R)) (M0 := _) (⟨#[], out0, rfl, rfl, fnd_start s (csz, secs, rest) es hd1 hd2, hs⟩) (hf.sub ⟨rfl, rfl, rfl, rfl, rfl, rfl, rfl, trivial⟩) ?_
    clear hf hs a
    rintro M m a w ⟨seen, out, rfl, rfl, hfd, hs⟩ hf
    clear hd1 hd2
    refine wp_seq ?_
    refine wp_region_lit ?_
    refine s_do hf rfl (y_nextB hs (hf.eval rfl) .k5 hm ?_); clear hf hs a; intro b e w hs hbt hbf a hf
    refine s_v hf (x_extract (hf.eval rfl) (nxt_0 b e)) ?_; clear hf a; intro a hf
    refine s_nil ?_
    refine then_n ?_
    refine wp_seq ?_
    refine c_cond hf rfl (fun hi2 => ?_) (fun hi2 => ?_)
    · obtain ⟨he, hns⟩ := hbt hi2
      subst hi2
      replace hs : St σ w (blk r (.mapIter (some mp) clk (seen.push e.born) clk) :: bb fb 5 (out) :: cb cb0 69 [.int .i64 csz, .slice ac secs.length cc, .int .i64 rest] :: dcell 94 p (kilS s) ⟨.slice a1 s.now.length c1, .slice a2 s.dur.length c2, mp, .slice a4 s.sizes.length c4, es, clk⟩ :: slB 5 (.slice a1 s.now.length c1) s.now :: slB 5 (.slice a2 s.dur.length c2) s.dur :: mapA mp es clk :: entsA 113 5 es :: sl 3 1 (.slice a4 s.sizes.length c4) s.sizes.length (szC s.sizes) :: R) := hs
      clear hbt hbf
      obtain ⟨⟨ea, ec, hev⟩, hrd0, _⟩ := hs.ents .k7 he
      rw [hev] at hrd0
      have hec := RdC.cap hrd0
      clear hrd0
      refine wp_skip ?_
      refine then_n ?_
      refine wp_block ?_
      refine wp_seq ?_
      refine wp_region_lit ?_
      refine s_r hf (x_entry (hf.eval rfl) hs.head (hs.blk_at .k6) he hm) ?_; clear hf a; intro a hf
      replace hf := hf.now (k := 57) (v' := .tuple #[.int .i64 (e.sec : Int), .slice ea e.ps.length ec]) rfl (by rw [hev])
      refine s_v hf (x_extract (hf.eval rfl) rfl) ?_; clear hf a; intro a hf
      refine s_v hf (x_extract (hf.eval rfl) rfl) ?_; clear hf a; intro a hf
      refine s_a hf rfl ?_; clear hf a; intro a hf
      refine s_a hf rfl ?_; clear hf a; intro a hf
      refine s_nil ?_
      refine then_n ?_
      refine wp_seq ?_
      refine wp_region_lit ?_
      refine s_v hf (x_fieldAddr fo69_2 (hf.eval rfl)) ?_; clear hf a; intro a hf
      refine s_r hf (x_load sc3 (hf.eval rfl) (by first | exact hs.cell .k0 rfl | exact hs.cell .k1 rfl | exact hs.cell .k2 rfl | exact hs.cell .k3 rfl | exact hs.cell .k4 rfl | exact hs.cell .k5 rfl)) ?_; clear hf a; intro a hf
      refine s_a hf rfl ?_; clear hf a; intro a hf
      refine s_nil ?_
      refine then_n ?_
      refine wp_seq ?_
      refine wp_seq ?_
      refine wp_region_lit ?_
      refine s_m hf rfl ?_; clear hf a; intro a hf
      refine s_v hf (x_fieldAddr fo69_1 (hf.eval rfl)) ?_; clear hf a; intro a hf
      refine s_r hf (x_load sc67 (hf.eval rfl) (by first | exact hs.cell .k0 rfl | exact hs.cell .k1 rfl | exact hs.cell .k2 rfl | exact hs.cell .k3 rfl | exact hs.cell .k4 rfl | exact hs.cell .k5 rfl)) ?_; clear hf a; intro a hf
      refine s_v hf (x_len Tryd.underlying67 (hf.eval rfl)) ?_; clear hf a; intro a hf
      refine s_v hf (x_bin (hf.eval rfl) (hf.eval rfl) (r_lt _ _ _ _)) ?_; clear hf a; intro a hf
      refine s_nil ?_
      refine then_n ?_
      refine c_cond hf rfl (fun hi3 => ?_) (fun hi3 => ?_)
      · simp only [decide_eq_true_eq, decide_eq_false_iff_not, Bool.not_eq_true', Bool.not_eq_false', Bool.not_eq_true, Int.not_lt, Int.not_le] at hi3
        have hsl : e.sec < secs.length := by omega
        have hrd := hrc _ [_, _, _, _, _, _, _, _, _] hs
        obtain ⟨ac, rfl⟩ := hrd.some (by omega)
        clear hrd
        refine wp_region_lit ?_
        refine s_v hf (x_fieldAddr fo69_1 (hf.eval rfl)) ?_; clear hf a; intro a hf
        refine s_r hf (x_load sc67 (hf.eval rfl) (by first | exact hs.cell .k0 rfl | exact hs.cell .k1 rfl | exact hs.cell .k2 rfl | exact hs.cell .k3 rfl | exact hs.cell .k4 rfl | exact hs.cell .k5 rfl)) ?_; clear hf a; intro a hf
        refine s_m hf rfl ?_; clear hf a; intro a hf
        refine s_v hf (x_indexAddr sl67 (hf.eval rfl) (hf.eval rfl) (by omega) (by omega)) ?_; clear hf a; intro a hf
        refine s_r hf (x_loadI sc3 (hrc _ [_, _, _, _, _, _, _, _, _] hs) rfl (hf.eval rfl) (by simpa using hsl)) ?_; clear hf a; intro a hf
        refine s_a hf rfl ?_; clear hf a; intro a hf
        replace hf := hf.now (k := 11) (v' := .int .i64 (keepOf (csz, secs, rest) e.sec)) rfl (by rw [keepOf_in (c := (csz, secs, rest)) hsl]; rfl)
        refine s_nil ?_
        refine then_n ?_
        refine wp_seq ?_
        refine wp_region_lit ?_
        refine s_m hf rfl ?_; clear hf a; intro a hf
        refine s_m hf rfl ?_; clear hf a; intro a hf
        refine s_m hf rfl ?_; clear hf a; intro a hf
        refine s_v hf (x_len Tryd.underlying111 (hf.eval rfl)) ?_; clear hf a; intro a hf
        refine s_do hf rfl (y_call (hf.eval rfl) (hf.evals rfl) Tryd.call74 ((upTo_spec _ (keepOf (csz, secs, rest) e.sec) e.ps.length).mono ?_))
        rintro e w1 ⟨rfl, rfl⟩
        obtain ⟨N, hN⟩ : ∃ N : Nat, (N : Int) = max 0 (min (keepOf (csz, secs, rest) e.sec) (e.ps.length : Int)) := ⟨(max 0 (min (keepOf (csz, secs, rest) e.sec) (e.ps.length : Int))).toNat, by omega⟩
        rw [← hN]
        have hNl : N ≤ e.ps.length := by omega
        have hpl9 := ps_len hm hg he
        have hkp : keptP s (csz, secs, rest) e.sec = (e.ps.map pcOf).take N := by rw [kept_eq hm hg he, show N = min (e.ps.map pcOf).length (keepOf (csz, secs, rest) e.sec).toNat by rw [List.length_map]; omega, take_min]
        refine ⟨_, rfl, ?_⟩; clear hf a; intro a hf
        refine s_v hf (x_slice_hi sl111 (hf.eval rfl) (hf.eval rfl)  (by omega) (by omega) ) ?_; clear hf a; intro a hf
        replace hf := hf.now (k := 77) (v' := .slice ea N ec) rfl (rfl)
        refine s_v hf (x_len Tryd.underlying111 (hf.eval rfl)) ?_; clear hf a; intro a hf
        refine s_m hf rfl ?_; clear hf a; intro a hf
        refine s_nil ?_
        refine then_n ?_
        refine wp_block ?_
        refine c_loop (L0 := [(0, _), (3, _), (4, _), (5, _), (6, _), (8, _), (9, _), (10, _), (11, _), (54, _), (55, _), (56, _), (57, _), (58, _), (59, _), (60, _), (61, _), (62, _), (63, _), (64, _), (65, _), (66, _), (67, _), (68, _), (69, _), (70, _), (71, _), (72, _), (73, _), (74, _), (75, _), (76, _), (77, _), (78, _)]) (fun M w m => ∃ (i : Nat), M = [(79, .int .i64 (i : Int))] ∧ N - i = m ∧ i ≤ N ∧ St σ w (blk r (.mapIter (some mp) clk (seen.push e.born) clk) :: bb fb 5 (putsP out ((e.ps.map pcOf).take i)) :: cb cb0 69 [.int .i64 csz, .slice ac secs.length cc, .int .i64 rest] :: dcell 94 p (kilS s) ⟨.slice a1 s.now.length c1, .slice a2 s.dur.length c2, mp, .slice a4 s.sizes.length c4, es, clk⟩ :: slB 5 (.slice a1 s.now.length c1) s.now :: slB 5 (.slice a2 s.dur.length c2) s.dur :: mapA mp es clk :: entsA 113 5 es :: sl 3 1 (.slice a4 s.sizes.length c4) s.sizes.length (szC s.sizes) :: R)) (M0 := [(79, .int .i64 0)]) (⟨0, rfl, rfl, Nat.zero_le _, hs⟩) (hf.sub ⟨rfl, rfl, rfl, rfl, rfl, rfl, rfl, rfl, rfl, rfl, rfl, rfl, rfl, rfl, rfl, rfl, rfl, rfl, rfl, rfl, rfl, rfl, rfl, rfl, rfl, rfl, rfl, rfl, rfl, rfl, rfl, rfl, rfl, rfl, rfl, trivial⟩) ?_
        clear hf hs a
        rintro M m a w ⟨i, rfl, rfl, hi, hs⟩ hf
        refine wp_seq ?_
        refine wp_region_lit ?_
        refine s_v hf (x_bin (hf.eval rfl) (hf.eval rfl) (r_lt _ _ _ _)) ?_; clear hf a; intro a hf
        refine s_nil ?_
        refine then_n ?_
        refine wp_seq ?_
        refine c_cond hf rfl (fun hi4 => ?_) (fun hi4 => ?_)
        · simp only [decide_eq_true_eq, decide_eq_false_iff_not, Bool.not_eq_true', Bool.not_eq_false', Bool.not_eq_true, Int.not_lt, Int.not_le] at hi4
          have hlt : i < N := by omega
          have hlt2 : i < e.ps.length := by omega
          have hlm : i < (e.ps.map pcOf).length := by rw [List.length_map]; omega
          obtain ⟨_, hrd, hdt⟩ := hs.ents .k7 he
          rw [hev] at hrd
          replace hrd := RdS.pre (f := pcF) (sz := 2) (fun _ => rfl) hrd hNl
          have hltk : (e.ps.take N)[i]'(by rw [List.length_take]; omega) = e.ps[i] := List.getElem_take ..
          obtain ⟨ea, rfl⟩ := hrd.some (by rw [List.length_take]; omega)
          have hpd := hdt _ (List.getElem_mem hlt2)
          clear hdt
          have hok9 := ho.pcs
          have hlo : (putsP out ((e.ps.map pcOf).take i)).length = outN s (csz, secs, rest) := by rw [putsP_len]; exact hfd.1
          refine wp_skip ?_
          refine then_n ?_
          refine wp_seq ?_
          refine wp_block ?_
          refine wp_seq ?_
          refine wp_region_lit ?_
          refine s_v hf (x_indexAddr sl111 (hf.eval rfl) (hf.eval rfl) (by omega) (by omega)) ?_; clear hf a; intro a hf
          refine s_r hf (x_loadS (f := pcF) ag113 (fun _ => rfl) hrd (hf.eval rfl) (by simp; omega)) ?_; clear hf a; intro a hf
          replace hf := hf.now (k := 82) (v' := .agg (pcF e.ps[i]).toArray) rfl (by rw [← hltk]; rfl)
          refine s_do hf rfl (y_alloc hs Tryd.zeroValue113 ?_); clear hf hs a; intro b7 w hs a hf
          change St _ _ (cb b7 113 [.int .i64 0, .slice none 0 0] :: _) at hs
          refine s_do0 hf rfl (y_storeAgg (cs := pcF e.ps[i]) hs (n := 2) (by kernel_rfl) (hf.eval rfl) (hf.eval rfl) (pcF_one hpd) rfl rfl .k0 ?_); clear hf hs a; intro w hs a hf
          refine s_nil ?_
          refine then_n ?_
          refine wp_seq ?_
          refine wp_region_lit ?_
          refine s_v hf (x_fieldAddr fo113_0 (hf.eval rfl)) ?_; clear hf a; intro a hf
          refine s_r hf (x_load sc3 (hf.eval rfl) (by first | exact hs.cell .k0 rfl | exact hs.cell .k1 rfl | exact hs.cell .k2 rfl | exact hs.cell .k3 rfl | exact hs.cell .k4 rfl | exact hs.cell .k5 rfl)) ?_; clear hf a; intro a hf
          refine s_m hf rfl ?_; clear hf a; intro a hf
          refine s_v hf (x_bin (hf.eval rfl) (hf.eval rfl) (r_lt _ _ _ _)) ?_; clear hf a; intro a hf
          refine s_nil ?_
          refine then_n ?_
          refine c_cond hf rfl (fun hi5 => ?_) (fun hi5 => ?_)
          · simp only [decide_eq_true_eq, decide_eq_false_iff_not, Bool.not_eq_true', Bool.not_eq_false', Bool.not_eq_true, Int.not_lt, Int.not_le] at hi5
            have hat5 : e.ps[i].1 < outN s (csz, secs, rest) := by omega
            refine c_draw hs (fun _ => True) [.held, .held, .read, .held, .held, .read, .fin] (by kernel_rfl) (by kernel_rfl) (fun _ _ _ => trivial) ?_
            clear hs; intro w hs hC hw
            refine m_held hf rfl (fun w' _ => x_move (hf.eval rfl) w') ?_; clear hf a; intro a hf
            refine m_held hf rfl (fun w' _ => x_fieldAddr fo113_0 (hf.eval rfl) w') ?_; clear hf a; intro a hf
            refine m_read hf rfl (x_load sc3 (hf.eval rfl) (by first | exact hs.cell .k0 rfl | exact hs.cell .k1 rfl | exact hs.cell .k2 rfl | exact hs.cell .k3 rfl | exact hs.cell .k4 rfl | exact hs.cell .k5 rfl)) ?_; clear hf a; intro a hf
            refine m_held hf rfl (fun w' _ => x_slice_lo sl25 (hf.eval rfl) (hf.eval rfl)  (by omega) (by omega)  w') ?_; clear hf a; intro a hf
            replace hf := hf.now (k := 90) (v' := .slice (some ⟨fb, e.ps[i].1, none⟩) (outN s (csz, secs, rest) - e.ps[i].1) (outN s (csz, secs, rest) - e.ps[i].1)) rfl (by rw [Int.toNat_natCast, subA_at hat5])
            refine m_held hf rfl (fun w' _ => x_fieldAddr fo113_1 (hf.eval rfl) w') ?_; clear hf a; intro a hf
            refine m_read hf rfl (x_load sc25 (hf.eval rfl) (by first | exact hs.cell .k0 rfl | exact hs.cell .k1 rfl | exact hs.cell .k2 rfl | exact hs.cell .k3 rfl | exact hs.cell .k4 rfl | exact hs.cell .k5 rfl)) ?_; clear hf a; intro a hf
            refine m_fin hf rfl (y_copyB (o := e.ps[i].1) (cur' := putP (putsP out ((e.ps.map pcOf).take i)) (pcOf e.ps[i])) hs sl25 (hf.eval rfl) (hf.eval rfl) (fun _ => rfl) ((hs.ents .k8 he).2.2 _ (List.getElem_mem hlt2)) rfl .k2 (by rw [putP_in (p := pcOf e.ps[i]) (by rw [hlo]; exact hat5), hlo]; rfl) (by rw [hlo]; omega) ?_); clear hf hs a; intro w hs; intro a hf
            have hs9 := hs.drop
            refine blk_n ?_
            refine then_n ?_
            refine wp_region_lit ?_
            refine s_v hf (x_bin (hf.eval rfl) (hf.eval rfl) (r_addi _ (by omega) (by omega))) ?_; clear hf a; intro a hf
            refine s_m hf rfl ?_; clear hf a; intro a hf
            refine s_nil ?_
            exact ⟨_, _, ⟨i + 1, rfl, rfl, by omega, by rw [putsP_take hlm, List.getElem_map]; exact hs9⟩, by omega, hf.sub ⟨rfl, rfl, rfl, rfl, rfl, rfl, rfl, rfl, rfl, rfl, rfl, rfl, rfl, rfl, rfl, rfl, rfl, rfl, rfl, rfl, rfl, rfl, rfl, rfl, rfl, rfl, rfl, rfl, rfl, rfl, rfl, rfl, rfl, rfl, rfl, trivial⟩⟩
          · simp only [decide_eq_true_eq, decide_eq_false_iff_not, Bool.not_eq_true', Bool.not_eq_false', Bool.not_eq_true, Int.not_lt, Int.not_le] at hi5
            have hs9 : St σ w (blk r (.mapIter (some mp) clk (seen.push e.born) clk) :: bb fb 5 (putP (putsP out ((e.ps.map pcOf).take i)) (pcOf e.ps[i])) :: cb cb0 69 [.int .i64 csz, .slice ac secs.length cc, .int .i64 rest] :: dcell 94 p (kilS s) ⟨.slice a1 s.now.length c1, .slice a2 s.dur.length c2, mp, .slice a4 s.sizes.length c4, es, clk⟩ :: slB 5 (.slice a1 s.now.length c1) s.now :: slB 5 (.slice a2 s.dur.length c2) s.dur :: mapA mp es clk :: entsA 113 5 es :: sl 3 1 (.slice a4 s.sizes.length c4) s.sizes.length (szC s.sizes) :: R) := by rw [putP_out (p := pcOf e.ps[i]) (by rw [hlo]; show outN s (csz, secs, rest) ≤ e.ps[i].1; omega)]; exact hs.drop
            refine wp_skip ?_
            refine blk_n ?_
            refine then_n ?_
            refine wp_region_lit ?_
            refine s_v hf (x_bin (hf.eval rfl) (hf.eval rfl) (r_addi _ (by omega) (by omega))) ?_; clear hf a; intro a hf
            refine s_m hf rfl ?_; clear hf a; intro a hf
            refine s_nil ?_
            exact ⟨_, _, ⟨i + 1, rfl, rfl, by omega, by rw [putsP_take hlm, List.getElem_map]; exact hs9⟩, by omega, hf.sub ⟨rfl, rfl, rfl, rfl, rfl, rfl, rfl, rfl, rfl, rfl, rfl, rfl, rfl, rfl, rfl, rfl, rfl, rfl, rfl, rfl, rfl, rfl, rfl, rfl, rfl, rfl, rfl, rfl, rfl, rfl, rfl, rfl, rfl, rfl, rfl, trivial⟩⟩
        · simp only [decide_eq_true_eq, decide_eq_false_iff_not, Bool.not_eq_true', Bool.not_eq_false', Bool.not_eq_true, Int.not_lt, Int.not_le] at hi4
          have hN9 : N = i := by omega
          refine wp_exit ?_
          refine then_x ?_
          refine then_x ?_
          refine blk_x ?_
          refine blk_n ?_
          obtain rfl : i = N := by omega
          have hfd2 := fnd_step ho hm hfd he hns
          exact ⟨_, _, ⟨seen.push e.born, putsP out (keptP s (csz, secs, rest) e.sec), rfl, rfl, by simpa using hfd2, by rw [hkp, ← hN9]; exact hs⟩, unseen_lt he hns, hf.sub ⟨rfl, rfl, rfl, rfl, rfl, rfl, rfl, trivial⟩⟩
      · simp only [decide_eq_true_eq, decide_eq_false_iff_not, Bool.not_eq_true', Bool.not_eq_false', Bool.not_eq_true, Int.not_lt, Int.not_le] at hi3
        replace hf := hf.now (k := 11) (v' := .int .i64 (keepOf (csz, secs, rest) e.sec)) rfl (by rw [keepOf_out (by simp only; omega)])
        refine wp_skip ?_
        refine then_n ?_
        refine wp_seq ?_
        refine wp_region_lit ?_
        refine s_m hf rfl ?_; clear hf a; intro a hf
        refine s_m hf rfl ?_; clear hf a; intro a hf
        refine s_m hf rfl ?_; clear hf a; intro a hf
        refine s_v hf (x_len Tryd.underlying111 (hf.eval rfl)) ?_; clear hf a; intro a hf
        refine s_do hf rfl (y_call (hf.eval rfl) (hf.evals rfl) Tryd.call74 ((upTo_spec _ (keepOf (csz, secs, rest) e.sec) e.ps.length).mono ?_))
        rintro e w1 ⟨rfl, rfl⟩
        obtain ⟨N, hN⟩ : ∃ N : Nat, (N : Int) = max 0 (min (keepOf (csz, secs, rest) e.sec) (e.ps.length : Int)) := ⟨(max 0 (min (keepOf (csz, secs, rest) e.sec) (e.ps.length : Int))).toNat, by omega⟩
        rw [← hN]
        have hNl : N ≤ e.ps.length := by omega
        have hpl9 := ps_len hm hg he
        have hkp : keptP s (csz, secs, rest) e.sec = (e.ps.map pcOf).take N := by rw [kept_eq hm hg he, show N = min (e.ps.map pcOf).length (keepOf (csz, secs, rest) e.sec).toNat by rw [List.length_map]; omega, take_min]
        refine ⟨_, rfl, ?_⟩; clear hf a; intro a hf
        refine s_v hf (x_slice_hi sl111 (hf.eval rfl) (hf.eval rfl)  (by omega) (by omega) ) ?_; clear hf a; intro a hf
        replace hf := hf.now (k := 77) (v' := .slice ea N ec) rfl (rfl)
        refine s_v hf (x_len Tryd.underlying111 (hf.eval rfl)) ?_; clear hf a; intro a hf
        refine s_m hf rfl ?_; clear hf a; intro a hf
        refine s_nil ?_
        refine then_n ?_
        refine wp_block ?_
        refine c_loop (L0 := [(0, _), (3, _), (4, _), (5, _), (6, _), (8, _), (9, _), (10, _), (11, _), (54, _), (55, _), (56, _), (57, _), (58, _), (59, _), (60, _), (61, _), (62, _), (63, _), (64, _), (65, _), (66, _), (72, _), (73, _), (74, _), (75, _), (76, _), (77, _), (78, _)]) (fun M w m => ∃ (i : Nat), M = [(79, .int .i64 (i : Int))] ∧ N - i = m ∧ i ≤ N ∧ St σ w (blk r (.mapIter (some mp) clk (seen.push e.born) clk) :: bb fb 5 (putsP out ((e.ps.map pcOf).take i)) :: cb cb0 69 [.int .i64 csz, .slice ac secs.length cc, .int .i64 rest] :: dcell 94 p (kilS s) ⟨.slice a1 s.now.length c1, .slice a2 s.dur.length c2, mp, .slice a4 s.sizes.length c4, es, clk⟩ :: slB 5 (.slice a1 s.now.length c1) s.now :: slB 5 (.slice a2 s.dur.length c2) s.dur :: mapA mp es clk :: entsA 113 5 es :: sl 3 1 (.slice a4 s.sizes.length c4) s.sizes.length (szC s.sizes) :: R)) (M0 := [(79, .int .i64 0)]) (⟨0, rfl, rfl, Nat.zero_le _, hs⟩) (hf.sub ⟨rfl, rfl, rfl, rfl, rfl, rfl, rfl, rfl, rfl, rfl, rfl, rfl, rfl, rfl, rfl, rfl, rfl, rfl, rfl, rfl, rfl, rfl, rfl, rfl, rfl, rfl, rfl, rfl, rfl, rfl, trivial⟩) ?_
        clear hf hs a
        rintro M m a w ⟨i, rfl, rfl, hi, hs⟩ hf
        refine wp_seq ?_
        refine wp_region_lit ?_
        refine s_v hf (x_bin (hf.eval rfl) (hf.eval rfl) (r_lt _ _ _ _)) ?_; clear hf a; intro a hf
        refine s_nil ?_
        refine then_n ?_
        refine wp_seq ?_
        refine c_cond hf rfl (fun hi4 => ?_) (fun hi4 => ?_)
        · simp only [decide_eq_true_eq, decide_eq_false_iff_not, Bool.not_eq_true', Bool.not_eq_false', Bool.not_eq_true, Int.not_lt, Int.not_le] at hi4
          have hlt : i < N := by omega
          have hlt2 : i < e.ps.length := by omega
          have hlm : i < (e.ps.map pcOf).length := by rw [List.length_map]; omega
          obtain ⟨_, hrd, hdt⟩ := hs.ents .k7 he
          rw [hev] at hrd
          replace hrd := RdS.pre (f := pcF) (sz := 2) (fun _ => rfl) hrd hNl
          have hltk : (e.ps.take N)[i]'(by rw [List.length_take]; omega) = e.ps[i] := List.getElem_take ..
          obtain ⟨ea, rfl⟩ := hrd.some (by rw [List.length_take]; omega)
          have hpd := hdt _ (List.getElem_mem hlt2)
          clear hdt
          have hok9 := ho.pcs
          have hlo : (putsP out ((e.ps.map pcOf).take i)).length = outN s (csz, secs, rest) := by rw [putsP_len]; exact hfd.1
          refine wp_skip ?_
          refine then_n ?_
          refine wp_seq ?_
          refine wp_block ?_
          refine wp_seq ?_
          refine wp_region_lit ?_
          refine s_v hf (x_indexAddr sl111 (hf.eval rfl) (hf.eval rfl) (by omega) (by omega)) ?_; clear hf a; intro a hf
          refine s_r hf (x_loadS (f := pcF) ag113 (fun _ => rfl) hrd (hf.eval rfl) (by simp; omega)) ?_; clear hf a; intro a hf
          replace hf := hf.now (k := 82) (v' := .agg (pcF e.ps[i]).toArray) rfl (by rw [← hltk]; rfl)
          refine s_do hf rfl (y_alloc hs Tryd.zeroValue113 ?_); clear hf hs a; intro b7 w hs a hf
          change St _ _ (cb b7 113 [.int .i64 0, .slice none 0 0] :: _) at hs
          refine s_do0 hf rfl (y_storeAgg (cs := pcF e.ps[i]) hs (n := 2) (by kernel_rfl) (hf.eval rfl) (hf.eval rfl) (pcF_one hpd) rfl rfl .k0 ?_); clear hf hs a; intro w hs a hf
          refine s_nil ?_
          refine then_n ?_
          refine wp_seq ?_
          refine wp_region_lit ?_
          refine s_v hf (x_fieldAddr fo113_0 (hf.eval rfl)) ?_; clear hf a; intro a hf
          refine s_r hf (x_load sc3 (hf.eval rfl) (by first | exact hs.cell .k0 rfl | exact hs.cell .k1 rfl | exact hs.cell .k2 rfl | exact hs.cell .k3 rfl | exact hs.cell .k4 rfl | exact hs.cell .k5 rfl)) ?_; clear hf a; intro a hf
          refine s_m hf rfl ?_; clear hf a; intro a hf
          refine s_v hf (x_bin (hf.eval rfl) (hf.eval rfl) (r_lt _ _ _ _)) ?_; clear hf a; intro a hf
          refine s_nil ?_
          refine then_n ?_
          refine c_cond hf rfl (fun hi5 => ?_) (fun hi5 => ?_)
          · simp only [decide_eq_true_eq, decide_eq_false_iff_not, Bool.not_eq_true', Bool.not_eq_false', Bool.not_eq_true, Int.not_lt, Int.not_le] at hi5
            have hat5 : e.ps[i].1 < outN s (csz, secs, rest) := by omega
            refine c_draw hs (fun _ => True) [.held, .held, .read, .held, .held, .read, .fin] (by kernel_rfl) (by kernel_rfl) (fun _ _ _ => trivial) ?_
            clear hs; intro w hs hC hw
            refine m_held hf rfl (fun w' _ => x_move (hf.eval rfl) w') ?_; clear hf a; intro a hf
            refine m_held hf rfl (fun w' _ => x_fieldAddr fo113_0 (hf.eval rfl) w') ?_; clear hf a; intro a hf
            refine m_read hf rfl (x_load sc3 (hf.eval rfl) (by first | exact hs.cell .k0 rfl | exact hs.cell .k1 rfl | exact hs.cell .k2 rfl | exact hs.cell .k3 rfl | exact hs.cell .k4 rfl | exact hs.cell .k5 rfl)) ?_; clear hf a; intro a hf
            refine m_held hf rfl (fun w' _ => x_slice_lo sl25 (hf.eval rfl) (hf.eval rfl)  (by omega) (by omega)  w') ?_; clear hf a; intro a hf
            replace hf := hf.now (k := 90) (v' := .slice (some ⟨fb, e.ps[i].1, none⟩) (outN s (csz, secs, rest) - e.ps[i].1) (outN s (csz, secs, rest) - e.ps[i].1)) rfl (by rw [Int.toNat_natCast, subA_at hat5])
            refine m_held hf rfl (fun w' _ => x_fieldAddr fo113_1 (hf.eval rfl) w') ?_; clear hf a; intro a hf
            refine m_read hf rfl (x_load sc25 (hf.eval rfl) (by first | exact hs.cell .k0 rfl | exact hs.cell .k1 rfl | exact hs.cell .k2 rfl | exact hs.cell .k3 rfl | exact hs.cell .k4 rfl | exact hs.cell .k5 rfl)) ?_; clear hf a; intro a hf
            refine m_fin hf rfl (y_copyB (o := e.ps[i].1) (cur' := putP (putsP out ((e.ps.map pcOf).take i)) (pcOf e.ps[i])) hs sl25 (hf.eval rfl) (hf.eval rfl) (fun _ => rfl) ((hs.ents .k8 he).2.2 _ (List.getElem_mem hlt2)) rfl .k2 (by rw [putP_in (p := pcOf e.ps[i]) (by rw [hlo]; exact hat5), hlo]; rfl) (by rw [hlo]; omega) ?_); clear hf hs a; intro w hs; intro a hf
            have hs9 := hs.drop
            refine blk_n ?_
            refine then_n ?_
            refine wp_region_lit ?_
            refine s_v hf (x_bin (hf.eval rfl) (hf.eval rfl) (r_addi _ (by omega) (by omega))) ?_; clear hf a; intro a hf
            refine s_m hf rfl ?_; clear hf a; intro a hf
            refine s_nil ?_
            exact ⟨_, _, ⟨i + 1, rfl, rfl, by omega, by rw [putsP_take hlm, List.getElem_map]; exact hs9⟩, by omega, hf.sub ⟨rfl, rfl, rfl, rfl, rfl, rfl, rfl, rfl, rfl, rfl, rfl, rfl, rfl, rfl, rfl, rfl, rfl, rfl, rfl, rfl, rfl, rfl, rfl, rfl, rfl, rfl, rfl, rfl, rfl, rfl, trivial⟩⟩
          · simp only [decide_eq_true_eq, decide_eq_false_iff_not, Bool.not_eq_true', Bool.not_eq_false', Bool.not_eq_true, Int.not_lt, Int.not_le] at hi5
            have hs9 : St σ w (blk r (.mapIter (some mp) clk (seen.push e.born) clk) :: bb fb 5 (putP (putsP out ((e.ps.map pcOf).take i)) (pcOf e.ps[i])) :: cb cb0 69 [.int .i64 csz, .slice ac secs.length cc, .int .i64 rest] :: dcell 94 p (kilS s) ⟨.slice a1 s.now.length c1, .slice a2 s.dur.length c2, mp, .slice a4 s.sizes.length c4, es, clk⟩ :: slB 5 (.slice a1 s.now.length c1) s.now :: slB 5 (.slice a2 s.dur.length c2) s.dur :: mapA mp es clk :: entsA 113 5 es :: sl 3 1 (.slice a4 s.sizes.length c4) s.sizes.length (szC s.sizes) :: R) := by rw [putP_out (p := pcOf e.ps[i]) (by rw [hlo]; show outN s (csz, secs, rest) ≤ e.ps[i].1; omega)]; exact hs.drop
            refine wp_skip ?_
            refine blk_n ?_
            refine then_n ?_
            refine wp_region_lit ?_
            refine s_v hf (x_bin (hf.eval rfl) (hf.eval rfl) (r_addi _ (by omega) (by omega))) ?_; clear hf a; intro a hf
            refine s_m hf rfl ?_; clear hf a; intro a hf
            refine s_nil ?_
            exact ⟨_, _, ⟨i + 1, rfl, rfl, by omega, by rw [putsP_take hlm, List.getElem_map]; exact hs9⟩, by omega, hf.sub ⟨rfl, rfl, rfl, rfl, rfl, rfl, rfl, rfl, rfl, rfl, rfl, rfl, rfl, rfl, rfl, rfl, rfl, rfl, rfl, rfl, rfl, rfl, rfl, rfl, rfl, rfl, rfl, rfl, rfl, rfl, trivial⟩⟩
        · simp only [decide_eq_true_eq, decide_eq_false_iff_not, Bool.not_eq_true', Bool.not_eq_false', Bool.not_eq_true, Int.not_lt, Int.not_le] at hi4
          have hN9 : N = i := by omega
          refine wp_exit ?_
          refine then_x ?_
          refine then_x ?_
          refine blk_x ?_
          refine blk_n ?_
          obtain rfl : i = N := by omega
          have hfd2 := fnd_step ho hm hfd he hns
          exact ⟨_, _, ⟨seen.push e.born, putsP out (keptP s (csz, secs, rest) e.sec), rfl, rfl, by simpa using hfd2, by rw [hkp, ← hN9]; exact hs⟩, unseen_lt he hns, hf.sub ⟨rfl, rfl, rfl, rfl, rfl, rfl, rfl, trivial⟩⟩
    · have hall := hbf hi2
      subst hi2
      replace hs : St σ w (blk r (.mapIter (some mp) clk seen clk) :: bb fb 5 (out) :: cb cb0 69 [.int .i64 csz, .slice ac secs.length cc, .int .i64 rest] :: dcell 94 p (kilS s) ⟨.slice a1 s.now.length c1, .slice a2 s.dur.length c2, mp, .slice a4 s.sizes.length c4, es, clk⟩ :: slB 5 (.slice a1 s.now.length c1) s.now :: slB 5 (.slice a2 s.dur.length c2) s.dur :: mapA mp es clk :: entsA 113 5 es :: sl 3 1 (.slice a4 s.sizes.length c4) s.sizes.length (szC s.sizes) :: R) := hs
      clear hbt hbf
      obtain rfl := fnd_end hg hfd hall
      refine wp_exit ?_
      refine then_x ?_
      refine then_x ?_
      refine blk_x ?_
      refine then_n ?_
      refine wp_seq ?_
      refine wp_region_lit ?_
      refine s_m hf rfl ?_; clear hf a; intro a hf
      replace hf := hf.now (k := 95) (v' := .slice (some ⟨fb, 0, none⟩) (outS s (csz, secs, rest)).length (outN s (csz, secs, rest))) rfl (by rw [outS_length])
      refine s_m hf rfl ?_; clear hf a; intro a hf
      refine s_v hf (x_nilCheck (hf.eval rfl)) ?_; clear hf a; intro a hf
      refine s_v hf (x_fieldAddr fo94_0 (hf.eval rfl)) ?_; clear hf a; intro a hf
      refine s_r hf (x_load sc3 (hf.eval rfl) (by first | exact hs.cell .k0 rfl | exact hs.cell .k1 rfl | exact hs.cell .k2 rfl | exact hs.cell .k3 rfl | exact hs.cell .k4 rfl | exact hs.cell .k5 rfl)) ?_; clear hf a; intro a hf
      refine s_do hf rfl (y_call (hf.eval rfl) (hf.evals rfl) Tryd.call25 ((dNew_in _ _ _ (outS s (csz, secs, rest)) (hs.rdB .k1 (fun h hb => by have h9 := rdB_of_bb hb (Nat.le_refl (outS s (csz, secs, rest)).length) (c := outN s (csz, secs, rest)) (by rw [outS_length]; exact Nat.le_refl _); rwa [List.take_length] at h9)) (by rw [outS_length]; omega) s.room hroom0 hroom1 (by rw [outS_length]; exact hoN)).mono ?_))
      rintro e w1 ⟨p2, rfl, hj⟩
      replace hs := hs.join hj
      simp only [List.cons_append, List.nil_append] at hs
      refine ⟨_, rfl, ?_⟩; clear hf a; intro a hf
      refine s_v hf (x_extract (hf.eval rfl) rfl) ?_; clear hf a; intro a hf
      refine s_v hf (x_extract (hf.eval rfl) rfl) ?_; clear hf a; intro a hf
      refine s_a hf rfl ?_; clear hf a; intro a hf
      refine s_a hf rfl ?_; clear hf a; intro a hf
      refine s_nil ?_
      refine then_n ?_
      refine wp_ret ?_
      refine r_2 hf Tryd.results37 rfl rfl ?_
      refine ⟨p2, rfl, ?_⟩
      replace hs := St.give (L := _) (((hs.lose .k1).lose .k1).lose .k1) .k6
      exact (diskA_close (s := kilS s) (x := ⟨.slice a1 s.now.length c1, .slice a2 s.dur.length c2, mp, .slice a4 s.sizes.length c4, es, clk⟩) hm hg hs).take .k1
  · simp only [decide_eq_true_eq, decide_eq_false_iff_not, Bool.not_eq_true', Bool.not_eq_false', Bool.not_eq_true, Int.not_lt, Int.not_le] at hi1
    have hix : ¬ 0 < szIx s (csz, secs, rest) := by omega
    replace hf := hf.now (k := 6) (v' := .int .i64 (outN s (csz, secs, rest) : Int)) rfl (by rw [outN_none hix])
    refine wp_skip ?_
    refine then_n ?_
    refine wp_seq ?_
    refine wp_region_lit ?_
    refine s_m hf rfl ?_; clear hf a; intro a hf
    have hoN := outN_le ho (csz, secs, rest)
    refine s_do hf rfl (y_makeB (m := outN s (csz, secs, rest)) (c := outN s (csz, secs, rest)) hs sl25 (hf.eval rfl) (hf.eval rfl) rfl rfl (Nat.le_refl _) (by omega) ?_); clear hf hs a; intro fb w hs a hf
    refine s_a hf rfl ?_; clear hf a; intro a hf
    refine s_nil ?_
    refine then_n ?_
    refine wp_seq ?_
    refine wp_region_lit ?_
    refine s_m hf rfl ?_; clear hf a; intro a hf
    refine s_m hf rfl ?_; clear hf a; intro a hf
    refine s_v hf (x_nilCheck (hf.eval rfl)) ?_; clear hf a; intro a hf
    refine s_v hf (x_fieldAddr fo94_2 (hf.eval rfl)) ?_; clear hf a; intro a hf
    refine s_r hf (x_load sc25 (hf.eval rfl) (by first | exact hs.cell .k0 rfl | exact hs.cell .k1 rfl | exact hs.cell .k2 rfl | exact hs.cell .k3 rfl | exact hs.cell .k4 rfl | exact hs.cell .k5 rfl)) ?_; clear hf a; intro a hf
    refine s_do hf rfl (y_copyB (o := 0) (cur' := spl (List.replicate (outN s (csz, secs, rest)) 0) 0 (s.dur.take (min s.dur.length (outN s (csz, secs, rest))))) hs sl25 (hf.eval rfl) (hf.eval rfl) (fun _ => rfl) (hs.rdB .k4 fun h => slB_rd) rfl .k0 rfl (by simp) ?_); clear hf hs a; intro w hs a hf
    obtain ⟨out0, ho0⟩ : ∃ o, o = spl (List.replicate (outN s (csz, secs, rest)) 0) 0 (s.dur.take (min s.dur.length (outN s (csz, secs, rest)))) := ⟨_, rfl⟩
    rw [← ho0] at hs
    obtain ⟨hd1, hd2⟩ := dur_start s _ ho0
    refine s_nil ?_
    refine then_n ?_
    refine wp_seq ?_
    refine wp_seq ?_
    refine wp_region_lit ?_
    refine s_m hf rfl ?_; clear hf a; intro a hf
    refine s_v hf (x_nilCheck (hf.eval rfl)) ?_; clear hf a; intro a hf
    refine s_v hf (x_fieldAddr fo94_3 (hf.eval rfl)) ?_; clear hf a; intro a hf
    refine s_r hf (x_load sc92 (hf.eval rfl) (by first | exact hs.cell .k0 rfl | exact hs.cell .k1 rfl | exact hs.cell .k2 rfl | exact hs.cell .k3 rfl | exact hs.cell .k4 rfl | exact hs.cell .k5 rfl)) ?_; clear hf a; intro a hf
    refine s_do hf rfl (y_range hs Tryd.underlying92 (hf.eval rfl) .k5 ?_); clear hf hs a; intro r w hs a hf
    refine s_nil ?_
    refine then_n ?_
    refine wp_block ?_
    refine c_loop (L0 := [(0, _), (3, _), (4, _), (5, _), (6, _), (8, _), (54, _)]) (fun M w m => ∃ (seen : Array Nat) (out : List UInt8), M = [] ∧ (es.filter fun x => decide (x.born ∉ seen.toList)).length = m ∧ Fnd s (csz, secs, rest) es seen.toList out ∧ St σ w (blk r (.mapIter (some mp) clk seen clk) :: bb fb 5 (out) :: cb cb0 69 [.int .i64 csz, .slice ac secs.length cc, .int .i64 rest] :: dcell 94 p (kilS s) ⟨.slice a1 s.now.length c1, .slice a2 s.dur.length c2, mp, .slice a4 s.sizes.length c4, es, clk⟩ :: slB 5 (.slice a1 s.now.length c1) s.now :: slB 5 (.slice a2 s.dur.length c2) s.dur :: mapA mp es clk :: entsA 113 5 es :: sl 3 1 (.slice a4 s.sizes.length c4) s.sizes.length (szC s.sizes) :: R)) (M0 := _) (⟨#[], out0, rfl, rfl, fnd_start s (csz, secs, rest) es hd1 hd2, hs⟩) (hf.sub ⟨rfl, rfl, rfl, rfl, rfl, rfl, rfl, trivial⟩) ?_
    clear hf hs a
    rintro M m a w ⟨seen, out, rfl, rfl, hfd, hs⟩ hf
    clear hd1 hd2
    refine wp_seq ?_
    refine wp_region_lit ?_
    refine s_do hf rfl (y_nextB hs (hf.eval rfl) .k5 hm ?_); clear hf hs a; intro b e w hs hbt hbf a hf
    refine s_v hf (x_extract (hf.eval rfl) (nxt_0 b e)) ?_; clear hf a; intro a hf
    refine s_nil ?_
    refine then_n ?_
    refine wp_seq ?_
    refine c_cond hf rfl (fun hi2 => ?_) (fun hi2 => ?_)
    · obtain ⟨he, hns⟩ := hbt hi2
      subst hi2
      replace hs : St σ w (blk r (.mapIter (some mp) clk (seen.push e.born) clk) :: bb fb 5 (out) :: cb cb0 69 [.int .i64 csz, .slice ac secs.length cc, .int .i64 rest] :: dcell 94 p (kilS s) ⟨.slice a1 s.now.length c1, .slice a2 s.dur.length c2, mp, .slice a4 s.sizes.length c4, es, clk⟩ :: slB 5 (.slice a1 s.now.length c1) s.now :: slB 5 (.slice a2 s.dur.length c2) s.dur :: mapA mp es clk :: entsA 113 5 es :: sl 3 1 (.slice a4 s.sizes.length c4) s.sizes.length (szC s.sizes) :: R) := hs
      clear hbt hbf
      obtain ⟨⟨ea, ec, hev⟩, hrd0, _⟩ := hs.ents .k7 he
      rw [hev] at hrd0
      have hec := RdC.cap hrd0
      clear hrd0
      refine wp_skip ?_
      refine then_n ?_
      refine wp_block ?_
      refine wp_seq ?_
      refine wp_region_lit ?_
      refine s_r hf (x_entry (hf.eval rfl) hs.head (hs.blk_at .k6) he hm) ?_; clear hf a; intro a hf
      replace hf := hf.now (k := 57) (v' := .tuple #[.int .i64 (e.sec : Int), .slice ea e.ps.length ec]) rfl (by rw [hev])
      refine s_v hf (x_extract (hf.eval rfl) rfl) ?_; clear hf a; intro a hf
      refine s_v hf (x_extract (hf.eval rfl) rfl) ?_; clear hf a; intro a hf
      refine s_a hf rfl ?_; clear hf a; intro a hf
      refine s_a hf rfl ?_; clear hf a; intro a hf
      refine s_nil ?_
      refine then_n ?_
      refine wp_seq ?_
      refine wp_region_lit ?_
      refine s_v hf (x_fieldAddr fo69_2 (hf.eval rfl)) ?_; clear hf a; intro a hf
      refine s_r hf (x_load sc3 (hf.eval rfl) (by first | exact hs.cell .k0 rfl | exact hs.cell .k1 rfl | exact hs.cell .k2 rfl | exact hs.cell .k3 rfl | exact hs.cell .k4 rfl | exact hs.cell .k5 rfl)) ?_; clear hf a; intro a hf
      refine s_a hf rfl ?_; clear hf a; intro a hf
      refine s_nil ?_
      refine then_n ?_
      refine wp_seq ?_
      refine wp_seq ?_
      refine wp_region_lit ?_
      refine s_m hf rfl ?_; clear hf a; intro a hf
      refine s_v hf (x_fieldAddr fo69_1 (hf.eval rfl)) ?_; clear hf a; intro a hf
      refine s_r hf (x_load sc67 (hf.eval rfl) (by first | exact hs.cell .k0 rfl | exact hs.cell .k1 rfl | exact hs.cell .k2 rfl | exact hs.cell .k3 rfl | exact hs.cell .k4 rfl | exact hs.cell .k5 rfl)) ?_; clear hf a; intro a hf
      refine s_v hf (x_len Tryd.underlying67 (hf.eval rfl)) ?_; clear hf a; intro a hf
      refine s_v hf (x_bin (hf.eval rfl) (hf.eval rfl) (r_lt _ _ _ _)) ?_; clear hf a; intro a hf
      refine s_nil ?_
      refine then_n ?_
      refine c_cond hf rfl (fun hi3 => ?_) (fun hi3 => ?_)
      · simp only [decide_eq_true_eq, decide_eq_false_iff_not, Bool.not_eq_true', Bool.not_eq_false', Bool.not_eq_true, Int.not_lt, Int.not_le] at hi3
        have hsl : e.sec < secs.length := by omega
        have hrd := hrc _ [_, _, _, _, _, _, _, _, _] hs
        obtain ⟨ac, rfl⟩ := hrd.some (by omega)
        clear hrd
        refine wp_region_lit ?_
        refine s_v hf (x_fieldAddr fo69_1 (hf.eval rfl)) ?_; clear hf a; intro a hf
        refine s_r hf (x_load sc67 (hf.eval rfl) (by first | exact hs.cell .k0 rfl | exact hs.cell .k1 rfl | exact hs.cell .k2 rfl | exact hs.cell .k3 rfl | exact hs.cell .k4 rfl | exact hs.cell .k5 rfl)) ?_; clear hf a; intro a hf
        refine s_m hf rfl ?_; clear hf a; intro a hf
        refine s_v hf (x_indexAddr sl67 (hf.eval rfl) (hf.eval rfl) (by omega) (by omega)) ?_; clear hf a; intro a hf
        refine s_r hf (x_loadI sc3 (hrc _ [_, _, _, _, _, _, _, _, _] hs) rfl (hf.eval rfl) (by simpa using hsl)) ?_; clear hf a; intro a hf
        refine s_a hf rfl ?_; clear hf a; intro a hf
        replace hf := hf.now (k := 11) (v' := .int .i64 (keepOf (csz, secs, rest) e.sec)) rfl (by rw [keepOf_in (c := (csz, secs, rest)) hsl]; rfl)
        refine s_nil ?_
        refine then_n ?_
        refine wp_seq ?_
        refine wp_region_lit ?_
        refine s_m hf rfl ?_; clear hf a; intro a hf
        refine s_m hf rfl ?_; clear hf a; intro a hf
        refine s_m hf rfl ?_; clear hf a; intro a hf
        refine s_v hf (x_len Tryd.underlying111 (hf.eval rfl)) ?_; clear hf a; intro a hf
        refine s_do hf rfl (y_call (hf.eval rfl) (hf.evals rfl) Tryd.call74 ((upTo_spec _ (keepOf (csz, secs, rest) e.sec) e.ps.length).mono ?_))
        rintro e w1 ⟨rfl, rfl⟩
        obtain ⟨N, hN⟩ : ∃ N : Nat, (N : Int) = max 0 (min (keepOf (csz, secs, rest) e.sec) (e.ps.length : Int)) := ⟨(max 0 (min (keepOf (csz, secs, rest) e.sec) (e.ps.length : Int))).toNat, by omega⟩
        rw [← hN]
        have hNl : N ≤ e.ps.length := by omega
        have hpl9 := ps_len hm hg he
        have hkp : keptP s (csz, secs, rest) e.sec = (e.ps.map pcOf).take N := by rw [kept_eq hm hg he, show N = min (e.ps.map pcOf).length (keepOf (csz, secs, rest) e.sec).toNat by rw [List.length_map]; omega, take_min]
        refine ⟨_, rfl, ?_⟩; clear hf a; intro a hf
        refine s_v hf (x_slice_hi sl111 (hf.eval rfl) (hf.eval rfl)  (by omega) (by omega) ) ?_; clear hf a; intro a hf
        replace hf := hf.now (k := 77) (v' := .slice ea N ec) rfl (rfl)
        refine s_v hf (x_len Tryd.underlying111 (hf.eval rfl)) ?_; clear hf a; intro a hf
        refine s_m hf rfl ?_; clear hf a; intro a hf
        refine s_nil ?_
        refine then_n ?_
        refine wp_block ?_
        refine c_loop (L0 := [(0, _), (3, _), (4, _), (5, _), (6, _), (8, _), (9, _), (10, _), (11, _), (54, _), (55, _), (56, _), (57, _), (58, _), (59, _), (60, _), (61, _), (62, _), (63, _), (64, _), (65, _), (66, _), (67, _), (68, _), (69, _), (70, _), (71, _), (72, _), (73, _), (74, _), (75, _), (76, _), (77, _), (78, _)]) (fun M w m => ∃ (i : Nat), M = [(79, .int .i64 (i : Int))] ∧ N - i = m ∧ i ≤ N ∧ St σ w (blk r (.mapIter (some mp) clk (seen.push e.born) clk) :: bb fb 5 (putsP out ((e.ps.map pcOf).take i)) :: cb cb0 69 [.int .i64 csz, .slice ac secs.length cc, .int .i64 rest] :: dcell 94 p (kilS s) ⟨.slice a1 s.now.length c1, .slice a2 s.dur.length c2, mp, .slice a4 s.sizes.length c4, es, clk⟩ :: slB 5 (.slice a1 s.now.length c1) s.now :: slB 5 (.slice a2 s.dur.length c2) s.dur :: mapA mp es clk :: entsA 113 5 es :: sl 3 1 (.slice a4 s.sizes.length c4) s.sizes.length (szC s.sizes) :: R)) (M0 := [(79, .int .i64 0)]) (⟨0, rfl, rfl, Nat.zero_le _, hs⟩) (hf.sub ⟨rfl, rfl, rfl, rfl, rfl, rfl, rfl, rfl, rfl, rfl, rfl, rfl, rfl, rfl, rfl, rfl, rfl, rfl, rfl, rfl, rfl, rfl, rfl, rfl, rfl, rfl, rfl, rfl, rfl, rfl, rfl, rfl, rfl, rfl, rfl, trivial⟩) ?_
        clear hf hs a
        rintro M m a w ⟨i, rfl, rfl, hi, hs⟩ hf
        refine wp_seq ?_
        refine wp_region_lit ?_
        refine s_v hf (x_bin (hf.eval rfl) (hf.eval rfl) (r_lt _ _ _ _)) ?_; clear hf a; intro a hf
        refine s_nil ?_
        refine then_n ?_
        refine wp_seq ?_
        refine c_cond hf rfl (fun hi4 => ?_) (fun hi4 => ?_)
        · simp only [decide_eq_true_eq, decide_eq_false_iff_not, Bool.not_eq_true', Bool.not_eq_false', Bool.not_eq_true, Int.not_lt, Int.not_le] at hi4
          have hlt : i < N := by omega
          have hlt2 : i < e.ps.length := by omega
          have hlm : i < (e.ps.map pcOf).length := by rw [List.length_map]; omega
          obtain ⟨_, hrd, hdt⟩ := hs.ents .k7 he
          rw [hev] at hrd
          replace hrd := RdS.pre (f := pcF) (sz := 2) (fun _ => rfl) hrd hNl
          have hltk : (e.ps.take N)[i]'(by rw [List.length_take]; omega) = e.ps[i] := List.getElem_take ..
          obtain ⟨ea, rfl⟩ := hrd.some (by rw [List.length_take]; omega)
          have hpd := hdt _ (List.getElem_mem hlt2)
          clear hdt
          have hok9 := ho.pcs
          have hlo : (putsP out ((e.ps.map pcOf).take i)).length = outN s (csz, secs, rest) := by rw [putsP_len]; exact hfd.1
          refine wp_skip ?_
          refine then_n ?_
          refine wp_seq ?_
          refine wp_block ?_
          refine wp_seq ?_
          refine wp_region_lit ?_
          refine s_v hf (x_indexAddr sl111 (hf.eval rfl) (hf.eval rfl) (by omega) (by omega)) ?_; clear hf a; intro a hf
          refine s_r hf (x_loadS (f := pcF) ag113 (fun _ => rfl) hrd (hf.eval rfl) (by simp; omega)) ?_; clear hf a; intro a hf
          replace hf := hf.now (k := 82) (v' := .agg (pcF e.ps[i]).toArray) rfl (by rw [← hltk]; rfl)
          refine s_do hf rfl (y_alloc hs Tryd.zeroValue113 ?_); clear hf hs a; intro b7 w hs a hf
          change St _ _ (cb b7 113 [.int .i64 0, .slice none 0 0] :: _) at hs
          refine s_do0 hf rfl (y_storeAgg (cs := pcF e.ps[i]) hs (n := 2) (by kernel_rfl) (hf.eval rfl) (hf.eval rfl) (pcF_one hpd) rfl rfl .k0 ?_); clear hf hs a; intro w hs a hf
          refine s_nil ?_
          refine then_n ?_
          refine wp_seq ?_
          refine wp_region_lit ?_
          refine s_v hf (x_fieldAddr fo113_0 (hf.eval rfl)) ?_; clear hf a; intro a hf
          refine s_r hf (x_load sc3 (hf.eval rfl) (by first | exact hs.cell .k0 rfl | exact hs.cell .k1 rfl | exact hs.cell .k2 rfl | exact hs.cell .k3 rfl | exact hs.cell .k4 rfl | exact hs.cell .k5 rfl)) ?_; clear hf a; intro a hf
          refine s_m hf rfl ?_; clear hf a; intro a hf
          refine s_v hf (x_bin (hf.eval rfl) (hf.eval rfl) (r_lt _ _ _ _)) ?_; clear hf a; intro a hf
          refine s_nil ?_
          refine then_n ?_
          refine c_cond hf rfl (fun hi5 => ?_) (fun hi5 => ?_)
          · simp only [decide_eq_true_eq, decide_eq_false_iff_not, Bool.not_eq_true', Bool.not_eq_false', Bool.not_eq_true, Int.not_lt, Int.not_le] at hi5
            have hat5 : e.ps[i].1 < outN s (csz, secs, rest) := by omega
            refine c_draw hs (fun _ => True) [.held, .held, .read, .held, .held, .read, .fin] (by kernel_rfl) (by kernel_rfl) (fun _ _ _ => trivial) ?_
            clear hs; intro w hs hC hw
            refine m_held hf rfl (fun w' _ => x_move (hf.eval rfl) w') ?_; clear hf a; intro a hf
            refine m_held hf rfl (fun w' _ => x_fieldAddr fo113_0 (hf.eval rfl) w') ?_; clear hf a; intro a hf
            refine m_read hf rfl (x_load sc3 (hf.eval rfl) (by first | exact hs.cell .k0 rfl | exact hs.cell .k1 rfl | exact hs.cell .k2 rfl | exact hs.cell .k3 rfl | exact hs.cell .k4 rfl | exact hs.cell .k5 rfl)) ?_; clear hf a; intro a hf
            refine m_held hf rfl (fun w' _ => x_slice_lo sl25 (hf.eval rfl) (hf.eval rfl)  (by omega) (by omega)  w') ?_; clear hf a; intro a hf
            replace hf := hf.now (k := 90) (v' := .slice (some ⟨fb, e.ps[i].1, none⟩) (outN s (csz, secs, rest) - e.ps[i].1) (outN s (csz, secs, rest) - e.ps[i].1)) rfl (by rw [Int.toNat_natCast, subA_at hat5])
            refine m_held hf rfl (fun w' _ => x_fieldAddr fo113_1 (hf.eval rfl) w') ?_; clear hf a; intro a hf
            refine m_read hf rfl (x_load sc25 (hf.eval rfl) (by first | exact hs.cell .k0 rfl | exact hs.cell .k1 rfl | exact hs.cell .k2 rfl | exact hs.cell .k3 rfl | exact hs.cell .k4 rfl | exact hs.cell .k5 rfl)) ?_; clear hf a; intro a hf
            refine m_fin hf rfl (y_copyB (o := e.ps[i].1) (cur' := putP (putsP out ((e.ps.map pcOf).take i)) (pcOf e.ps[i])) hs sl25 (hf.eval rfl) (hf.eval rfl) (fun _ => rfl) ((hs.ents .k8 he).2.2 _ (List.getElem_mem hlt2)) rfl .k2 (by rw [putP_in (p := pcOf e.ps[i]) (by rw [hlo]; exact hat5), hlo]; rfl) (by rw [hlo]; omega) ?_); clear hf hs a; intro w hs; intro a hf
            have hs9 := hs.drop
            refine blk_n ?_
            refine then_n ?_
            refine wp_region_lit ?_
            refine s_v hf (x_bin (hf.eval rfl) (hf.eval rfl) (r_addi _ (by omega) (by omega))) ?_; clear hf a; intro a hf
            refine s_m hf rfl ?_; clear hf a; intro a hf
            refine s_nil ?_
            exact ⟨_, _, ⟨i + 1, rfl, rfl, by omega, by rw [putsP_take hlm, List.getElem_map]; exact hs9⟩, by omega, hf.sub ⟨rfl, rfl, rfl, rfl, rfl, rfl, rfl, rfl, rfl, rfl, rfl, rfl, rfl, rfl, rfl, rfl, rfl, rfl, rfl, rfl, rfl, rfl, rfl, rfl, rfl, rfl, rfl, rfl, rfl, rfl, rfl, rfl, rfl, rfl, rfl, trivial⟩⟩
          · simp only [decide_eq_true_eq, decide_eq_false_iff_not, Bool.not_eq_true', Bool.not_eq_false', Bool.not_eq_true, Int.not_lt, Int.not_le] at hi5
            have hs9 : St σ w (blk r (.mapIter (some mp) clk (seen.push e.born) clk) :: bb fb 5 (putP (putsP out ((e.ps.map pcOf).take i)) (pcOf e.ps[i])) :: cb cb0 69 [.int .i64 csz, .slice ac secs.length cc, .int .i64 rest] :: dcell 94 p (kilS s) ⟨.slice a1 s.now.length c1, .slice a2 s.dur.length c2, mp, .slice a4 s.sizes.length c4, es, clk⟩ :: slB 5 (.slice a1 s.now.length c1) s.now :: slB 5 (.slice a2 s.dur.length c2) s.dur :: mapA mp es clk :: entsA 113 5 es :: sl 3 1 (.slice a4 s.sizes.length c4) s.sizes.length (szC s.sizes) :: R) := by rw [putP_out (p := pcOf e.ps[i]) (by rw [hlo]; show outN s (csz, secs, rest) ≤ e.ps[i].1; omega)]; exact hs.drop
            refine wp_skip ?_
            refine blk_n ?_
            refine then_n ?_
            refine wp_region_lit ?_
            refine s_v hf (x_bin (hf.eval rfl) (hf.eval rfl) (r_addi _ (by omega) (by omega))) ?_; clear hf a; intro a hf
            refine s_m hf rfl ?_; clear hf a; intro a hf
            refine s_nil ?_
            exact ⟨_, _, ⟨i + 1, rfl, rfl, by omega, by rw [putsP_take hlm, List.getElem_map]; exact hs9⟩, by omega, hf.sub ⟨rfl, rfl, rfl, rfl, rfl, rfl, rfl, rfl, rfl, rfl, rfl, rfl, rfl, rfl, rfl, rfl, rfl, rfl, rfl, rfl, rfl, rfl, rfl, rfl, rfl, rfl, rfl, rfl, rfl, rfl, rfl, rfl, rfl, rfl, rfl, trivial⟩⟩
        · simp only [decide_eq_true_eq, decide_eq_false_iff_not, Bool.not_eq_true', Bool.not_eq_false', Bool.not_eq_true, Int.not_lt, Int.not_le] at hi4
          have hN9 : N = i := by omega
          refine wp_exit ?_
          refine then_x ?_
          refine then_x ?_
          refine blk_x ?_
          refine blk_n ?_
          obtain rfl : i = N := by omega
          have hfd2 := fnd_step ho hm hfd he hns
          exact ⟨_, _, ⟨seen.push e.born, putsP out (keptP s (csz, secs, rest) e.sec), rfl, rfl, by simpa using hfd2, by rw [hkp, ← hN9]; exact hs⟩, unseen_lt he hns, hf.sub ⟨rfl, rfl, rfl, rfl, rfl, rfl, rfl, trivial⟩⟩
      · simp only [decide_eq_true_eq, decide_eq_false_iff_not, Bool.not_eq_true', Bool.not_eq_false', Bool.not_eq_true, Int.not_lt, Int.not_le] at hi3
        replace hf := hf.now (k := 11) (v' := .int .i64 (keepOf (csz, secs, rest) e.sec)) rfl (by rw [keepOf_out (by simp only; omega)])
        refine wp_skip ?_
        refine then_n ?_
        refine wp_seq ?_
        refine wp_region_lit ?_
        refine s_m hf rfl ?_; clear hf a; intro a hf
        refine s_m hf rfl ?_; clear hf a; intro a hf
        refine s_m hf rfl ?_; clear hf a; intro a hf
        refine s_v hf (x_len Tryd.underlying111 (hf.eval rfl)) ?_; clear hf a; intro a hf
        refine s_do hf rfl (y_call (hf.eval rfl) (hf.evals rfl) Tryd.call74 ((upTo_spec _ (keepOf (csz, secs, rest) e.sec) e.ps.length).mono ?_))
        rintro e w1 ⟨rfl, rfl⟩
        obtain ⟨N, hN⟩ : ∃ N : Nat, (N : Int) = max 0 (min (keepOf (csz, secs, rest) e.sec) (e.ps.length : Int)) := ⟨(max 0 (min (keepOf (csz, secs, rest) e.sec) (e.ps.length : Int))).toNat, by omega⟩
        rw [← hN]
        have hNl : N ≤ e.ps.length := by omega
        have hpl9 := ps_len hm hg he
        have hkp : keptP s (csz, secs, rest) e.sec = (e.ps.map pcOf).take N := by rw [kept_eq hm hg he, show N = min (e.ps.map pcOf).length (keepOf (csz, secs, rest) e.sec).toNat by rw [List.length_map]; omega, take_min]
        refine ⟨_, rfl, ?_⟩; clear hf a; intro a hf
        refine s_v hf (x_slice_hi sl111 (hf.eval rfl) (hf.eval rfl)  (by omega) (by omega) ) ?_; clear hf a; intro a hf
        replace hf := hf.now (k := 77) (v' := .slice ea N ec) rfl (rfl)
        refine s_v hf (x_len Tryd.underlying111 (hf.eval rfl)) ?_; clear hf a; intro a hf
        refine s_m hf rfl ?_; clear hf a; intro a hf
        refine s_nil ?_
        refine then_n ?_
        refine wp_block ?_
        refine c_loop (L0 := [(0, _), (3, _), (4, _), (5, _), (6, _), (8, _), (9, _), (10, _), (11, _), (54, _), (55, _), (56, _), (57, _), (58, _), (59, _), (60, _), (61, _), (62, _), (63, _), (64, _), (65, _), (66, _), (72, _), (73, _), (74, _), (75, _), (76, _), (77, _), (78, _)]) (fun M w m => ∃ (i : Nat), M = [(79, .int .i64 (i : Int))] ∧ N - i = m ∧ i ≤ N ∧ St σ w (blk r (.mapIter (some mp) clk (seen.push e.born) clk) :: bb fb 5 (putsP out ((e.ps.map pcOf).take i)) :: cb cb0 69 [.int .i64 csz, .slice ac secs.length cc, .int .i64 rest] :: dcell 94 p (kilS s) ⟨.slice a1 s.now.length c1, .slice a2 s.dur.length c2, mp, .slice a4 s.sizes.length c4, es, clk⟩ :: slB 5 (.slice a1 s.now.length c1) s.now :: slB 5 (.slice a2 s.dur.length c2) s.dur :: mapA mp es clk :: entsA 113 5 es :: sl 3 1 (.slice a4 s.sizes.length c4) s.sizes.length (szC s.sizes) :: R)) (M0 := [(79, .int .i64 0)]) (⟨0, rfl, rfl, Nat.zero_le _, hs⟩) (hf.sub ⟨rfl, rfl, rfl, rfl, rfl, rfl, rfl, rfl, rfl, rfl, rfl, rfl, rfl, rfl, rfl, rfl, rfl, rfl, rfl, rfl, rfl, rfl, rfl, rfl, rfl, rfl, rfl, rfl, rfl, rfl, trivial⟩) ?_
        clear hf hs a
        rintro M m a w ⟨i, rfl, rfl, hi, hs⟩ hf
        refine wp_seq ?_
        refine wp_region_lit ?_
        refine s_v hf (x_bin (hf.eval rfl) (hf.eval rfl) (r_lt _ _ _ _)) ?_; clear hf a; intro a hf
        refine s_nil ?_
        refine then_n ?_
        refine wp_seq ?_
        refine c_cond hf rfl (fun hi4 => ?_) (fun hi4 => ?_)
        · simp only [decide_eq_true_eq, decide_eq_false_iff_not, Bool.not_eq_true', Bool.not_eq_false', Bool.not_eq_true, Int.not_lt, Int.not_le] at hi4
          have hlt : i < N := by omega
          have hlt2 : i < e.ps.length := by omega
          have hlm : i < (e.ps.map pcOf).length := by rw [List.length_map]; omega
          obtain ⟨_, hrd, hdt⟩ := hs.ents .k7 he
          rw [hev] at hrd
          replace hrd := RdS.pre (f := pcF) (sz := 2) (fun _ => rfl) hrd hNl
          have hltk : (e.ps.take N)[i]'(by rw [List.length_take]; omega) = e.ps[i] := List.getElem_take ..
          obtain ⟨ea, rfl⟩ := hrd.some (by rw [List.length_take]; omega)
          have hpd := hdt _ (List.getElem_mem hlt2)
          clear hdt
          have hok9 := ho.pcs
          have hlo : (putsP out ((e.ps.map pcOf).take i)).length = outN s (csz, secs, rest) := by rw [putsP_len]; exact hfd.1
          refine wp_skip ?_
          refine then_n ?_
          refine wp_seq ?_
          refine wp_block ?_
          refine wp_seq ?_
          refine wp_region_lit ?_
          refine s_v hf (x_indexAddr sl111 (hf.eval rfl) (hf.eval rfl) (by omega) (by omega)) ?_; clear hf a; intro a hf
          refine s_r hf (x_loadS (f := pcF) ag113 (fun _ => rfl) hrd (hf.eval rfl) (by simp; omega)) ?_; clear hf a; intro a hf
          replace hf := hf.now (k := 82) (v' := .agg (pcF e.ps[i]).toArray) rfl (by rw [← hltk]; rfl)
          refine s_do hf rfl (y_alloc hs Tryd.zeroValue113 ?_); clear hf hs a; intro b7 w hs a hf
          change St _ _ (cb b7 113 [.int .i64 0, .slice none 0 0] :: _) at hs
          refine s_do0 hf rfl (y_storeAgg (cs := pcF e.ps[i]) hs (n := 2) (by kernel_rfl) (hf.eval rfl) (hf.eval rfl) (pcF_one hpd) rfl rfl .k0 ?_); clear hf hs a; intro w hs a hf
          refine s_nil ?_
          refine then_n ?_
          refine wp_seq ?_
          refine wp_region_lit ?_
          refine s_v hf (x_fieldAddr fo113_0 (hf.eval rfl)) ?_; clear hf a; intro a hf
          refine s_r hf (x_load sc3 (hf.eval rfl) (by first | exact hs.cell .k0 rfl | exact hs.cell .k1 rfl | exact hs.cell .k2 rfl | exact hs.cell .k3 rfl | exact hs.cell .k4 rfl | exact hs.cell .k5 rfl)) ?_; clear hf a; intro a hf
          refine s_m hf rfl ?_; clear hf a; intro a hf
          refine s_v hf (x_bin (hf.eval rfl) (hf.eval rfl) (r_lt _ _ _ _)) ?_; clear hf a; intro a hf
          refine s_nil ?_
          refine then_n ?_
          refine c_cond hf rfl (fun hi5 => ?_) (fun hi5 => ?_)
          · simp only [decide_eq_true_eq, decide_eq_false_iff_not, Bool.not_eq_true', Bool.not_eq_false', Bool.not_eq_true, Int.not_lt, Int.not_le] at hi5
            have hat5 : e.ps[i].1 < outN s (csz, secs, rest) := by omega
            refine c_draw hs (fun _ => True) [.held, .held, .read, .held, .held, .read, .fin] (by kernel_rfl) (by kernel_rfl) (fun _ _ _ => trivial) ?_
            clear hs; intro w hs hC hw
            refine m_held hf rfl (fun w' _ => x_move (hf.eval rfl) w') ?_; clear hf a; intro a hf
            refine m_held hf rfl (fun w' _ => x_fieldAddr fo113_0 (hf.eval rfl) w') ?_; clear hf a; intro a hf
            refine m_read hf rfl (x_load sc3 (hf.eval rfl) (by first | exact hs.cell .k0 rfl | exact hs.cell .k1 rfl | exact hs.cell .k2 rfl | exact hs.cell .k3 rfl | exact hs.cell .k4 rfl | exact hs.cell .k5 rfl)) ?_; clear hf a; intro a hf
            refine m_held hf rfl (fun w' _ => x_slice_lo sl25 (hf.eval rfl) (hf.eval rfl)  (by omega) (by omega)  w') ?_; clear hf a; intro a hf
            replace hf := hf.now (k := 90) (v' := .slice (some ⟨fb, e.ps[i].1, none⟩) (outN s (csz, secs, rest) - e.ps[i].1) (outN s (csz, secs, rest) - e.ps[i].1)) rfl (by rw [Int.toNat_natCast, subA_at hat5])
            refine m_held hf rfl (fun w' _ => x_fieldAddr fo113_1 (hf.eval rfl) w') ?_; clear hf a; intro a hf
            refine m_read hf rfl (x_load sc25 (hf.eval rfl) (by first | exact hs.cell .k0 rfl | exact hs.cell .k1 rfl | exact hs.cell .k2 rfl | exact hs.cell .k3 rfl | exact hs.cell .k4 rfl | exact hs.cell .k5 rfl)) ?_; clear hf a; intro a hf
            refine m_fin hf rfl (y_copyB (o := e.ps[i].1) (cur' := putP (putsP out ((e.ps.map pcOf).take i)) (pcOf e.ps[i])) hs sl25 (hf.eval rfl) (hf.eval rfl) (fun _ => rfl) ((hs.ents .k8 he).2.2 _ (List.getElem_mem hlt2)) rfl .k2 (by rw [putP_in (p := pcOf e.ps[i]) (by rw [hlo]; exact hat5), hlo]; rfl) (by rw [hlo]; omega) ?_); clear hf hs a; intro w hs; intro a hf
            have hs9 := hs.drop
            refine blk_n ?_
            refine then_n ?_
            refine wp_region_lit ?_
            refine s_v hf (x_bin (hf.eval rfl) (hf.eval rfl) (r_addi _ (by omega) (by omega))) ?_; clear hf a; intro a hf
            refine s_m hf rfl ?_; clear hf a; intro a hf
            refine s_nil ?_
            exact ⟨_, _, ⟨i + 1, rfl, rfl, by omega, by rw [putsP_take hlm, List.getElem_map]; exact hs9⟩, by omega, hf.sub ⟨rfl, rfl, rfl, rfl, rfl, rfl, rfl, rfl, rfl, rfl, rfl, rfl, rfl, rfl, rfl, rfl, rfl, rfl, rfl, rfl, rfl, rfl, rfl, rfl, rfl, rfl, rfl, rfl, rfl, rfl, trivial⟩⟩
          · simp only [decide_eq_true_eq, decide_eq_false_iff_not, Bool.not_eq_true', Bool.not_eq_false', Bool.not_eq_true, Int.not_lt, Int.not_le] at hi5
            have hs9 : St σ w (blk r (.mapIter (some mp) clk (seen.push e.born) clk) :: bb fb 5 (putP (putsP out ((e.ps.map pcOf).take i)) (pcOf e.ps[i])) :: cb cb0 69 [.int .i64 csz, .slice ac secs.length cc, .int .i64 rest] :: dcell 94 p (kilS s) ⟨.slice a1 s.now.length c1, .slice a2 s.dur.length c2, mp, .slice a4 s.sizes.length c4, es, clk⟩ :: slB 5 (.slice a1 s.now.length c1) s.now :: slB 5 (.slice a2 s.dur.length c2) s.dur :: mapA mp es clk :: entsA 113 5 es :: sl 3 1 (.slice a4 s.sizes.length c4) s.sizes.length (szC s.sizes) :: R) := by rw [putP_out (p := pcOf e.ps[i]) (by rw [hlo]; show outN s (csz, secs, rest) ≤ e.ps[i].1; omega)]; exact hs.drop
            refine wp_skip ?_
            refine blk_n ?_
            refine then_n ?_
            refine wp_region_lit ?_
            refine s_v hf (x_bin (hf.eval rfl) (hf.eval rfl) (r_addi _ (by omega) (by omega))) ?_; clear hf a; intro a hf
            refine s_m hf rfl ?_; clear hf a; intro a hf
            refine s_nil ?_
            exact ⟨_, _, ⟨i + 1, rfl, rfl, by omega, by rw [putsP_take hlm, List.getElem_map]; exact hs9⟩, by omega, hf.sub ⟨rfl, rfl, rfl, rfl, rfl, rfl, rfl, rfl, rfl, rfl, rfl, rfl, rfl, rfl, rfl, rfl, rfl, rfl, rfl, rfl, rfl, rfl, rfl, rfl, rfl, rfl, rfl, rfl, rfl, rfl, trivial⟩⟩
        · simp only [decide_eq_true_eq, decide_eq_false_iff_not, Bool.not_eq_true', Bool.not_eq_false', Bool.not_eq_true, Int.not_lt, Int.not_le] at hi4
          have hN9 : N = i := by omega
          refine wp_exit ?_
          refine then_x ?_
          refine then_x ?_
          refine blk_x ?_
          refine blk_n ?_
          obtain rfl : i = N := by omega
          have hfd2 := fnd_step ho hm hfd he hns
          exact ⟨_, _, ⟨seen.push e.born, putsP out (keptP s (csz, secs, rest) e.sec), rfl, rfl, by simpa using hfd2, by rw [hkp, ← hN9]; exact hs⟩, unseen_lt he hns, hf.sub ⟨rfl, rfl, rfl, rfl, rfl, rfl, rfl, trivial⟩⟩
    · have hall := hbf hi2
      subst hi2
      replace hs : St σ w (blk r (.mapIter (some mp) clk seen clk) :: bb fb 5 (out) :: cb cb0 69 [.int .i64 csz, .slice ac secs.length cc, .int .i64 rest] :: dcell 94 p (kilS s) ⟨.slice a1 s.now.length c1, .slice a2 s.dur.length c2, mp, .slice a4 s.sizes.length c4, es, clk⟩ :: slB 5 (.slice a1 s.now.length c1) s.now :: slB 5 (.slice a2 s.dur.length c2) s.dur :: mapA mp es clk :: entsA 113 5 es :: sl 3 1 (.slice a4 s.sizes.length c4) s.sizes.length (szC s.sizes) :: R) := hs
      clear hbt hbf
      obtain rfl := fnd_end hg hfd hall
      refine wp_exit ?_
      refine then_x ?_
      refine then_x ?_
      refine blk_x ?_
      refine then_n ?_
      refine wp_seq ?_
      refine wp_region_lit ?_
      refine s_m hf rfl ?_; clear hf a; intro a hf
      replace hf := hf.now (k := 95) (v' := .slice (some ⟨fb, 0, none⟩) (outS s (csz, secs, rest)).length (outN s (csz, secs, rest))) rfl (by rw [outS_length])
      refine s_m hf rfl ?_; clear hf a; intro a hf
      refine s_v hf (x_nilCheck (hf.eval rfl)) ?_; clear hf a; intro a hf
      refine s_v hf (x_fieldAddr fo94_0 (hf.eval rfl)) ?_; clear hf a; intro a hf
      refine s_r hf (x_load sc3 (hf.eval rfl) (by first | exact hs.cell .k0 rfl | exact hs.cell .k1 rfl | exact hs.cell .k2 rfl | exact hs.cell .k3 rfl | exact hs.cell .k4 rfl | exact hs.cell .k5 rfl)) ?_; clear hf a; intro a hf
      refine s_do hf rfl (y_call (hf.eval rfl) (hf.evals rfl) Tryd.call25 ((dNew_in _ _ _ (outS s (csz, secs, rest)) (hs.rdB .k1 (fun h hb => by have h9 := rdB_of_bb hb (Nat.le_refl (outS s (csz, secs, rest)).length) (c := outN s (csz, secs, rest)) (by rw [outS_length]; exact Nat.le_refl _); rwa [List.take_length] at h9)) (by rw [outS_length]; omega) s.room hroom0 hroom1 (by rw [outS_length]; exact hoN)).mono ?_))
      rintro e w1 ⟨p2, rfl, hj⟩
      replace hs := hs.join hj
      simp only [List.cons_append, List.nil_append] at hs
      refine ⟨_, rfl, ?_⟩; clear hf a; intro a hf
      refine s_v hf (x_extract (hf.eval rfl) rfl) ?_; clear hf a; intro a hf
      refine s_v hf (x_extract (hf.eval rfl) rfl) ?_; clear hf a; intro a hf
      refine s_a hf rfl ?_; clear hf a; intro a hf
      refine s_a hf rfl ?_; clear hf a; intro a hf
      refine s_nil ?_
      refine then_n ?_
      refine wp_ret ?_
      refine r_2 hf Tryd.results37 rfl rfl ?_
      refine ⟨p2, rfl, ?_⟩
      replace hs := St.give (L := _) (((hs.lose .k1).lose .k1).lose .k1) .k6
      exact (diskA_close (s := kilS s) (x := ⟨.slice a1 s.now.length c1, .slice a2 s.dur.length c2, mp, .slice a4 s.sizes.length c4, es, clk⟩) hm hg hs).take .k1
end Go.Proofs.YtehakfbfjpolfaaDoor

namespace Go.Proofs.YtehakfbfjpolfaaDoor
open Go Vw
theorem kept_spec (w0 : World) (csz : Int) (ac : Option Addr) (cc : Nat) (secs : List Int) (rest : Int) (sec : Nat) (hrc : RdS iF 1 (hp w0) (.slice ac secs.length cc) secs) : Calls Tryd.prog 104 #[.agg #[.int .i64 csz, .slice ac secs.length cc, .int .i64 rest], .int .i64 (sec : Int)] w0 fun e w' => e = .returned (.int .i64 (keepOf (csz, secs, rest) sec)) ∧ Kept w0 w' None_ := by
  have hs := St.start w0 None_
  refine c_enter (N := 17) Tryd.func104 rfl Tryd.ntmps104 (by simp) ?_
  intro a hf
  refine wp_seq ?_
  refine wp_region_lit ?_
  refine s_do hf rfl (y_box hs (hf.eval rfl) ?_); clear hf hs a; intro cb0 w hs a hf
  replace hs : St ⟨w0, None_⟩ w [cb cb0 69 [.int .i64 csz, .slice ac secs.length cc, .int .i64 rest]] := hs
  refine s_a hf rfl ?_; clear hf a; intro a hf
  refine s_nil ?_
  refine then_n ?_
  refine wp_seq ?_
  refine wp_seq ?_
  refine wp_region_lit ?_
  refine s_m hf rfl ?_; clear hf a; intro a hf
  refine s_v hf (x_fieldAddr fo69_1 (hf.eval rfl)) ?_; clear hf a; intro a hf
  refine s_r hf (x_load sc67 (hf.eval rfl) (by first | exact hs.cell .k0 rfl | exact hs.cell .k1 rfl | exact hs.cell .k2 rfl | exact hs.cell .k3 rfl | exact hs.cell .k4 rfl | exact hs.cell .k5 rfl)) ?_; clear hf a; intro a hf
  refine s_v hf (x_len Tryd.underlying67 (hf.eval rfl)) ?_; clear hf a; intro a hf
  refine s_v hf (x_bin (hf.eval rfl) (hf.eval rfl) (r_lt _ _ _ _)) ?_; clear hf a; intro a hf
  refine s_nil ?_
  refine then_n ?_
  refine c_cond hf rfl (fun hi0 => ?_) (fun hi0 => ?_)
  · simp only [decide_eq_true_eq, decide_eq_false_iff_not, Bool.not_eq_true', Bool.not_eq_false', Bool.not_eq_true, Int.not_lt, Int.not_le] at hi0
    have hsl : sec < secs.length := by omega
    obtain ⟨ac, rfl⟩ := hrc.some (by omega)
    refine wp_seq ?_
    refine wp_region_lit ?_
    refine s_v hf (x_fieldAddr fo69_1 (hf.eval rfl)) ?_; clear hf a; intro a hf
    refine s_r hf (x_load sc67 (hf.eval rfl) (by first | exact hs.cell .k0 rfl | exact hs.cell .k1 rfl | exact hs.cell .k2 rfl | exact hs.cell .k3 rfl | exact hs.cell .k4 rfl | exact hs.cell .k5 rfl)) ?_; clear hf a; intro a hf
    refine s_m hf rfl ?_; clear hf a; intro a hf
    refine s_v hf (x_indexAddr sl67 (hf.eval rfl) (hf.eval rfl) (by omega) (by omega)) ?_; clear hf a; intro a hf
    refine s_r hf (x_loadI (i := (sec : Int)) sc3 (hs.old hrc) rfl (hf.eval rfl) (by simpa using hsl)) ?_; clear hf a; intro a hf
    refine s_a hf rfl ?_; clear hf a; intro a hf
    refine s_nil ?_
    refine then_n ?_
    refine wp_ret ?_
    refine then_r ?_
    refine r_1 hf Tryd.results104 rfl ?_
    exact ⟨by rw [keepOf_in (c := (csz, secs, rest)) hsl]; rfl, hs.kept⟩
  · simp only [decide_eq_true_eq, decide_eq_false_iff_not, Bool.not_eq_true', Bool.not_eq_false', Bool.not_eq_true, Int.not_lt, Int.not_le] at hi0
    refine wp_skip ?_
    refine then_n ?_
    refine wp_seq ?_
    refine wp_region_lit ?_
    refine s_v hf (x_fieldAddr fo69_2 (hf.eval rfl)) ?_; clear hf a; intro a hf
    refine s_r hf (x_load sc3 (hf.eval rfl) (by first | exact hs.cell .k0 rfl | exact hs.cell .k1 rfl | exact hs.cell .k2 rfl | exact hs.cell .k3 rfl | exact hs.cell .k4 rfl | exact hs.cell .k5 rfl)) ?_; clear hf a; intro a hf
    refine s_a hf rfl ?_; clear hf a; intro a hf
    refine s_nil ?_
    refine then_n ?_
    refine wp_ret ?_
    refine r_1 hf Tryd.results104 rfl ?_
    exact ⟨by rw [keepOf_out (c := (csz, secs, rest)) (by simp only; omega)], hs.kept⟩
theorem outcome_spec (σ : Sig) (w : World) (R : List Asrt) (p : Nat) (s : DS) (hs : St σ w (refA 97 139 5 3 p s :: R)) (csz : Int) (ac : Option Addr) (cc : Nat) (secs : List Int) (rest : Int) (ho : DOk s) (hrc : RdyS iF 1 σ R (.slice ac secs.length cc) secs) (hsz : s.sizes.length ≤ 1099511600000) (hpc : s.pcs.length ≤ 1099511600000) : Calls Tryd.prog 91 #[.pointer (some ⟨p, 0, none⟩), .agg #[.int .i64 csz, .slice ac secs.length cc, .int .i64 rest]] w fun e w' => ∃ a c, e = .returned (.slice a (outS s (csz, secs, rest)).length c) ∧ St σ w' (slB 5 (.slice a (outS s (csz, secs, rest)).length c) (outS s (csz, secs, rest)) :: refA 97 139 5 3 p s :: R) := by
  have hroom0 := ho.room0
  have hroom1 := ho.room1
  obtain ⟨⟨v1, v2, v3, v4, ps⟩, hps, hs⟩ := refA_open hs
  dsimp only at hps hs
  obtain ⟨a1, c1, rfl, hc1⟩ := slB_shape (hs.take .k1)
  obtain ⟨a2, c2, rfl, hc2⟩ := slB_shape (hs.take .k2)
  obtain ⟨a3, c3, rfl⟩ := sl_shape (hs.take .k3)
  obtain ⟨a4, c4, rfl⟩ := sl_shape (hs.take .k5)
  refine c_enter (N := 146) Tryd.func91 rfl Tryd.ntmps91 (by simp) ?_
  intro a hf
  refine wp_seq ?_
  refine wp_region_lit ?_
  refine s_do hf rfl (y_box hs (hf.eval rfl) ?_); clear hf hs a; intro cb0 w hs a hf
  replace hs : St σ w (cb cb0 69 [.int .i64 csz, .slice ac secs.length cc, .int .i64 rest] :: rcell 97 p s ⟨.slice a1 s.now.length c1, .slice a2 s.dur.length c2, .slice a3 ps.length c3, .slice a4 s.sizes.length c4, ps⟩ :: _) := hs
  refine s_a hf rfl ?_; clear hf a; intro a hf
  refine s_nil ?_
  refine then_n ?_
  refine wp_seq ?_
  refine wp_region_lit ?_
  refine s_m hf rfl ?_; clear hf a; intro a hf
  refine s_v hf (x_nilCheck (hf.eval rfl)) ?_; clear hf a; intro a hf
  refine s_v hf (x_fieldAddr fo97_2 (hf.eval rfl)) ?_; clear hf a; intro a hf
  refine s_r hf (x_load sc25 (hf.eval rfl) (by first | exact hs.cell .k0 rfl | exact hs.cell .k1 rfl | exact hs.cell .k2 rfl | exact hs.cell .k3 rfl | exact hs.cell .k4 rfl | exact hs.cell .k5 rfl)) ?_; clear hf a; intro a hf
  refine s_v hf (x_len Tryd.underlying25 (hf.eval rfl)) ?_; clear hf a; intro a hf
  refine s_a hf rfl ?_; clear hf a; intro a hf
  refine s_nil ?_
  refine then_n ?_
  refine wp_seq ?_
  refine wp_region_lit ?_
  refine s_v hf (x_fieldAddr fo69_0 (hf.eval rfl)) ?_; clear hf a; intro a hf
  refine s_r hf (x_load sc3 (hf.eval rfl) (by first | exact hs.cell .k0 rfl | exact hs.cell .k1 rfl | exact hs.cell .k2 rfl | exact hs.cell .k3 rfl | exact hs.cell .k4 rfl | exact hs.cell .k5 rfl)) ?_; clear hf a; intro a hf
  refine s_a hf rfl ?_; clear hf a; intro a hf
  refine s_nil ?_
  refine then_n ?_
  refine c_join (N := 146) (L0 := [(0, _), (3, _), (4, _), (5, _)]) (fun M w => M = [(6, .int .i64 (szIx s (csz, secs, rest)))] ∧ St σ w (cb cb0 69 [.int .i64 csz, .slice ac secs.length cc, .int .i64 rest] :: rcell 97 p s ⟨.slice a1 s.now.length c1, .slice a2 s.dur.length c2, .slice a3 ps.length c3, .slice a4 s.sizes.length c4, ps⟩ :: slB 5 (.slice a1 s.now.length c1) s.now :: slB 5 (.slice a2 s.dur.length c2) s.dur :: sl 139 3 (.slice a3 ps.length c3) ps.length (ps.flatMap rpF) :: datA 5 ps :: sl 3 1 (.slice a4 s.sizes.length c4) s.sizes.length (szC s.sizes) :: R)) (hf.sub ⟨rfl, rfl, rfl, rfl, trivial⟩) ?_ ?_
  · refine wp_seq ?_
    refine wp_region_lit ?_
    refine s_m hf rfl ?_; clear hf a; intro a hf
    refine s_m hf rfl ?_; clear hf a; intro a hf
    refine s_v hf (x_nilCheck (hf.eval rfl)) ?_; clear hf a; intro a hf
    refine s_v hf (x_fieldAddr fo97_4 (hf.eval rfl)) ?_; clear hf a; intro a hf
    refine s_r hf (x_load sc67 (hf.eval rfl) (by first | exact hs.cell .k0 rfl | exact hs.cell .k1 rfl | exact hs.cell .k2 rfl | exact hs.cell .k3 rfl | exact hs.cell .k4 rfl | exact hs.cell .k5 rfl)) ?_; clear hf a; intro a hf
    refine s_v hf (x_len Tryd.underlying67 (hf.eval rfl)) ?_; clear hf a; intro a hf
    refine s_v hf (x_bin (hf.eval rfl) (hf.eval rfl) (r_gt _ _ _ _)) ?_; clear hf a; intro a hf
    refine s_nil ?_
    refine then_n ?_
    refine c_cond hf rfl (fun hi0 => ?_) (fun hi0 => ?_)
    · simp only [decide_eq_true_eq, decide_eq_false_iff_not, Bool.not_eq_true', Bool.not_eq_false', Bool.not_eq_true, Int.not_lt, Int.not_le] at hi0
      refine wp_region_lit ?_
      refine s_m hf rfl ?_; clear hf a; intro a hf
      refine s_v hf (x_nilCheck (hf.eval rfl)) ?_; clear hf a; intro a hf
      refine s_v hf (x_fieldAddr fo97_4 (hf.eval rfl)) ?_; clear hf a; intro a hf
      refine s_r hf (x_load sc67 (hf.eval rfl) (by first | exact hs.cell .k0 rfl | exact hs.cell .k1 rfl | exact hs.cell .k2 rfl | exact hs.cell .k3 rfl | exact hs.cell .k4 rfl | exact hs.cell .k5 rfl)) ?_; clear hf a; intro a hf
      refine s_v hf (x_len Tryd.underlying67 (hf.eval rfl)) ?_; clear hf a; intro a hf
      refine s_a hf rfl ?_; clear hf a; intro a hf
      replace hf := hf.now (k := 6) (v' := .int .i64 (szIx s (csz, secs, rest))) rfl (by unfold szIx; congr 1; simp only; omega)
      refine s_nil ?_
      refine then_n ?_
      exact ⟨_, ⟨rfl, hs⟩, hf.sub ⟨rfl, rfl, rfl, rfl, rfl, trivial⟩⟩
    · simp only [decide_eq_true_eq, decide_eq_false_iff_not, Bool.not_eq_true', Bool.not_eq_false', Bool.not_eq_true, Int.not_lt, Int.not_le] at hi0
      replace hf := hf.now (k := 6) (v' := .int .i64 (szIx s (csz, secs, rest))) rfl (by unfold szIx; congr 1; simp only; omega)
      refine wp_skip ?_
      refine then_n ?_
      exact ⟨_, ⟨rfl, hs⟩, hf.sub ⟨rfl, rfl, rfl, rfl, rfl, trivial⟩⟩
  · clear hf hs a
    rintro M a w ⟨rfl, hs⟩ hf
    refine c_join (N := 146) (L0 := [(0, _), (3, _), (4, _)]) (fun M w => M = [(5, .int .i64 (outN s (csz, secs, rest) : Int))] ∧ St σ w (cb cb0 69 [.int .i64 csz, .slice ac secs.length cc, .int .i64 rest] :: rcell 97 p s ⟨.slice a1 s.now.length c1, .slice a2 s.dur.length c2, .slice a3 ps.length c3, .slice a4 s.sizes.length c4, ps⟩ :: slB 5 (.slice a1 s.now.length c1) s.now :: slB 5 (.slice a2 s.dur.length c2) s.dur :: sl 139 3 (.slice a3 ps.length c3) ps.length (ps.flatMap rpF) :: datA 5 ps :: sl 3 1 (.slice a4 s.sizes.length c4) s.sizes.length (szC s.sizes) :: R)) (hf.sub ⟨rfl, rfl, rfl, trivial⟩) ?_ ?_
    · refine wp_seq ?_
      refine wp_region_lit ?_
      refine s_m hf rfl ?_; clear hf a; intro a hf
      refine s_v hf (x_bin (hf.eval rfl) (hf.eval rfl) (r_gt _ _ _ _)) ?_; clear hf a; intro a hf
      refine s_nil ?_
      refine then_n ?_
      refine c_cond hf rfl (fun hi1 => ?_) (fun hi1 => ?_)
      · simp only [decide_eq_true_eq, decide_eq_false_iff_not, Bool.not_eq_true', Bool.not_eq_false', Bool.not_eq_true, Int.not_lt, Int.not_le] at hi1
        have hix : 0 < szIx s (csz, secs, rest) := by omega
        have hix2 : szIx s (csz, secs, rest) ≤ s.sizes.length := by unfold szIx; omega
        obtain ⟨a4, rfl⟩ := sl_some (hs.take .k6) (by omega)
        refine wp_region_lit ?_
        refine s_m hf rfl ?_; clear hf a; intro a hf
        refine s_v hf (x_nilCheck (hf.eval rfl)) ?_; clear hf a; intro a hf
        refine s_v hf (x_fieldAddr fo97_4 (hf.eval rfl)) ?_; clear hf a; intro a hf
        refine s_r hf (x_load sc67 (hf.eval rfl) (by first | exact hs.cell .k0 rfl | exact hs.cell .k1 rfl | exact hs.cell .k2 rfl | exact hs.cell .k3 rfl | exact hs.cell .k4 rfl | exact hs.cell .k5 rfl)) ?_; clear hf a; intro a hf
        refine s_m hf rfl ?_; clear hf a; intro a hf
        refine s_v hf (x_bin (hf.eval rfl) (hf.eval rfl) (r_subi _ (by omega) (by omega))) ?_; clear hf a; intro a hf
        replace hf := hf.now (k := 41) (v' := .int .i64 (((szIx s (csz, secs, rest)).toNat - 1 : Nat) : Int)) rfl (by congr 1; omega)
        refine s_v hf (x_indexAddr sl67 (hf.eval rfl) (hf.eval rfl) (by omega) (by omega)) ?_; clear hf a; intro a hf
        refine s_r hf (x_loadC hs sc3 .k6 (hf.eval rfl) (szC_get (i := (szIx s (csz, secs, rest)).toNat - 1) (by omega))) ?_; clear hf a; intro a hf
        refine s_a hf rfl ?_; clear hf a; intro a hf
        replace hf := hf.now (k := 5) (v' := .int .i64 (outN s (csz, secs, rest) : Int)) rfl (by rw [outN_some hix])
        refine s_nil ?_
        refine then_n ?_
        exact ⟨_, ⟨rfl, hs⟩, hf.sub ⟨rfl, rfl, rfl, rfl, trivial⟩⟩
      · simp only [decide_eq_true_eq, decide_eq_false_iff_not, Bool.not_eq_true', Bool.not_eq_false', Bool.not_eq_true, Int.not_lt, Int.not_le] at hi1
        have hix : ¬ 0 < szIx s (csz, secs, rest) := by omega
        replace hf := hf.now (k := 5) (v' := .int .i64 (outN s (csz, secs, rest) : Int)) rfl (by rw [outN_none hix])
        refine wp_skip ?_
        refine then_n ?_
        exact ⟨_, ⟨rfl, hs⟩, hf.sub ⟨rfl, rfl, rfl, rfl, trivial⟩⟩
    · clear hf hs a
      rintro M a w ⟨rfl, hs⟩ hf
      refine wp_seq ?_
      refine wp_region_lit ?_
      refine s_m hf rfl ?_; clear hf a; intro a hf
      have hoN := outN_le ho (csz, secs, rest)
      refine s_do hf rfl (y_makeB (m := outN s (csz, secs, rest)) (c := outN s (csz, secs, rest)) hs sl25 (hf.eval rfl) (hf.eval rfl) rfl rfl (Nat.le_refl _) (by omega) ?_); clear hf hs a; intro fb w hs a hf
      refine s_a hf rfl ?_; clear hf a; intro a hf
      refine s_nil ?_
      refine then_n ?_
      refine wp_seq ?_
      refine wp_region_lit ?_
      refine s_m hf rfl ?_; clear hf a; intro a hf
      refine s_m hf rfl ?_; clear hf a; intro a hf
      refine s_v hf (x_nilCheck (hf.eval rfl)) ?_; clear hf a; intro a hf
      refine s_v hf (x_fieldAddr fo97_2 (hf.eval rfl)) ?_; clear hf a; intro a hf
      refine s_r hf (x_load sc25 (hf.eval rfl) (by first | exact hs.cell .k0 rfl | exact hs.cell .k1 rfl | exact hs.cell .k2 rfl | exact hs.cell .k3 rfl | exact hs.cell .k4 rfl | exact hs.cell .k5 rfl)) ?_; clear hf a; intro a hf
      refine s_do hf rfl (y_copyB (o := 0) (cur' := spl (List.replicate (outN s (csz, secs, rest)) 0) 0 (s.dur.take (min s.dur.length (outN s (csz, secs, rest))))) hs sl25 (hf.eval rfl) (hf.eval rfl) (fun _ => rfl) (hs.rdB .k4 fun h => slB_rd) rfl .k0 rfl (by simp) ?_); clear hf hs a; intro w hs a hf
      obtain ⟨out0, ho0⟩ : ∃ o, o = spl (List.replicate (outN s (csz, secs, rest)) 0) 0 (s.dur.take (min s.dur.length (outN s (csz, secs, rest)))) := ⟨_, rfl⟩
      rw [← ho0] at hs
      obtain ⟨hd1, hd2⟩ := dur_start s _ ho0
      have hpl : ps.length = s.pcs.length := by have h9 := congrArg List.length hps; rw [List.length_map] at h9; exact h9
      refine s_nil ?_
      refine then_n ?_
      refine wp_seq ?_
      refine wp_region_lit ?_
      refine s_a hf rfl ?_; clear hf a; intro a hf
      refine s_nil ?_
      refine then_n ?_
      refine wp_seq ?_
      refine wp_seq ?_
      refine wp_region_lit ?_
      refine s_a hf rfl ?_; clear hf a; intro a hf
      refine s_nil ?_
      refine then_n ?_
      refine wp_block ?_
      refine c_loop (L0 := [(0, _), (3, _), (4, _), (5, _), (7, _)]) (fun M w m => ∃ (i lst : Nat), M = [(8, .int .i64 (lst : Int)), (9, .int .i64 (i : Int))] ∧ ps.length - i = m ∧ i ≤ ps.length ∧ lst ≤ 16777216 ∧ (∀ q ∈ ps.take i, q.1 / 512 ≤ lst) ∧ St σ w (bb fb 5 (out0) :: cb cb0 69 [.int .i64 csz, .slice ac secs.length cc, .int .i64 rest] :: rcell 97 p s ⟨.slice a1 s.now.length c1, .slice a2 s.dur.length c2, .slice a3 ps.length c3, .slice a4 s.sizes.length c4, ps⟩ :: slB 5 (.slice a1 s.now.length c1) s.now :: slB 5 (.slice a2 s.dur.length c2) s.dur :: sl 139 3 (.slice a3 ps.length c3) ps.length (ps.flatMap rpF) :: datA 5 ps :: sl 3 1 (.slice a4 s.sizes.length c4) s.sizes.length (szC s.sizes) :: R)) (M0 := [(8, .int .i64 0), (9, .int .i64 0)]) (⟨0, 0, rfl, rfl, Nat.zero_le _, Nat.zero_le _, by simp, hs⟩) (hf.sub ⟨rfl, rfl, rfl, rfl, rfl, rfl, rfl, trivial⟩) ?_
      clear hf hs a
      rintro M m a w ⟨i, lst, rfl, rfl, hi, hl0, hlm, hs⟩ hf
      refine wp_seq ?_
      refine wp_seq ?_
      refine wp_region_lit ?_
      refine s_m hf rfl ?_; clear hf a; intro a hf
      refine s_m hf rfl ?_; clear hf a; intro a hf
      refine s_v hf (x_nilCheck (hf.eval rfl)) ?_; clear hf a; intro a hf
      refine s_v hf (x_fieldAddr fo97_3 (hf.eval rfl)) ?_; clear hf a; intro a hf
      refine s_r hf (x_load sc95 (hf.eval rfl) (by first | exact hs.cell .k0 rfl | exact hs.cell .k1 rfl | exact hs.cell .k2 rfl | exact hs.cell .k3 rfl | exact hs.cell .k4 rfl | exact hs.cell .k5 rfl)) ?_; clear hf a; intro a hf
      refine s_v hf (x_len Tryd.underlying95 (hf.eval rfl)) ?_; clear hf a; intro a hf
      refine s_v hf (x_bin (hf.eval rfl) (hf.eval rfl) (r_lt _ _ _ _)) ?_; clear hf a; intro a hf
      refine s_nil ?_
      refine then_n ?_
      refine c_cond hf rfl (fun hi2 => ?_) (fun hi2 => ?_)
      · simp only [decide_eq_true_eq, decide_eq_false_iff_not, Bool.not_eq_true', Bool.not_eq_false', Bool.not_eq_true, Int.not_lt, Int.not_le] at hi2
        have hlt : i < ps.length := by omega
        obtain ⟨ab, rfl⟩ := sl_blk (hs.take .k5) (by omega)
        obtain ⟨hip, hpi⟩ := pcs_get hps hlt
        have hpo := ho.pcs _ (List.getElem_mem hip)
        rw [hpi] at hpo
        have hpo3 : ((ps[i].1 + ps[i].2.2.length : Nat) : Int) ≤ s.room := hpo.2.2
        refine wp_skip ?_
        refine then_n ?_
        refine wp_seq ?_
        refine wp_block ?_
        refine wp_seq ?_
        refine wp_region_lit ?_
        refine s_m hf rfl ?_; clear hf a; intro a hf
        refine s_v hf (x_nilCheck (hf.eval rfl)) ?_; clear hf a; intro a hf
        refine s_v hf (x_fieldAddr fo97_3 (hf.eval rfl)) ?_; clear hf a; intro a hf
        refine s_r hf (x_load sc95 (hf.eval rfl) (by first | exact hs.cell .k0 rfl | exact hs.cell .k1 rfl | exact hs.cell .k2 rfl | exact hs.cell .k3 rfl | exact hs.cell .k4 rfl | exact hs.cell .k5 rfl)) ?_; clear hf a; intro a hf
        refine s_m hf rfl ?_; clear hf a; intro a hf
        refine s_v hf (x_indexAddr sl95 (hf.eval rfl) (hf.eval rfl) (by omega) (by omega)) ?_; clear hf a; intro a hf
        replace hf := hf.now (k := 66) (v' := .pointer (some ⟨ab, 0 + i * 3, none⟩)) rfl (by rw [addr_add]; rfl)
        refine s_v hf (x_fieldAddr fo139_0 (hf.eval rfl)) ?_; clear hf a; intro a hf
        refine s_r hf (x_load sc3 (hf.eval rfl) (rdS_cellAt (f := rpF) (sz := 3) (fun _ => rfl) (hs.rd .k5 fun h hh => sl_rd hh) (k := 0) hlt rfl)) ?_; clear hf a; intro a hf
        refine s_m hf rfl ?_; clear hf a; intro a hf
        refine s_v hf (x_bin (hf.eval rfl) (hf.eval rfl) (r_gt _ _ _ _)) ?_; clear hf a; intro a hf
        refine s_nil ?_
        refine then_n ?_
        refine c_cond hf rfl (fun hi3 => ?_) (fun hi3 => ?_)
        · simp only [decide_eq_true_eq, decide_eq_false_iff_not, Bool.not_eq_true', Bool.not_eq_false', Bool.not_eq_true, Int.not_lt, Int.not_le] at hi3
          refine wp_region_lit ?_
          refine s_m hf rfl ?_; clear hf a; intro a hf
          refine s_v hf (x_nilCheck (hf.eval rfl)) ?_; clear hf a; intro a hf
          refine s_v hf (x_fieldAddr fo97_3 (hf.eval rfl)) ?_; clear hf a; intro a hf
          refine s_r hf (x_load sc95 (hf.eval rfl) (by first | exact hs.cell .k0 rfl | exact hs.cell .k1 rfl | exact hs.cell .k2 rfl | exact hs.cell .k3 rfl | exact hs.cell .k4 rfl | exact hs.cell .k5 rfl)) ?_; clear hf a; intro a hf
          refine s_m hf rfl ?_; clear hf a; intro a hf
          refine s_v hf (x_indexAddr sl95 (hf.eval rfl) (hf.eval rfl) (by omega) (by omega)) ?_; clear hf a; intro a hf
          replace hf := hf.now (k := 76) (v' := .pointer (some ⟨ab, 0 + i * 3, none⟩)) rfl (by rw [addr_add]; rfl)
          refine s_v hf (x_fieldAddr fo139_0 (hf.eval rfl)) ?_; clear hf a; intro a hf
          refine s_r hf (x_load sc3 (hf.eval rfl) (rdS_cellAt (f := rpF) (sz := 3) (fun _ => rfl) (hs.rd .k5 fun h hh => sl_rd hh) (k := 0) hlt rfl)) ?_; clear hf a; intro a hf
          refine s_a hf rfl ?_; clear hf a; intro a hf
          replace hf := hf.now (k := 8) (v' := .int .i64 ((max lst (ps[i].1 / 512) : Nat) : Int)) rfl (by congr 1; omega)
          refine s_nil ?_
          refine blk_n ?_
          refine then_n ?_
          refine wp_region_lit ?_
          refine s_m hf rfl ?_; clear hf a; intro a hf
          refine s_v hf (x_bin (hf.eval rfl) (hf.eval rfl) (r_addi _ (by omega) (by omega))) ?_; clear hf a; intro a hf
          refine s_a hf rfl ?_; clear hf a; intro a hf
          refine s_nil ?_
          exact ⟨_, _, ⟨i + 1, max lst (ps[i].1 / 512), rfl, rfl, by omega, by omega, mem_take_get hlt (fun q hq => by have := hlm q hq; omega) (by omega), hs⟩, by omega, hf.sub ⟨rfl, rfl, rfl, rfl, rfl, rfl, rfl, trivial⟩⟩
        · simp only [decide_eq_true_eq, decide_eq_false_iff_not, Bool.not_eq_true', Bool.not_eq_false', Bool.not_eq_true, Int.not_lt, Int.not_le] at hi3
          replace hf := hf.now (k := 8) (v' := .int .i64 ((max lst (ps[i].1 / 512) : Nat) : Int)) rfl (by congr 1; omega)
          refine wp_skip ?_
          refine blk_n ?_
          refine then_n ?_
          refine wp_region_lit ?_
          refine s_m hf rfl ?_; clear hf a; intro a hf
          refine s_v hf (x_bin (hf.eval rfl) (hf.eval rfl) (r_addi _ (by omega) (by omega))) ?_; clear hf a; intro a hf
          refine s_a hf rfl ?_; clear hf a; intro a hf
          refine s_nil ?_
          exact ⟨_, _, ⟨i + 1, max lst (ps[i].1 / 512), rfl, rfl, by omega, by omega, mem_take_get hlt (fun q hq => by have := hlm q hq; omega) (by omega), hs⟩, by omega, hf.sub ⟨rfl, rfl, rfl, rfl, rfl, rfl, rfl, trivial⟩⟩
      · simp only [decide_eq_true_eq, decide_eq_false_iff_not, Bool.not_eq_true', Bool.not_eq_false', Bool.not_eq_true, Int.not_lt, Int.not_le] at hi2
        obtain rfl : i = ps.length := by omega
        rw [List.take_length] at hlm
        refine wp_exit ?_
        refine then_x ?_
        refine then_x ?_
        refine blk_x ?_
        refine then_n ?_
        refine wp_seq ?_
        refine wp_region_lit ?_
        refine s_m hf rfl ?_; clear hf a; intro a hf
        refine s_v hf (x_bin (hf.eval rfl) (hf.eval rfl) (r_addi _ (by omega) (by omega))) ?_; clear hf a; intro a hf
        refine s_do hf rfl (y_makeSlice hs sl67 (hf.eval rfl) (hf.eval rfl) (by omega) (by omega) (by omega) (by omega) ?_); clear hf hs a; intro b4 w hs a hf
        rw [show ((lst : Int) + 1).toNat = lst + 1 by omega, cntC_0 s.pcs] at hs
        replace hf := hf.now (k := 81) (v' := .slice (some ⟨b4, 0, none⟩) (lst + 1) (lst + 1)) rfl (by rw [show ((lst : Int) + 1).toNat = lst + 1 by omega])
        refine s_a hf rfl ?_; clear hf a; intro a hf
        refine s_nil ?_
        refine then_n ?_
        refine wp_seq ?_
        refine wp_seq ?_
        refine wp_region_lit ?_
        refine s_a hf rfl ?_; clear hf a; intro a hf
        refine s_nil ?_
        refine then_n ?_
        refine wp_block ?_
        refine c_loop (L0 := [(0, _), (3, _), (4, _), (5, _), (7, _), (8, _), (9, _), (10, _), (52, _), (53, _), (54, _), (55, _), (56, _), (57, _), (58, _), (79, _), (80, _), (81, _)]) (fun M w m => ∃ (i : Nat) (out : List UInt8), M = [(11, .int .i64 (i : Int))] ∧ ps.length - i = m ∧ i ≤ ps.length ∧ Fre s (csz, secs, rest) i out ∧ St σ w (cb b4 3 (cntC s.pcs i (lst + 1)) :: bb fb 5 (out) :: cb cb0 69 [.int .i64 csz, .slice ac secs.length cc, .int .i64 rest] :: rcell 97 p s ⟨.slice a1 s.now.length c1, .slice a2 s.dur.length c2, .slice a3 ps.length c3, .slice a4 s.sizes.length c4, ps⟩ :: slB 5 (.slice a1 s.now.length c1) s.now :: slB 5 (.slice a2 s.dur.length c2) s.dur :: sl 139 3 (.slice a3 ps.length c3) ps.length (ps.flatMap rpF) :: datA 5 ps :: sl 3 1 (.slice a4 s.sizes.length c4) s.sizes.length (szC s.sizes) :: R)) (M0 := [(11, .int .i64 0)]) (⟨0, out0, rfl, rfl, Nat.zero_le _, fre_start hd1 hd2, hs⟩) (hf.sub ⟨rfl, rfl, rfl, rfl, rfl, rfl, rfl, rfl, rfl, rfl, rfl, rfl, rfl, rfl, rfl, rfl, rfl, rfl, rfl, trivial⟩) ?_
        clear hf hs a
        rintro M m a w ⟨i, out, rfl, rfl, hi, hfr, hs⟩ hf
        clear hd1 hd2
        refine wp_seq ?_
        refine wp_seq ?_
        refine wp_region_lit ?_
        refine s_m hf rfl ?_; clear hf a; intro a hf
        refine s_m hf rfl ?_; clear hf a; intro a hf
        refine s_v hf (x_nilCheck (hf.eval rfl)) ?_; clear hf a; intro a hf
        refine s_v hf (x_fieldAddr fo97_3 (hf.eval rfl)) ?_; clear hf a; intro a hf
        refine s_r hf (x_load sc95 (hf.eval rfl) (by first | exact hs.cell .k0 rfl | exact hs.cell .k1 rfl | exact hs.cell .k2 rfl | exact hs.cell .k3 rfl | exact hs.cell .k4 rfl | exact hs.cell .k5 rfl)) ?_; clear hf a; intro a hf
        refine s_v hf (x_len Tryd.underlying95 (hf.eval rfl)) ?_; clear hf a; intro a hf
        refine s_v hf (x_bin (hf.eval rfl) (hf.eval rfl) (r_lt _ _ _ _)) ?_; clear hf a; intro a hf
        refine s_nil ?_
        refine then_n ?_
        refine c_cond hf rfl (fun hi4 => ?_) (fun hi4 => ?_)
        · simp only [decide_eq_true_eq, decide_eq_false_iff_not, Bool.not_eq_true', Bool.not_eq_false', Bool.not_eq_true, Int.not_lt, Int.not_le] at hi4
          have hlt : i < ps.length := by omega
          obtain ⟨ab, rfl⟩ := sl_blk (hs.take .k6) (by omega)
          obtain ⟨hip, hpi⟩ := pcs_get hps hlt
          have hpo := ho.pcs _ (List.getElem_mem hip)
          rw [hpi] at hpo
          have hpo3 : ((ps[i].1 + ps[i].2.2.length : Nat) : Int) ≤ s.room := hpo.2.2
          have hsec := hlm _ (List.getElem_mem hlt)
          have hpd := hs.datRd .k7 hlt
          obtain ⟨pa, pk, hpv⟩ := hpd.shape
          have hpo1 : s.pcs[i].1 / 512 = ps[i].1 / 512 := by rw [hpi]
          have hcl9 : (secP (s.pcs.take i) (ps[i].1 / 512)).length ≤ s.pcs.length := by unfold secP; exact Nat.le_trans (List.length_filter_le _ _) (by rw [List.length_take]; omega)
          refine wp_skip ?_
          refine then_n ?_
          refine wp_seq ?_
          refine wp_block ?_
          refine wp_seq ?_
          refine wp_region_lit ?_
          refine s_m hf rfl ?_; clear hf a; intro a hf
          refine s_v hf (x_nilCheck (hf.eval rfl)) ?_; clear hf a; intro a hf
          refine s_v hf (x_fieldAddr fo97_3 (hf.eval rfl)) ?_; clear hf a; intro a hf
          refine s_r hf (x_load sc95 (hf.eval rfl) (by first | exact hs.cell .k0 rfl | exact hs.cell .k1 rfl | exact hs.cell .k2 rfl | exact hs.cell .k3 rfl | exact hs.cell .k4 rfl | exact hs.cell .k5 rfl)) ?_; clear hf a; intro a hf
          refine s_m hf rfl ?_; clear hf a; intro a hf
          refine s_v hf (x_indexAddr sl95 (hf.eval rfl) (hf.eval rfl) (by omega) (by omega)) ?_; clear hf a; intro a hf
          refine s_r hf (x_loadS (f := rpF) ag139 (fun _ => rfl) (hs.rd .k6 fun h hh => sl_rd hh) (hf.eval rfl) (by simpa using hlt)) ?_; clear hf a; intro a hf
          refine s_do hf rfl (y_alloc hs Tryd.zeroValue139 ?_); clear hf hs a; intro b7 w hs a hf
          change St _ _ (cb b7 139 [.int .i64 0, .int .i64 0, .slice none 0 0] :: _) at hs
          refine s_do0 hf rfl (y_storeAgg (cs := rpF ps[i]) hs (n := 3) (by kernel_rfl) (hf.eval rfl) (hf.eval rfl) (rpF_one hpd) rfl rfl .k0 ?_); clear hf hs a; intro w hs a hf
          refine s_nil ?_
          refine then_n ?_
          refine wp_seq ?_
          refine wp_region_lit ?_
          refine s_r hf (x_loadBlk hs ag69 (hf.eval rfl) rfl .k3) ?_; clear hf a; intro a hf
          refine s_v hf (x_fieldAddr fo139_0 (hf.eval rfl)) ?_; clear hf a; intro a hf
          refine s_r hf (x_load sc3 (hf.eval rfl) (by first | exact hs.cell .k0 rfl | exact hs.cell .k1 rfl | exact hs.cell .k2 rfl | exact hs.cell .k3 rfl | exact hs.cell .k4 rfl | exact hs.cell .k5 rfl)) ?_; clear hf a; intro a hf
          refine s_do hf rfl (y_call (hf.eval rfl) (hf.evals rfl) Tryd.call104 ((kept_spec _ csz ac cc secs rest (ps[i].1 / 512) (hrc _ [_, _, _, _, _, _, _, _, _, _] hs)).mono ?_))
          rintro e w1 ⟨rfl, hk⟩
          replace hs := hs.ext hk
          refine ⟨_, rfl, ?_⟩; clear hf a; intro a hf
          refine s_a hf rfl ?_; clear hf a; intro a hf
          refine s_nil ?_
          refine then_n ?_
          refine wp_seq ?_
          refine wp_seq ?_
          refine wp_region_lit ?_
          refine s_m hf rfl ?_; clear hf a; intro a hf
          refine s_v hf (x_fieldAddr fo139_0 (hf.eval rfl)) ?_; clear hf a; intro a hf
          refine s_r hf (x_load sc3 (hf.eval rfl) (by first | exact hs.cell .k0 rfl | exact hs.cell .k1 rfl | exact hs.cell .k2 rfl | exact hs.cell .k3 rfl | exact hs.cell .k4 rfl | exact hs.cell .k5 rfl)) ?_; clear hf a; intro a hf
          refine s_v hf (x_indexAddr sl67 (hf.eval rfl) (hf.eval rfl) (by omega) (by omega)) ?_; clear hf a; intro a hf
          replace hf := hf.now (k := 105) (v' := .pointer (some ⟨b4, ps[i].1 / 512, none⟩)) rfl (by rw [addr_add, Int.toNat_natCast, Nat.mul_one, Nat.zero_add])
          refine s_r hf (x_load sc3 (hf.eval rfl) (hs.cell .k1 (cntC_get s.pcs i (show ps[i].1 / 512 < lst + 1 by omega)))) ?_; clear hf a; intro a hf
          refine s_m hf rfl ?_; clear hf a; intro a hf
          refine s_v hf (x_bin (hf.eval rfl) (hf.eval rfl) (r_lt _ _ _ _)) ?_; clear hf a; intro a hf
          refine s_nil ?_
          refine then_n ?_
          refine c_cond hf rfl (fun hi5 => ?_) (fun hi5 => ?_)
          · simp only [decide_eq_true_eq, decide_eq_false_iff_not, Bool.not_eq_true', Bool.not_eq_false', Bool.not_eq_true, Int.not_lt, Int.not_le] at hi5
            have hfr2 := fre_put ho hip hfr (by rw [hpo1]; exact hi5)
            rw [hpi] at hfr2
            refine wp_seq ?_
            refine wp_region_lit ?_
            refine s_a hf rfl ?_; clear hf a; intro a hf
            refine s_nil ?_
            refine then_n ?_
            refine wp_block ?_
            refine c_loop (L0 := [(0, _), (3, _), (4, _), (5, _), (7, _), (8, _), (9, _), (10, _), (11, _), (12, _), (13, _), (52, _), (53, _), (54, _), (55, _), (56, _), (57, _), (58, _), (79, _), (80, _), (81, _), (82, _), (83, _), (84, _), (85, _), (86, _), (87, _), (88, _), (91, _), (92, _), (93, _), (94, _), (95, _), (96, _), (97, _), (98, _), (99, _), (100, _), (101, _), (102, _), (103, _), (104, _), (105, _), (106, _), (107, _), (108, _)]) (fun M w m => ∃ (j : Nat), M = [(14, .int .i64 (j : Int))] ∧ ps[i].2.2.length - j = m ∧ j ≤ ps[i].2.2.length ∧ St σ w (cb b7 139 (rpF ps[i]) :: cb b4 3 (cntC s.pcs i (lst + 1)) :: bb fb 5 (putP out (ps[i].1, ps[i].2.2.take j)) :: cb cb0 69 [.int .i64 csz, .slice ac secs.length cc, .int .i64 rest] :: rcell 97 p s ⟨.slice a1 s.now.length c1, .slice a2 s.dur.length c2, .slice (some ⟨ab, 0, none⟩) ps.length c3, .slice a4 s.sizes.length c4, ps⟩ :: slB 5 (.slice a1 s.now.length c1) s.now :: slB 5 (.slice a2 s.dur.length c2) s.dur :: sl 139 3 (.slice (some ⟨ab, 0, none⟩) ps.length c3) ps.length (ps.flatMap rpF) :: datA 5 ps :: sl 3 1 (.slice a4 s.sizes.length c4) s.sizes.length (szC s.sizes) :: R)) (M0 := [(14, .int .i64 0)]) (⟨0, rfl, rfl, Nat.zero_le _, by rw [putP_zero]; exact hs⟩) (hf.sub ⟨rfl, rfl, rfl, rfl, rfl, rfl, rfl, rfl, rfl, rfl, rfl, rfl, rfl, rfl, rfl, rfl, rfl, rfl, rfl, rfl, rfl, rfl, rfl, rfl, rfl, rfl, rfl, rfl, rfl, rfl, rfl, rfl, rfl, rfl, rfl, rfl, rfl, rfl, rfl, rfl, rfl, rfl, rfl, rfl, rfl, rfl, rfl, trivial⟩) ?_
            clear hf hs a
            rintro M m a w ⟨j, rfl, rfl, hj, hs⟩ hf
            have hol := hfr.1
            have hol2 : (putP out (ps[i].1, ps[i].2.2.take j)).length = out.length := putP_len _ _
            refine wp_seq ?_
            refine wp_seq ?_
            refine wp_region_lit ?_
            refine s_m hf rfl ?_; clear hf a; intro a hf
            refine s_v hf (x_fieldAddr fo139_2 (hf.eval rfl)) ?_; clear hf a; intro a hf
            refine s_r hf (x_load sc25 (hf.eval rfl) (by first | exact hs.cell .k0 rfl | exact hs.cell .k1 rfl | exact hs.cell .k2 rfl | exact hs.cell .k3 rfl | exact hs.cell .k4 rfl | exact hs.cell .k5 rfl)) ?_; clear hf a; intro a hf
            replace hf := hf.now (k := 111) (v' := .slice pa ps[i].2.2.length pk) rfl (by first | rfl | rw [← hpv] | (rw [← hpv]; rfl))
            refine s_v hf (x_len Tryd.underlying25 (hf.eval rfl)) ?_; clear hf a; intro a hf
            refine s_v hf (x_bin (hf.eval rfl) (hf.eval rfl) (r_lt _ _ _ _)) ?_; clear hf a; intro a hf
            refine s_m hf rfl ?_; clear hf a; intro a hf
            refine s_bool hf (k := 114) rfl (fun hg23_5 hf' => ?_) (fun hg23_5 hf' => ?_)
            · clear hf
              have hf := hf'
              clear hf'
              simp only [decide_eq_true_eq, decide_eq_false_iff_not] at hg23_5
              refine s_do hf (wanted_of hf rfl rfl rfl) (.value (x_fieldAddr fo139_1 (hf.eval rfl) _) ?_); clear hf a; intro a hf
              refine s_do hf (wanted_of hf rfl rfl rfl) (.value (x_load sc3 (hf.eval rfl) (by first | exact hs.cell .k0 rfl | exact hs.cell .k1 rfl | exact hs.cell .k2 rfl | exact hs.cell .k3 rfl | exact hs.cell .k4 rfl | exact hs.cell .k5 rfl)) ?_); clear hf a; intro a hf
              refine s_do hf (wanted_of hf rfl rfl rfl) (.value (x_move (hf.eval rfl) _) ?_); clear hf a; intro a hf
              refine s_do hf (wanted_of hf rfl rfl rfl) (.value (x_bin (hf.eval rfl) (hf.eval rfl) (r_addi _ (by omega) (by omega)) _) ?_); clear hf a; intro a hf
              refine s_do hf (wanted_of hf rfl rfl rfl) (.value (x_move (hf.eval rfl) _) ?_); clear hf a; intro a hf
              refine s_do hf (wanted_of hf rfl rfl rfl) (.value (x_bin (hf.eval rfl) (hf.eval rfl) (r_lt _ _ _ _) _) ?_); clear hf a; intro a hf
              refine s_v hf (x_pick_t (hf.eval rfl) (hf.eval rfl)) ?_; clear hf a; intro a hf
              refine s_nil ?_
              refine then_n ?_
              refine c_cond hf rfl (fun hi6 => ?_) (fun hi6 => ?_)
              · simp only [decide_eq_true_eq, decide_eq_false_iff_not, Bool.not_eq_true', Bool.not_eq_false', Bool.not_eq_true, Int.not_lt, Int.not_le] at hi6
                have hjl : j < ps[i].2.2.length := by omega
                have hpd2 := hs.datRd .k8 hlt
                rw [hpv] at hpd2
                obtain ⟨pa, rfl⟩ := hpd2.some (by omega)
                refine wp_skip ?_
                refine then_n ?_
                refine wp_seq ?_
                refine wp_block ?_
                refine c_draw hs (fun _ => True) [.held, .held, .read, .held, .held, .held, .read, .held, .held, .read, .held, .fin] (by kernel_rfl) (by kernel_rfl) (fun _ _ _ => trivial) ?_
                clear hs; intro w hs hC hw
                have hpd2 := hs.datRd .k8 hlt
                rw [hpv] at hpd2
                refine m_held hf rfl (fun w' _ => x_move (hf.eval rfl) w') ?_; clear hf a; intro a hf
                refine m_held hf rfl (fun w' _ => x_fieldAddr fo139_1 (hf.eval rfl) w') ?_; clear hf a; intro a hf
                refine m_read hf rfl (x_load sc3 (hf.eval rfl) (by first | exact hs.cell .k0 rfl | exact hs.cell .k1 rfl | exact hs.cell .k2 rfl | exact hs.cell .k3 rfl | exact hs.cell .k4 rfl | exact hs.cell .k5 rfl)) ?_; clear hf a; intro a hf
                refine m_held hf rfl (fun w' _ => x_move (hf.eval rfl) w') ?_; clear hf a; intro a hf
                refine m_held hf rfl (fun w' _ => x_bin (hf.eval rfl) (hf.eval rfl) (r_addi _ (by omega) (by omega)) w') ?_; clear hf a; intro a hf
                refine m_held hf rfl (fun w' _ => x_fieldAddr fo139_2 (hf.eval rfl) w') ?_; clear hf a; intro a hf
                refine m_read hf rfl (x_load sc25 (hf.eval rfl) (by first | exact hs.cell .k0 rfl | exact hs.cell .k1 rfl | exact hs.cell .k2 rfl | exact hs.cell .k3 rfl | exact hs.cell .k4 rfl | exact hs.cell .k5 rfl)) ?_; clear hf a; intro a hf
                replace hf := hf.now (k := 130) (v' := .slice (some pa) ps[i].2.2.length pk) rfl (by first | rfl | rw [← hpv] | (rw [← hpv]; rfl))
                refine m_held hf rfl (fun w' _ => x_move (hf.eval rfl) w') ?_; clear hf a; intro a hf
                refine m_held hf rfl (fun w' _ => x_indexAddr sl25 (hf.eval rfl) (hf.eval rfl) (by omega) (by omega) w') ?_; clear hf a; intro a hf
                refine m_read hf rfl (x_loadB (i := (j : Int)) sc5 hpd2 (hf.eval rfl) (by simpa using hjl)) ?_; clear hf a; intro a hf
                refine m_held hf rfl (fun w' _ => x_indexAddr sl25 (hf.eval rfl) (hf.eval rfl) (by omega) (by omega) w') ?_; clear hf a; intro a hf
                replace hf := hf.now (k := 134) (v' := .pointer (some ⟨fb, ps[i].1 + j, none⟩)) rfl (by rw [addr_add]; congr 3; omega)
                refine m_fin0 hf rfl (y_storeB (u := ps[i].2.2[j]) hs sc5 (hf.eval rfl) (hf.eval rfl) rfl .k2 (by omega) ?_); clear hf hs a; intro w hs; intro a hf
                refine blk_n ?_
                refine then_n ?_
                refine wp_region_lit ?_
                refine s_m hf rfl ?_; clear hf a; intro a hf
                refine s_v hf (x_bin (hf.eval rfl) (hf.eval rfl) (r_addi _ (by omega) (by omega))) ?_; clear hf a; intro a hf
                refine s_a hf rfl ?_; clear hf a; intro a hf
                refine s_nil ?_
                exact ⟨_, _, ⟨j + 1, rfl, rfl, by omega, by rw [← putP_step (by omega) hjl]; exact hs⟩, by omega, hf.sub ⟨rfl, rfl, rfl, rfl, rfl, rfl, rfl, rfl, rfl, rfl, rfl, rfl, rfl, rfl, rfl, rfl, rfl, rfl, rfl, rfl, rfl, rfl, rfl, rfl, rfl, rfl, rfl, rfl, rfl, rfl, rfl, rfl, rfl, rfl, rfl, rfl, rfl, rfl, rfl, rfl, rfl, rfl, rfl, rfl, rfl, rfl, rfl, trivial⟩⟩
              · simp only [decide_eq_true_eq, decide_eq_false_iff_not, Bool.not_eq_true', Bool.not_eq_false', Bool.not_eq_true, Int.not_lt, Int.not_le] at hi6
                rw [putP_stop (by omega)] at hs
                refine wp_exit ?_
                refine then_x ?_
                refine then_x ?_
                refine blk_x ?_
                refine then_n ?_
                refine c_draw hs (fun _ => True) [.held, .held, .read, .held, .held, .read, .held, .read, .held, .held, .fin] (by kernel_rfl) (by kernel_rfl) (fun _ _ _ => trivial) ?_
                clear hs; intro w hs hC hw
                refine m_held hf rfl (fun w' _ => x_move (hf.eval rfl) w') ?_; clear hf a; intro a hf
                refine m_held hf rfl (fun w' _ => x_fieldAddr fo139_0 (hf.eval rfl) w') ?_; clear hf a; intro a hf
                refine m_read hf rfl (x_load sc3 (hf.eval rfl) (by first | exact hs.cell .k0 rfl | exact hs.cell .k1 rfl | exact hs.cell .k2 rfl | exact hs.cell .k3 rfl | exact hs.cell .k4 rfl | exact hs.cell .k5 rfl)) ?_; clear hf a; intro a hf
                refine m_held hf rfl (fun w' _ => x_move (hf.eval rfl) w') ?_; clear hf a; intro a hf
                refine m_held hf rfl (fun w' _ => x_fieldAddr fo139_0 (hf.eval rfl) w') ?_; clear hf a; intro a hf
                refine m_read hf rfl (x_load sc3 (hf.eval rfl) (by first | exact hs.cell .k0 rfl | exact hs.cell .k1 rfl | exact hs.cell .k2 rfl | exact hs.cell .k3 rfl | exact hs.cell .k4 rfl | exact hs.cell .k5 rfl)) ?_; clear hf a; intro a hf
                refine m_held hf rfl (fun w' _ => x_indexAddr sl67 (hf.eval rfl) (hf.eval rfl) (by omega) (by omega) w') ?_; clear hf a; intro a hf
                replace hf := hf.now (k := 141) (v' := .pointer (some ⟨b4, ps[i].1 / 512, none⟩)) rfl (by rw [addr_add, Int.toNat_natCast, Nat.mul_one, Nat.zero_add])
                refine m_read hf rfl (x_load sc3 (hf.eval rfl) (hs.cell .k1 (cntC_get s.pcs i (show ps[i].1 / 512 < lst + 1 by omega)))) ?_; clear hf a; intro a hf
                refine m_held hf rfl (fun w' _ => x_bin (hf.eval rfl) (hf.eval rfl) (r_addi _ (by omega) (by omega)) w') ?_; clear hf a; intro a hf
                refine m_held hf rfl (fun w' _ => x_indexAddr sl67 (hf.eval rfl) (hf.eval rfl) (by omega) (by omega) w') ?_; clear hf a; intro a hf
                replace hf := hf.now (k := 144) (v' := .pointer (some ⟨b4, ps[i].1 / 512, none⟩)) rfl (by rw [addr_add, Int.toNat_natCast, Nat.mul_one, Nat.zero_add])
                refine m_fin0 hf rfl (y_store hs sc3 (hf.eval rfl) (hf.eval rfl) rfl .k1 (by rw [cntC_len]; omega) ?_); clear hf hs a; intro w hs; intro a hf
                rw [cntC_set s.pcs hip hpo1.symm (by omega)] at hs
                replace hs := hs.drop
                refine blk_n ?_
                refine then_n ?_
                refine wp_region_lit ?_
                refine s_m hf rfl ?_; clear hf a; intro a hf
                refine s_v hf (x_bin (hf.eval rfl) (hf.eval rfl) (r_addi _ (by omega) (by omega))) ?_; clear hf a; intro a hf
                refine s_a hf rfl ?_; clear hf a; intro a hf
                refine s_nil ?_
                exact ⟨_, _, ⟨i + 1, _, rfl, rfl, by omega, hfr2, hs⟩, by omega, hf.sub ⟨rfl, rfl, rfl, rfl, rfl, rfl, rfl, rfl, rfl, rfl, rfl, rfl, rfl, rfl, rfl, rfl, rfl, rfl, rfl, trivial⟩⟩
            · clear hf
              have hf := hf'
              clear hf'
              simp only [decide_eq_true_eq, decide_eq_false_iff_not] at hg23_5
              refine s_pass hf rfl rfl ?_; clear hf a; intro a hf
              refine s_pass hf rfl rfl ?_; clear hf a; intro a hf
              refine s_pass hf rfl rfl ?_; clear hf a; intro a hf
              refine s_pass hf rfl rfl ?_; clear hf a; intro a hf
              refine s_pass hf rfl rfl ?_; clear hf a; intro a hf
              refine s_pass hf rfl rfl ?_; clear hf a; intro a hf
              refine s_v hf (x_pick_f (hf.eval rfl) (hf.eval rfl)) ?_; clear hf a; intro a hf
              refine s_nil ?_
              refine then_n ?_
              refine c_cond_f hf rfl rfl ?_
              rw [putP_stop (by omega)] at hs
              refine wp_exit ?_
              refine then_x ?_
              refine then_x ?_
              refine blk_x ?_
              refine then_n ?_
              refine c_draw hs (fun _ => True) [.held, .held, .read, .held, .held, .read, .held, .read, .held, .held, .fin] (by kernel_rfl) (by kernel_rfl) (fun _ _ _ => trivial) ?_
              clear hs; intro w hs hC hw
              refine m_held hf rfl (fun w' _ => x_move (hf.eval rfl) w') ?_; clear hf a; intro a hf
              refine m_held hf rfl (fun w' _ => x_fieldAddr fo139_0 (hf.eval rfl) w') ?_; clear hf a; intro a hf
              refine m_read hf rfl (x_load sc3 (hf.eval rfl) (by first | exact hs.cell .k0 rfl | exact hs.cell .k1 rfl | exact hs.cell .k2 rfl | exact hs.cell .k3 rfl | exact hs.cell .k4 rfl | exact hs.cell .k5 rfl)) ?_; clear hf a; intro a hf
              refine m_held hf rfl (fun w' _ => x_move (hf.eval rfl) w') ?_; clear hf a; intro a hf
              refine m_held hf rfl (fun w' _ => x_fieldAddr fo139_0 (hf.eval rfl) w') ?_; clear hf a; intro a hf
              refine m_read hf rfl (x_load sc3 (hf.eval rfl) (by first | exact hs.cell .k0 rfl | exact hs.cell .k1 rfl | exact hs.cell .k2 rfl | exact hs.cell .k3 rfl | exact hs.cell .k4 rfl | exact hs.cell .k5 rfl)) ?_; clear hf a; intro a hf
              refine m_held hf rfl (fun w' _ => x_indexAddr sl67 (hf.eval rfl) (hf.eval rfl) (by omega) (by omega) w') ?_; clear hf a; intro a hf
              replace hf := hf.now (k := 141) (v' := .pointer (some ⟨b4, ps[i].1 / 512, none⟩)) rfl (by rw [addr_add, Int.toNat_natCast, Nat.mul_one, Nat.zero_add])
              refine m_read hf rfl (x_load sc3 (hf.eval rfl) (hs.cell .k1 (cntC_get s.pcs i (show ps[i].1 / 512 < lst + 1 by omega)))) ?_; clear hf a; intro a hf
              refine m_held hf rfl (fun w' _ => x_bin (hf.eval rfl) (hf.eval rfl) (r_addi _ (by omega) (by omega)) w') ?_; clear hf a; intro a hf
              refine m_held hf rfl (fun w' _ => x_indexAddr sl67 (hf.eval rfl) (hf.eval rfl) (by omega) (by omega) w') ?_; clear hf a; intro a hf
              replace hf := hf.now (k := 144) (v' := .pointer (some ⟨b4, ps[i].1 / 512, none⟩)) rfl (by rw [addr_add, Int.toNat_natCast, Nat.mul_one, Nat.zero_add])
              refine m_fin0 hf rfl (y_store hs sc3 (hf.eval rfl) (hf.eval rfl) rfl .k1 (by rw [cntC_len]; omega) ?_); clear hf hs a; intro w hs; intro a hf
              rw [cntC_set s.pcs hip hpo1.symm (by omega)] at hs
              replace hs := hs.drop
              refine blk_n ?_
              refine then_n ?_
              refine wp_region_lit ?_
              refine s_m hf rfl ?_; clear hf a; intro a hf
              refine s_v hf (x_bin (hf.eval rfl) (hf.eval rfl) (r_addi _ (by omega) (by omega))) ?_; clear hf a; intro a hf
              refine s_a hf rfl ?_; clear hf a; intro a hf
              refine s_nil ?_
              exact ⟨_, _, ⟨i + 1, _, rfl, rfl, by omega, hfr2, hs⟩, by omega, hf.sub ⟨rfl, rfl, rfl, rfl, rfl, rfl, rfl, rfl, rfl, rfl, rfl, rfl, rfl, rfl, rfl, rfl, rfl, rfl, rfl, trivial⟩⟩
          · simp only [decide_eq_true_eq, decide_eq_false_iff_not, Bool.not_eq_true', Bool.not_eq_false', Bool.not_eq_true, Int.not_lt, Int.not_le] at hi5
            have hfr2 := fre_skip hip hfr (by rw [hpo1]; exact hi5)
            refine wp_skip ?_
            refine then_n ?_
            refine c_draw hs (fun _ => True) [.held, .held, .read, .held, .held, .read, .held, .read, .held, .held, .fin] (by kernel_rfl) (by kernel_rfl) (fun _ _ _ => trivial) ?_
            clear hs; intro w hs hC hw
            refine m_held hf rfl (fun w' _ => x_move (hf.eval rfl) w') ?_; clear hf a; intro a hf
            refine m_held hf rfl (fun w' _ => x_fieldAddr fo139_0 (hf.eval rfl) w') ?_; clear hf a; intro a hf
            refine m_read hf rfl (x_load sc3 (hf.eval rfl) (by first | exact hs.cell .k0 rfl | exact hs.cell .k1 rfl | exact hs.cell .k2 rfl | exact hs.cell .k3 rfl | exact hs.cell .k4 rfl | exact hs.cell .k5 rfl)) ?_; clear hf a; intro a hf
            refine m_held hf rfl (fun w' _ => x_move (hf.eval rfl) w') ?_; clear hf a; intro a hf
            refine m_held hf rfl (fun w' _ => x_fieldAddr fo139_0 (hf.eval rfl) w') ?_; clear hf a; intro a hf
            refine m_read hf rfl (x_load sc3 (hf.eval rfl) (by first | exact hs.cell .k0 rfl | exact hs.cell .k1 rfl | exact hs.cell .k2 rfl | exact hs.cell .k3 rfl | exact hs.cell .k4 rfl | exact hs.cell .k5 rfl)) ?_; clear hf a; intro a hf
            refine m_held hf rfl (fun w' _ => x_indexAddr sl67 (hf.eval rfl) (hf.eval rfl) (by omega) (by omega) w') ?_; clear hf a; intro a hf
            replace hf := hf.now (k := 141) (v' := .pointer (some ⟨b4, ps[i].1 / 512, none⟩)) rfl (by rw [addr_add, Int.toNat_natCast, Nat.mul_one, Nat.zero_add])
            refine m_read hf rfl (x_load sc3 (hf.eval rfl) (hs.cell .k1 (cntC_get s.pcs i (show ps[i].1 / 512 < lst + 1 by omega)))) ?_; clear hf a; intro a hf
            refine m_held hf rfl (fun w' _ => x_bin (hf.eval rfl) (hf.eval rfl) (r_addi _ (by omega) (by omega)) w') ?_; clear hf a; intro a hf
            refine m_held hf rfl (fun w' _ => x_indexAddr sl67 (hf.eval rfl) (hf.eval rfl) (by omega) (by omega) w') ?_; clear hf a; intro a hf
            replace hf := hf.now (k := 144) (v' := .pointer (some ⟨b4, ps[i].1 / 512, none⟩)) rfl (by rw [addr_add, Int.toNat_natCast, Nat.mul_one, Nat.zero_add])
            refine m_fin0 hf rfl (y_store hs sc3 (hf.eval rfl) (hf.eval rfl) rfl .k1 (by rw [cntC_len]; omega) ?_); clear hf hs a; intro w hs; intro a hf
            rw [cntC_set s.pcs hip hpo1.symm (by omega)] at hs
            replace hs := hs.drop
            refine blk_n ?_
            refine then_n ?_
            refine wp_region_lit ?_
            refine s_m hf rfl ?_; clear hf a; intro a hf
            refine s_v hf (x_bin (hf.eval rfl) (hf.eval rfl) (r_addi _ (by omega) (by omega))) ?_; clear hf a; intro a hf
            refine s_a hf rfl ?_; clear hf a; intro a hf
            refine s_nil ?_
            exact ⟨_, _, ⟨i + 1, _, rfl, rfl, by omega, hfr2, hs⟩, by omega, hf.sub ⟨rfl, rfl, rfl, rfl, rfl, rfl, rfl, rfl, rfl, rfl, rfl, rfl, rfl, rfl, rfl, rfl, rfl, rfl, rfl, trivial⟩⟩
        · simp only [decide_eq_true_eq, decide_eq_false_iff_not, Bool.not_eq_true', Bool.not_eq_false', Bool.not_eq_true, Int.not_lt, Int.not_le] at hi4
          obtain rfl : i = s.pcs.length := by omega
          obtain rfl := fre_end hfr
          refine wp_exit ?_
          refine then_x ?_
          refine then_x ?_
          refine blk_x ?_
          refine then_n ?_
          refine wp_seq ?_
          refine wp_region_lit ?_
          refine s_m hf rfl ?_; clear hf a; intro a hf
          refine s_a hf rfl ?_; clear hf a; intro a hf
          refine s_nil ?_
          refine then_n ?_
          refine wp_ret ?_
          refine r_1 hf Tryd.results91 rfl ?_
          replace hs := (hs.lose .k0).ofBb (n := (outS s (csz, secs, rest)).length) rfl (by rw [outS_length]; omega)
          replace hs := St.give (L := _) (hs.lose .k1) .k6
          refine ⟨some ⟨fb, 0, none⟩, (outS s (csz, secs, rest)).length, by rw [outS_length], ?_⟩
          exact (refA_close (s := s) (x := ⟨.slice a1 s.now.length c1, .slice a2 s.dur.length c2, .slice a3 ps.length c3, .slice a4 s.sizes.length c4, ps⟩) hps hs).take .k1
theorem rCrash_spec (σ : Sig) (w : World) (R : List Asrt) (p : Nat) (s : DS) (hs : St σ w (refA 97 139 5 3 p s :: R)) (csz : Int) (ac : Option Addr) (cc : Nat) (secs : List Int) (rest : Int) (ho : DOk s) (hrc : RdyS iF 1 σ R (.slice ac secs.length cc) secs) (hsz : s.sizes.length ≤ 1099511600000) (hpc : s.pcs.length ≤ 1099511600000) : Calls Tryd.prog 72 #[.pointer (some ⟨p, 0, none⟩), .agg #[.int .i64 csz, .slice ac secs.length cc, .int .i64 rest]] w fun e w' => ∃ p', e = .returned (.tuple #[.pointer (some ⟨p', 0, none⟩), .int .i64 0]) ∧ St σ w' (refA 97 139 5 3 p' (newS (outS s (csz, secs, rest)) s.room) :: refA 97 139 5 3 p (kilS s) :: R) := by
  have hroom1 := ho.room1
  have hoN := outN_le ho (csz, secs, rest)
  refine c_enter (N := 24) Tryd.func72 rfl Tryd.ntmps72 (by simp) ?_
  intro a hf
  refine wp_seq ?_
  refine wp_region_lit ?_
  refine s_do hf rfl (y_box hs (hf.eval rfl) ?_); clear hf hs a; intro cb0 w hs a hf
  replace hs : St σ w (cb cb0 69 [.int .i64 csz, .slice ac secs.length cc, .int .i64 rest] :: _) := hs
  refine s_a hf rfl ?_; clear hf a; intro a hf
  refine s_a hf rfl ?_; clear hf a; intro a hf
  refine s_nil ?_
  refine then_n ?_
  refine wp_seq ?_
  refine wp_seq ?_
  refine wp_region_lit ?_
  refine s_m hf rfl ?_; clear hf a; intro a hf
  refine s_v hf (x_eqNil Tryd.underlying52 (hf.eval rfl) (hf.eval rfl)) ?_; clear hf a; intro a hf
  replace hf := hf.now (k := 8) (v' := .bool false) rfl rfl
  refine s_nil ?_
  refine then_n ?_
  refine c_cond_f hf rfl rfl ?_
  refine wp_skip ?_
  refine then_n ?_
  refine wp_seq ?_
  refine wp_region_lit ?_
  refine s_m hf rfl ?_; clear hf a; intro a hf
  refine s_r hf (x_loadBlk hs ag69 (hf.eval rfl) rfl .k0) ?_; clear hf a; intro a hf
  replace hs := hs.drop
  refine s_do hf rfl (y_call (hf.eval rfl) (hf.evals rfl) Tryd.call91 ((outcome_spec σ _ R p s hs csz ac cc secs rest ho hrc hsz hpc).mono ?_))
  rintro e w1 ⟨oa, oc, rfl, hs⟩
  refine ⟨_, rfl, ?_⟩; clear hf a; intro a hf
  refine s_a hf rfl ?_; clear hf a; intro a hf
  refine s_nil ?_
  refine then_n ?_
  refine wp_seq ?_
  refine wp_region_lit ?_
  replace hs := hs.take .k1
  obtain ⟨⟨v1, v2, v3, v4, ps⟩, hps, hs⟩ := refA_open hs
  dsimp only at hps hs
  obtain ⟨a1, c1, rfl, hc1⟩ := slB_shape (hs.take .k1)
  obtain ⟨a2, c2, rfl, hc2⟩ := slB_shape (hs.take .k2)
  obtain ⟨a3, c3, rfl⟩ := sl_shape (hs.take .k3)
  obtain ⟨a4, c4, rfl⟩ := sl_shape (hs.take .k5)
  refine s_m hf rfl ?_; clear hf a; intro a hf
  refine s_v hf (x_nilCheck (hf.eval rfl)) ?_; clear hf a; intro a hf
  refine s_v hf (x_fieldAddr fo97_7 (hf.eval rfl)) ?_; clear hf a; intro a hf
  refine s_do0 hf rfl (y_store hs sc4 (hf.eval rfl) (hf.eval rfl) rfl (by first | exact .k0 | exact .k1 | exact .k2 | exact .k3 | exact .k4 | exact .k5) (by simp) ?_); clear hf hs a; intro w hs a hf
  refine s_nil ?_
  refine then_n ?_
  refine wp_seq ?_
  refine c_draw hs (fun w' => w'.cell? ⟨p, 0, none⟩ = some (.int .i64 s.room) ∧ RdB (hp w') (.slice oa (outS s (csz, secs, rest)).length oc) (outS s (csz, secs, rest))) [.held, .held, .held, .held, .held, .held, .eff, .held, .eff, .held, .held] (by kernel_rfl) (by kernel_rfl) (fun w' _ hs => ⟨hs.cell (k := 0) .k0 rfl, hs.rdB .k6 fun h => slB_rd⟩) ?_
  clear hs; intro w hs hC hw
  refine m_held hf rfl (fun w' _ => x_move (hf.eval rfl) w') ?_; clear hf a; intro a hf
  refine m_held hf rfl (fun w' _ => x_nilCheck (hf.eval rfl) w') ?_; clear hf a; intro a hf
  refine m_held hf rfl (fun w' _ => x_fieldAddr fo97_0 (hf.eval rfl) w') ?_; clear hf a; intro a hf
  refine m_held hf rfl (fun w' hc => x_load sc3 (hf.eval rfl) hc.1) ?_; clear hf a; intro a hf
  refine m_held hf rfl (fun w' _ => x_move (hf.eval rfl) w') ?_; clear hf a; intro a hf
  refine m_held hf rfl (fun w' _ => x_move (hf.eval rfl) w') ?_; clear hf a; intro a hf
  refine m_eff hf rfl (y_call (hf.eval rfl) (hf.evals rfl) Tryd.call61 ((rclone_spec _ _ _ (outS s (csz, secs, rest)) hC.2 (by rw [outS_length]; omega)).mono ?_))
  rintro e w1 ⟨e1, fe1, rfl, hj⟩
  replace hs := hs.join hj
  simp only [List.cons_append, List.nil_append] at hs
  refine ⟨_, rfl, ⟨⟨hs.cell (k := 0) .k1 rfl, hs.rdB .k7 fun h => slB_rd⟩, ?_⟩⟩; clear hf a; intro a hf
  refine m_held hf rfl (fun w' hc => x_build (v := .agg #[.int .i64 s.room, .slice oa (outS s (csz, secs, rest)).length oc, .slice e1 (outS s (csz, secs, rest)).length fe1, .slice none 0 0, .slice none 0 0, .int .i64 0, .int .i64 (-1), .bool true]) (hf.parts rfl) (fun w => by kernel_rfl) _) ?_; clear hf a; intro a hf
  refine m_eff hf rfl (y_box hs (hf.eval rfl) ?_); clear hf hs a; intro p2 w hs; refine ⟨⟨hs.cell (k := 0) .k2 rfl, hs.rdB .k8 fun h => slB_rd⟩, ?_⟩; intro a hf
  refine m_held hf rfl (fun w' _ => x_assign (hf.eval rfl) w') ?_; clear hf a; intro a hf
  refine m_held hf rfl (fun w' _ => x_assign (hf.eval rfl) w') ?_; clear hf a; intro a hf
  refine m_nil ?_
  refine then_n ?_
  refine wp_ret ?_
  refine r_2 hf Tryd.results72 rfl rfl ?_
  refine ⟨p2, rfl, ?_⟩
  replace hs := (hs.take .k1).take .k8
  replace hs := hs.take .k2
  replace hs := St.give (L := _) (hs.emp (A := sl 139 3 (.slice none 0 0) 0 []) (fun _ => ⟨rfl, .inl ⟨rfl, rfl⟩⟩)) .k3
  replace hs := St.give (L := _) (hs.emp (A := datA 5 []) (fun _ => trivial)) .k4
  replace hs := St.give (L := _) (hs.emp (A := sl 3 1 (.slice none 0 0) 0 []) (fun _ => ⟨rfl, .inl ⟨rfl, rfl⟩⟩)) .k5
  replace hs := refA_close (s := newS (outS s (csz, secs, rest)) s.room) (x := ⟨.slice oa (outS s (csz, secs, rest)).length oc, .slice e1 (outS s (csz, secs, rest)).length fe1, .slice none 0 0, .slice none 0 0, []⟩) rfl hs
  replace hs := St.give (L := _) hs .k6
  exact (refA_close (s := kilS s) (x := ⟨.slice a1 s.now.length c1, .slice a2 s.dur.length c2, .slice a3 ps.length c3, .slice a4 s.sizes.length c4, ps⟩) hps hs).take .k1
end Go.Proofs.YtehakfbfjpolfaaDoor
