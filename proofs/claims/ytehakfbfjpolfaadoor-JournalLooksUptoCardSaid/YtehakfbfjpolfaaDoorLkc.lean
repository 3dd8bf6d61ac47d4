/- The body of a journal, read: restored. -/
import Derived.Test.YtehakfbfjpolfaaDoorVY
import Derived.Test.YtehakfbfjpolfaaDoorLkb
import Derived.Test.YtehakfbfjpolfaaDoorProg
import Derived.Test.YtehakfbfjpolfaaDoorFacts
set_option maxRecDepth 100000
set_option linter.all false
namespace Go.Proofs.YtehakfbfjpolfaaDoor
open Go Vw
theorem restored_spec (w0 : World) (hT : Tab 0 (hp w0)) (s : Sl) (hsu : s.2.2.2.2.2.2 < 4294967296) (hso : 0 ≤ s.2.2.1 ∧ s.2.2.1 ≤ 16777216) (hsc : 0 ≤ s.2.2.2.2.1 ∧ s.2.2.2.2.1 ≤ 4294967295) (a1 : Option Addr) (c1 : Nat) (body : List UInt8) (hr1 : RdB (hp w0) (.slice a1 body.length c1) body) (hl1 : body.length ≤ 16777216) : Calls Tryd.prog 101 #[.agg (slF s).toArray, .slice a1 body.length c1] w0 fun e w' => ∃ (v : Value) (ps : List Pt), e = .returned (.tuple #[v, .bool (bkOk s body)]) ∧ (bkOk s body = true → ps.map pcOf = bkL s body s.2.2.2.2.1.toNat) ∧ St ⟨w0, None_⟩ w' [sl 110 2 v ps.length (ps.flatMap pcF), datR ps] := by
  have hs := St.start w0 None_
  obtain ⟨N, hN⟩ : ∃ N : Nat, s.2.2.2.2.1 = (N : Int) := ⟨s.2.2.2.2.1.toNat, by omega⟩
  have hNt : s.2.2.2.2.1.toNat = N := by omega
  refine c_enter (N := 78) Tryd.func101 rfl Tryd.ntmps101 (by simp) ?_
  intro a hf
  refine wp_seq ?_
  refine wp_region_lit ?_
  refine s_do hf rfl (y_box hs (hf.eval rfl) ?_); clear hf hs a; intro b2 w hs a hf
  replace hs : St _ w (cb b2 24 (slF s) :: _) := hs
  refine s_a hf rfl ?_; clear hf a; intro a hf
  refine s_a hf rfl ?_; clear hf a; intro a hf
  refine s_nil ?_
  refine then_n ?_
  refine wp_seq ?_
  refine wp_seq ?_
  refine c_draw hs (fun w' => w'.cell? ⟨b2, 6, none⟩ = some (.int .u32 (s.2.2.2.2.2.2 : Int))) [.held, .eff, .held, .held, .held, .held, .held, .read, .held, .held, .held, .held, .held] (by kernel_rfl) (by kernel_rfl) (fun _ _ hs => hs.cell (k := 6) (.here _) rfl) ?_
  clear hs; intro w hs hC hw
  refine m_held hf rfl (fun w' _ => x_move (hf.eval rfl) w') ?_; clear hf a; intro a hf
  refine m_eff hf rfl (y_call (hf.eval rfl) (hf.evals rfl) Tryd.call42 ((sum_spec _ (hT.kept hs.kept) _ _ body (hs.oldB hr1) (by omega)).mono ?_))
  rintro e w1 ⟨rfl, hk⟩
  replace hs := hs.ext hk
  refine ⟨_, rfl, ⟨hs.cell (k := 6) (.here _) rfl, ?_⟩⟩; clear hf a; intro a hf
  refine m_held hf rfl (fun w' _ => x_fieldAddr fo24_6 (hf.eval rfl) w') ?_; clear hf a; intro a hf
  refine m_held hf rfl (fun w' hc => x_load sc22 (hf.eval rfl) hc) ?_; clear hf a; intro a hf
  refine m_held hf rfl (fun w' _ => x_bin (hf.eval rfl) (hf.eval rfl) (r_ne _ _ _ _) w') ?_; clear hf a; intro a hf
  refine m_held hf rfl (fun w' _ => x_move (hf.eval rfl) w') ?_; clear hf a; intro a hf
  refine s_bool hf (k := 17) rfl (fun hg1_5 hf' => ?_) (fun hg1_5 hf' => ?_)
  · clear hf
    have hf := hf'
    clear hf'
    first | simp only [decide_eq_true_eq, decide_eq_false_iff_not, Bool.not_eq_true', Bool.not_eq_false'] at hg1_5 | skip
    refine m_pass hf rfl rfl ?_; clear hf a; intro a hf
    refine m_pass hf rfl rfl ?_; clear hf a; intro a hf
    refine m_pass hf rfl rfl ?_; clear hf a; intro a hf
    refine m_pass hf rfl rfl ?_; clear hf a; intro a hf
    refine m_pass hf rfl rfl ?_; clear hf a; intro a hf
    refine m_pass hf rfl rfl ?_; clear hf a; intro a hf
    refine m_held hf rfl (fun w' _ => x_pick_t (hf.eval rfl) (hf.eval rfl) w') ?_; clear hf a; intro a hf
    refine m_nil ?_
    refine then_n ?_
    refine c_cond_t hf rfl rfl ?_
    refine wp_seq ?_
    refine wp_region_lit ?_
    refine s_a hf rfl ?_; clear hf a; intro a hf
    refine s_a hf rfl ?_; clear hf a; intro a hf
    refine s_nil ?_
    refine then_n ?_
    refine wp_ret ?_
    refine then_r ?_
    refine r_2 hf Tryd.results101 rfl rfl ?_
    have hno : bkOk s body = false := by unfold bkOk; first | (rw [decide_eq_false (show ¬ crcU 0 body = s.2.2.2.2.2.2 by omega)]; simp; done) | (rw [decide_eq_false (show ¬ 8 * s.2.2.2.2.1 ≤ (body.length : Int) by omega)]; simp; done)
    rw [hno]
    exact ⟨.slice none 0 0, [], rfl, fun h => (by cases h), ((St.keep [] _ hs).emp (A := datR []) (fun _ => trivial)).emp (fun _ => ⟨rfl, .inl ⟨rfl, rfl⟩⟩)⟩
  · clear hf
    have hf := hf'
    clear hf'
    first | simp only [decide_eq_true_eq, decide_eq_false_iff_not, Bool.not_eq_true', Bool.not_eq_false'] at hg1_5 | skip
    refine m_held hf (wanted_of hf rfl rfl rfl) (fun w' _ => x_fieldAddr fo24_4 (hf.eval rfl) w') ?_; clear hf a; intro a hf
    refine m_read hf (wanted_of hf rfl rfl rfl) (x_load sc3 (hf.eval rfl) (by first | exact hs.cell (.here _) rfl | exact hs.cell (.there _ (.here _)) rfl | exact hs.cell (.there _ (.there _ (.here _))) rfl | exact hs.cell (.there _ (.there _ (.there _ (.here _)))) rfl | exact hs.cell (.there _ (.there _ (.there _ (.there _ (.here _))))) rfl | exact hs.cell (.there _ (.there _ (.there _ (.there _ (.there _ (.here _)))))) rfl | exact hs.cell (.there _ (.there _ (.there _ (.there _ (.there _ (.there _ (.here _))))))) rfl | exact hs.cell (.there _ (.there _ (.there _ (.there _ (.there _ (.there _ (.there _ (.here _)))))))) rfl)) ?_; clear hf a; intro a hf
    refine m_held hf (wanted_of hf rfl rfl rfl) (fun w' _ => x_move (hf.eval rfl) w') ?_; clear hf a; intro a hf
    refine m_held hf (wanted_of hf rfl rfl rfl) (fun w' _ => x_len Tryd.underlying25 (hf.eval rfl) w') ?_; clear hf a; intro a hf
    refine m_held hf (wanted_of hf rfl rfl rfl) (fun w' _ => x_bin (hf.eval rfl) (hf.eval rfl) (r_quon _ (Int.natCast_nonneg _) (by decide) (by omega)) w') ?_; clear hf a; intro a hf
    refine m_held hf (wanted_of hf rfl rfl rfl) (fun w' _ => x_bin (hf.eval rfl) (hf.eval rfl) (r_gt _ _ _ _) w') ?_; clear hf a; intro a hf
    refine m_held hf rfl (fun w' _ => x_pick_f (hf.eval rfl) (hf.eval rfl) w') ?_; clear hf a; intro a hf
    refine m_nil ?_
    refine then_n ?_
    refine c_cond hf rfl (fun hi0 => ?_) (fun hi0 => ?_)
    · first | simp only [decide_eq_true_eq, decide_eq_false_iff_not, Bool.not_eq_true', Bool.not_eq_false'] at hi0 | skip
      refine wp_seq ?_
      refine wp_region_lit ?_
      refine s_a hf rfl ?_; clear hf a; intro a hf
      refine s_a hf rfl ?_; clear hf a; intro a hf
      refine s_nil ?_
      refine then_n ?_
      refine wp_ret ?_
      refine then_r ?_
      refine r_2 hf Tryd.results101 rfl rfl ?_
      have hno : bkOk s body = false := by unfold bkOk; first | (rw [decide_eq_false (show ¬ crcU 0 body = s.2.2.2.2.2.2 by omega)]; simp; done) | (rw [decide_eq_false (show ¬ 8 * s.2.2.2.2.1 ≤ (body.length : Int) by omega)]; simp; done)
      rw [hno]
      exact ⟨.slice none 0 0, [], rfl, fun h => (by cases h), ((St.keep [] _ hs).emp (A := datR []) (fun _ => trivial)).emp (fun _ => ⟨rfl, .inl ⟨rfl, rfl⟩⟩)⟩
    · first | simp only [decide_eq_true_eq, decide_eq_false_iff_not, Bool.not_eq_true', Bool.not_eq_false'] at hi0 | skip
      refine wp_skip ?_
      refine then_n ?_
      refine wp_seq ?_
      refine wp_region_lit ?_
      refine s_m hf rfl ?_; clear hf a; intro a hf
      refine s_do hf rfl (y_call (hf.eval rfl) (hf.evals rfl) Tryd.call48 ((newCursor_spec _ _ _ body (hs.oldB hr1) (by omega)).mono ?_))
      rintro e w1 ⟨p, rfl, hj⟩
      replace hs := hs.join hj
      simp only [List.cons_append, List.nil_append] at hs
      refine ⟨_, rfl, ?_⟩; clear hf a; intro a hf
      refine s_a hf rfl ?_; clear hf a; intro a hf
      refine s_nil ?_
      refine then_n ?_
      refine wp_seq ?_
      refine wp_region_lit ?_
      refine s_a hf rfl ?_; clear hf a; intro a hf
      refine s_nil ?_
      refine then_n ?_
      refine wp_seq ?_
      refine wp_region_lit ?_
      refine s_a hf rfl ?_; clear hf a; intro a hf
      refine s_nil ?_
      refine then_n ?_
      refine wp_seq ?_
      refine wp_region_lit ?_
      refine s_m hf rfl ?_; clear hf a; intro a hf
      refine s_v hf (x_fieldAddr fo24_4 (hf.eval rfl)) ?_; clear hf a; intro a hf
      refine s_r hf (x_load sc3 (hf.eval rfl) (by first | exact hs.cell (.here _) rfl | exact hs.cell (.there _ (.here _)) rfl | exact hs.cell (.there _ (.there _ (.here _))) rfl | exact hs.cell (.there _ (.there _ (.there _ (.here _)))) rfl | exact hs.cell (.there _ (.there _ (.there _ (.there _ (.here _))))) rfl | exact hs.cell (.there _ (.there _ (.there _ (.there _ (.there _ (.here _)))))) rfl | exact hs.cell (.there _ (.there _ (.there _ (.there _ (.there _ (.there _ (.here _))))))) rfl | exact hs.cell (.there _ (.there _ (.there _ (.there _ (.there _ (.there _ (.there _ (.here _)))))))) rfl)) ?_; clear hf a; intro a hf
      have hc1 : crcU 0 body = s.2.2.2.2.2.2 := by omega
      have hc2 : 8 * N ≤ body.length := by omega
      have hrl : (body.drop (8 * N)).length = body.length - 8 * N := by rw [List.length_drop]
      refine s_v hf (x_bin (hf.eval rfl) (hf.eval rfl) (r_muli _ (by omega) (by omega))) ?_; clear hf a; intro a hf
      replace hf := hf.now (k := 30) (v' := .int .i64 ((8 * N : Nat) : Int)) rfl (by rw [hN]; congr 1 <;> omega)
      refine s_v hf (x_slice_lo sl25 (hf.eval rfl) (hf.eval rfl)  (by omega) (by omega)) ?_; clear hf a; intro a hf
      have hrr : RdB (hp w0) (.slice (subA a1 c1 (8 * N) 1) (body.length - 8 * N) (c1 - 8 * N)) (body.drop (8 * N)) := by
        have h9 := RdB.sub (i := 8 * N) (j := body.length) hr1 rfl hc2 (Nat.le_refl _)
        rwa [List.take_of_length_le (by rw [hrl]; exact Nat.le_refl _)] at h9
      replace hf := hf.now (k := 31) (v' := .slice (subA a1 c1 (8 * N) 1) (body.drop (8 * N)).length (c1 - 8 * N)) rfl (by rw [hrl, Int.toNat_natCast])
      refine s_do hf rfl (y_call (hf.eval rfl) (hf.evals rfl) Tryd.call48 ((newCursor_spec _ _ _ (body.drop (8 * N)) (hs.oldB (by rw [hrl]; exact hrr)) (by omega)).mono ?_))
      rintro e w1 ⟨q, rfl, hj⟩
      replace hs := hs.join hj
      simp only [List.cons_append, List.nil_append] at hs
      refine ⟨_, rfl, ?_⟩; clear hf a; intro a hf
      refine s_a hf rfl ?_; clear hf a; intro a hf
      refine s_nil ?_
      refine then_n ?_
      refine wp_seq ?_
      refine wp_seq ?_
      refine wp_region_lit ?_
      refine s_v hf (x_fieldAddr fo24_4 (hf.eval rfl)) ?_; clear hf a; intro a hf
      refine s_r hf (x_load sc3 (hf.eval rfl) (by first | exact hs.cell (.here _) rfl | exact hs.cell (.there _ (.here _)) rfl | exact hs.cell (.there _ (.there _ (.here _))) rfl | exact hs.cell (.there _ (.there _ (.there _ (.here _)))) rfl | exact hs.cell (.there _ (.there _ (.there _ (.there _ (.here _))))) rfl | exact hs.cell (.there _ (.there _ (.there _ (.there _ (.there _ (.here _)))))) rfl | exact hs.cell (.there _ (.there _ (.there _ (.there _ (.there _ (.there _ (.here _))))))) rfl | exact hs.cell (.there _ (.there _ (.there _ (.there _ (.there _ (.there _ (.there _ (.here _)))))))) rfl)) ?_; clear hf a; intro a hf
      replace hf := hf.now (k := 34) (v' := .int .i64 (N : Int)) rfl (by rw [← hN])
      refine s_m hf rfl ?_; clear hf a; intro a hf
      refine s_nil ?_
      refine then_n ?_
      refine wp_block ?_
      replace hs := hs.take (A := cb b2 24 (slF s)) (by first | exact .here _ | exact .there _ (.here _) | exact .there _ (.there _ (.here _)) | exact .there _ (.there _ (.there _ (.here _))) | exact .there _ (.there _ (.there _ (.there _ (.here _)))) | exact .there _ (.there _ (.there _ (.there _ (.there _ (.here _))))) | exact .there _ (.there _ (.there _ (.there _ (.there _ (.there _ (.here _)))))) | exact .there _ (.there _ (.there _ (.there _ (.there _ (.there _ (.there _ (.here _))))))) | exact .there _ (.there _ (.there _ (.there _ (.there _ (.there _ (.there _ (.there _ (.here _)))))))) | exact .there _ (.there _ (.there _ (.there _ (.there _ (.there _ (.there _ (.there _ (.there _ (.here _))))))))) | exact .there _ (.there _ (.there _ (.there _ (.there _ (.there _ (.there _ (.there _ (.there _ (.there _ (.here _)))))))))) | exact .there _ (.there _ (.there _ (.there _ (.there _ (.there _ (.there _ (.there _ (.there _ (.there _ (.there _ (.here _))))))))))))
      replace hs := hs.emp (A := datR []) (fun _ => trivial)
      replace hs := hs.emp (A := sl 110 2 (.slice none 0 0) ([] : List Pt).length (([] : List Pt).flatMap pcF)) (fun _ => ⟨rfl, .inl ⟨rfl, rfl⟩⟩)
      replace hs := hs.take (A := curA 119 5 q (body.drop (8 * N)) 0 0) (by first | exact .here _ | exact .there _ (.here _) | exact .there _ (.there _ (.here _)) | exact .there _ (.there _ (.there _ (.here _))) | exact .there _ (.there _ (.there _ (.there _ (.here _)))) | exact .there _ (.there _ (.there _ (.there _ (.there _ (.here _))))) | exact .there _ (.there _ (.there _ (.there _ (.there _ (.there _ (.here _)))))) | exact .there _ (.there _ (.there _ (.there _ (.there _ (.there _ (.there _ (.here _))))))) | exact .there _ (.there _ (.there _ (.there _ (.there _ (.there _ (.there _ (.there _ (.here _)))))))) | exact .there _ (.there _ (.there _ (.there _ (.there _ (.there _ (.there _ (.there _ (.there _ (.here _))))))))) | exact .there _ (.there _ (.there _ (.there _ (.there _ (.there _ (.there _ (.there _ (.there _ (.there _ (.here _)))))))))) | exact .there _ (.there _ (.there _ (.there _ (.there _ (.there _ (.there _ (.there _ (.there _ (.there _ (.there _ (.here _))))))))))))
      replace hs := hs.take (A := curA 119 5 p body (8 * 0) 0) (by first | exact .here _ | exact .there _ (.here _) | exact .there _ (.there _ (.here _)) | exact .there _ (.there _ (.there _ (.here _))) | exact .there _ (.there _ (.there _ (.there _ (.here _)))) | exact .there _ (.there _ (.there _ (.there _ (.there _ (.here _))))) | exact .there _ (.there _ (.there _ (.there _ (.there _ (.there _ (.here _)))))) | exact .there _ (.there _ (.there _ (.there _ (.there _ (.there _ (.there _ (.here _))))))) | exact .there _ (.there _ (.there _ (.there _ (.there _ (.there _ (.there _ (.there _ (.here _)))))))) | exact .there _ (.there _ (.there _ (.there _ (.there _ (.there _ (.there _ (.there _ (.there _ (.here _))))))))) | exact .there _ (.there _ (.there _ (.there _ (.there _ (.there _ (.there _ (.there _ (.there _ (.there _ (.here _)))))))))) | exact .there _ (.there _ (.there _ (.there _ (.there _ (.there _ (.there _ (.there _ (.there _ (.there _ (.there _ (.here _))))))))))))
      refine c_loop (L0 := [(2, _), (6, _), (9, _), (34, _)]) (fun M w m => ∃ (i en t tat : Nat) (tb : Int) (v : Value) (ps : List Pt), M = [(7, v), (8, .int .i64 (en : Int)), (35, .int .i64 (i : Int))] ∧ N - i = m ∧ i ≤ N ∧ wlk s.2.2.1 body i = some (en, t) ∧ (tb = 0 → tat = t) ∧ (tb ≠ 0 → (body.drop (8 * N)).length < t) ∧ tat ≤ (body.drop (8 * N)).length ∧ ps.length = i ∧ (tb = 0 → ps.map pcOf = bkL s body i) ∧ St ⟨w0, None_⟩ w [curA 119 5 p body (8 * i) 0, curA 119 5 q (body.drop (8 * N)) tat tb, sl 110 2 v ps.length (ps.flatMap pcF), datR ps, cb b2 24 (slF s)]) (M0 := _) (⟨0, 0, 0, 0, 0, _, [], rfl, rfl, Nat.zero_le _, rfl, fun _ => rfl, fun h => absurd rfl h, Nat.zero_le _, rfl, fun _ => rfl, hs⟩) (hf.sub ⟨rfl, rfl, rfl, rfl, rfl, rfl, rfl, trivial⟩) ?_
      clear hf hs a
      rintro M m a w ⟨i, en, t, tat, tb, v, ps, rfl, rfl, hi, hwk, hx1, hx2, hx3, hpl, hpm, hs⟩ hf
      have hle := wlk_le hso.1 hwk
      refine wp_seq ?_
      refine wp_region_lit ?_
      refine s_v hf (x_bin (hf.eval rfl) (hf.eval rfl) (r_lt _ _ _ _)) ?_; clear hf a; intro a hf
      refine s_nil ?_
      refine then_n ?_
      refine wp_seq ?_
      refine c_cond hf rfl (fun hi1 => ?_) (fun hi1 => ?_)
      · simp only [decide_eq_true_eq, decide_eq_false_iff_not, Bool.not_eq_true', Bool.not_eq_false', Bool.not_eq_true, Int.not_lt, Int.not_le] at hi1
        have hlt : i < N := by omega
        have ha1 := rd32_lt body (8 * i)
        have ha2 := rd32_lt body (8 * i + 4)
        have hA : spA body i = rd32 body (8 * i) := rfl
        have hB : spN body i = rd32 body (8 * i + 4) := rfl
        refine wp_skip ?_
        refine then_n ?_
        refine wp_seq ?_
        refine wp_block ?_
        refine wp_seq ?_
        refine wp_region_lit ?_
        refine s_m hf rfl ?_; clear hf a; intro a hf
        refine s_do hf rfl (y_call (hf.eval rfl) (hf.evals rfl) Tryd.call50 ((u32_spec _ _ _ p body (8 * i) 0 hs (by omega) (by omega)).mono ?_))
        rintro e w1 ⟨rfl, hs⟩
        rw [nx4 (by omega)] at hs ⊢
        simp only [] at hs ⊢
        change St _ _ (curA 119 5 p body (8 * i + 4) 0 :: _) at hs
        refine ⟨_, rfl, ?_⟩; clear hf a; intro a hf
        refine s_m hf rfl ?_; clear hf a; intro a hf
        refine s_do hf rfl (y_call (hf.eval rfl) (hf.evals rfl) Tryd.call50 ((u32_spec _ _ _ p body (8 * i + 4) 0 hs (by omega) (by omega)).mono ?_))
        rintro e w1 ⟨rfl, hs⟩
        rw [nx4 (by omega)] at hs ⊢
        simp only [] at hs ⊢
        change St _ _ (curA 119 5 p body (8 * (i + 1)) 0 :: _) at hs
        refine ⟨_, rfl, ?_⟩; clear hf a; intro a hf
        refine s_a hf rfl ?_; clear hf a; intro a hf
        replace hf := hf.now (k := 10) (v' := .int .i64 ((spA body i : Nat) : Int)) rfl (rfl)
        refine s_a hf rfl ?_; clear hf a; intro a hf
        replace hf := hf.now (k := 11) (v' := .int .i64 ((spN body i : Nat) : Int)) rfl (rfl)
        refine s_nil ?_
        refine then_n ?_
        refine wp_seq ?_
        refine wp_seq ?_
        refine wp_region_lit ?_
        refine s_m hf rfl ?_; clear hf a; intro a hf
        refine s_v hf (x_bin (hf.eval rfl) (hf.eval rfl) (r_lt _ _ _ _)) ?_; clear hf a; intro a hf
        refine s_m hf rfl ?_; clear hf a; intro a hf
        refine s_bool hf (k := 43) rfl (fun hg10_2 hf' => ?_) (fun hg10_2 hf' => ?_)
        · clear hf
          have hf := hf'
          clear hf'
          first | simp only [decide_eq_true_eq, decide_eq_false_iff_not, Bool.not_eq_true', Bool.not_eq_false'] at hg10_2 | skip
          refine s_pass hf rfl rfl ?_; clear hf a; intro a hf
          refine s_pass hf rfl rfl ?_; clear hf a; intro a hf
          refine s_pass hf rfl rfl ?_; clear hf a; intro a hf
          refine s_v hf (x_pick_t (hf.eval rfl) (hf.eval rfl)) ?_; clear hf a; intro a hf
          refine s_m hf rfl ?_; clear hf a; intro a hf
          refine s_pass hf rfl rfl ?_; clear hf a; intro a hf
          refine s_pass hf rfl rfl ?_; clear hf a; intro a hf
          refine s_pass hf rfl rfl ?_; clear hf a; intro a hf
          refine s_pass hf rfl rfl ?_; clear hf a; intro a hf
          refine s_pass hf rfl rfl ?_; clear hf a; intro a hf
          refine s_pass hf rfl rfl ?_; clear hf a; intro a hf
          refine s_v hf (x_pick_t (hf.eval rfl) (hf.eval rfl)) ?_; clear hf a; intro a hf
          refine s_nil ?_
          refine then_n ?_
          refine c_cond_t hf rfl rfl ?_
          refine wp_seq ?_
          refine wp_region_lit ?_
          refine s_a hf rfl ?_; clear hf a; intro a hf
          refine s_a hf rfl ?_; clear hf a; intro a hf
          refine s_nil ?_
          refine then_n ?_
          refine wp_ret ?_
          refine then_r (blk_r (then_r (then_r (blk_r (then_r ?_)))))
          refine r_2 hf Tryd.results101 rfl rfl ?_
          have hw := wlk_none (wlk_bad hwk (show spN body i < 1 ∨ spA body i < en ∨ s.2.2.1 < ((spA body i + spN body i : Nat) : Int) by omega)) (N - (i + 1))
          rw [show i + 1 + (N - (i + 1)) = N by omega] at hw
          have hno : bkOk s body = false := by unfold bkOk; rw [hNt, hw]; simp
          rw [hno]
          exact ⟨.slice none 0 0, [], rfl, fun h => (by cases h), ((St.keep [] _ hs).emp (A := datR []) (fun _ => trivial)).emp (fun _ => ⟨rfl, .inl ⟨rfl, rfl⟩⟩)⟩
        · clear hf
          have hf := hf'
          clear hf'
          first | simp only [decide_eq_true_eq, decide_eq_false_iff_not, Bool.not_eq_true', Bool.not_eq_false'] at hg10_2 | skip
          refine s_do hf (wanted_of hf rfl rfl rfl) (.value (x_move (hf.eval rfl) _) ?_); clear hf a; intro a hf
          refine s_do hf (wanted_of hf rfl rfl rfl) (.value (x_move (hf.eval rfl) _) ?_); clear hf a; intro a hf
          refine s_do hf (wanted_of hf rfl rfl rfl) (.value (x_bin (hf.eval rfl) (hf.eval rfl) (r_lt _ _ _ _) _) ?_); clear hf a; intro a hf
          refine s_v hf (x_pick_f (hf.eval rfl) (hf.eval rfl)) ?_; clear hf a; intro a hf
          refine s_m hf rfl ?_; clear hf a; intro a hf
          refine s_bool hf (k := 48) rfl (fun hg10_7 hf' => ?_) (fun hg10_7 hf' => ?_)
          · clear hf
            have hf := hf'
            clear hf'
            first | simp only [decide_eq_true_eq, decide_eq_false_iff_not, Bool.not_eq_true', Bool.not_eq_false'] at hg10_7 | skip
            refine s_pass hf rfl rfl ?_; clear hf a; intro a hf
            refine s_pass hf rfl rfl ?_; clear hf a; intro a hf
            refine s_pass hf rfl rfl ?_; clear hf a; intro a hf
            refine s_pass hf rfl rfl ?_; clear hf a; intro a hf
            refine s_pass hf rfl rfl ?_; clear hf a; intro a hf
            refine s_pass hf rfl rfl ?_; clear hf a; intro a hf
            refine s_v hf (x_pick_t (hf.eval rfl) (hf.eval rfl)) ?_; clear hf a; intro a hf
            refine s_nil ?_
            refine then_n ?_
            refine c_cond_t hf rfl rfl ?_
            refine wp_seq ?_
            refine wp_region_lit ?_
            refine s_a hf rfl ?_; clear hf a; intro a hf
            refine s_a hf rfl ?_; clear hf a; intro a hf
            refine s_nil ?_
            refine then_n ?_
            refine wp_ret ?_
            refine then_r (blk_r (then_r (then_r (blk_r (then_r ?_)))))
            refine r_2 hf Tryd.results101 rfl rfl ?_
            have hw := wlk_none (wlk_bad hwk (show spN body i < 1 ∨ spA body i < en ∨ s.2.2.1 < ((spA body i + spN body i : Nat) : Int) by omega)) (N - (i + 1))
            rw [show i + 1 + (N - (i + 1)) = N by omega] at hw
            have hno : bkOk s body = false := by unfold bkOk; rw [hNt, hw]; simp
            rw [hno]
            exact ⟨.slice none 0 0, [], rfl, fun h => (by cases h), ((St.keep [] _ hs).emp (A := datR []) (fun _ => trivial)).emp (fun _ => ⟨rfl, .inl ⟨rfl, rfl⟩⟩)⟩
          · clear hf
            have hf := hf'
            clear hf'
            first | simp only [decide_eq_true_eq, decide_eq_false_iff_not, Bool.not_eq_true', Bool.not_eq_false'] at hg10_7 | skip
            refine s_do hf (wanted_of hf rfl rfl rfl) (.value (x_move (hf.eval rfl) _) ?_); clear hf a; intro a hf
            refine s_do hf (wanted_of hf rfl rfl rfl) (.value (x_move (hf.eval rfl) _) ?_); clear hf a; intro a hf
            refine s_do hf (wanted_of hf rfl rfl rfl) (.value (x_bin (hf.eval rfl) (hf.eval rfl) (r_addi _ (by omega) (by omega)) _) ?_); clear hf a; intro a hf
            refine s_do hf (wanted_of hf rfl rfl rfl) (.value (x_fieldAddr fo24_2 (hf.eval rfl) _) ?_); clear hf a; intro a hf
            refine s_do hf (wanted_of hf rfl rfl rfl) (.value (x_load sc3 (hf.eval rfl) (by first | exact hs.cell (.here _) rfl | exact hs.cell (.there _ (.here _)) rfl | exact hs.cell (.there _ (.there _ (.here _))) rfl | exact hs.cell (.there _ (.there _ (.there _ (.here _)))) rfl | exact hs.cell (.there _ (.there _ (.there _ (.there _ (.here _))))) rfl | exact hs.cell (.there _ (.there _ (.there _ (.there _ (.there _ (.here _)))))) rfl | exact hs.cell (.there _ (.there _ (.there _ (.there _ (.there _ (.there _ (.here _))))))) rfl | exact hs.cell (.there _ (.there _ (.there _ (.there _ (.there _ (.there _ (.there _ (.here _)))))))) rfl)) ?_); clear hf a; intro a hf
            refine s_do hf (wanted_of hf rfl rfl rfl) (.value (x_bin (hf.eval rfl) (hf.eval rfl) (r_gt _ _ _ _) _) ?_); clear hf a; intro a hf
            refine s_v hf (x_pick_f (hf.eval rfl) (hf.eval rfl)) ?_; clear hf a; intro a hf
            refine s_nil ?_
            refine then_n ?_
            refine c_cond hf rfl (fun hi2 => ?_) (fun hi2 => ?_)
            · first | simp only [decide_eq_true_eq, decide_eq_false_iff_not, Bool.not_eq_true', Bool.not_eq_false'] at hi2 | skip
              refine wp_seq ?_
              refine wp_region_lit ?_
              refine s_a hf rfl ?_; clear hf a; intro a hf
              refine s_a hf rfl ?_; clear hf a; intro a hf
              refine s_nil ?_
              refine then_n ?_
              refine wp_ret ?_
              refine then_r (blk_r (then_r (then_r (blk_r (then_r ?_)))))
              refine r_2 hf Tryd.results101 rfl rfl ?_
              have hw := wlk_none (wlk_bad hwk (show spN body i < 1 ∨ spA body i < en ∨ s.2.2.1 < ((spA body i + spN body i : Nat) : Int) by omega)) (N - (i + 1))
              rw [show i + 1 + (N - (i + 1)) = N by omega] at hw
              have hno : bkOk s body = false := by unfold bkOk; rw [hNt, hw]; simp
              rw [hno]
              exact ⟨.slice none 0 0, [], rfl, fun h => (by cases h), ((St.keep [] _ hs).emp (A := datR []) (fun _ => trivial)).emp (fun _ => ⟨rfl, .inl ⟨rfl, rfl⟩⟩)⟩
            · first | simp only [decide_eq_true_eq, decide_eq_false_iff_not, Bool.not_eq_true', Bool.not_eq_false'] at hi2 | skip
              have hnb : ¬ (spN body i < 1 ∨ spA body i < en ∨ s.2.2.1 < ((spA body i + spN body i : Nat) : Int)) := by omega
              refine wp_skip ?_
              refine then_n ?_
              refine wp_seq ?_
              refine wp_region_lit ?_
              refine s_m hf rfl ?_; clear hf a; intro a hf
              refine s_m hf rfl ?_; clear hf a; intro a hf
              refine s_v hf (x_bin (hf.eval rfl) (hf.eval rfl) (r_addi _ (by omega) (by omega))) ?_; clear hf a; intro a hf
              replace hf := hf.now (k := 58) (v' := .int .i64 ((spA body i + spN body i : Nat) : Int)) rfl (by congr 1)
              refine s_a hf rfl ?_; clear hf a; intro a hf
              refine s_nil ?_
              refine then_n ?_
              refine wp_region_lit ?_
              refine s_m hf rfl ?_; clear hf a; intro a hf
              refine s_m hf rfl ?_; clear hf a; intro a hf
              refine s_m hf rfl ?_; clear hf a; intro a hf
              refine s_m hf rfl ?_; clear hf a; intro a hf
              replace hs := hs.take (A := curA 119 5 q (body.drop (8 * N)) tat tb) (by first | exact .here _ | exact .there _ (.here _) | exact .there _ (.there _ (.here _)) | exact .there _ (.there _ (.there _ (.here _))) | exact .there _ (.there _ (.there _ (.there _ (.here _)))) | exact .there _ (.there _ (.there _ (.there _ (.there _ (.here _))))) | exact .there _ (.there _ (.there _ (.there _ (.there _ (.there _ (.here _)))))) | exact .there _ (.there _ (.there _ (.there _ (.there _ (.there _ (.there _ (.here _))))))) | exact .there _ (.there _ (.there _ (.there _ (.there _ (.there _ (.there _ (.there _ (.here _)))))))) | exact .there _ (.there _ (.there _ (.there _ (.there _ (.there _ (.there _ (.there _ (.there _ (.here _))))))))) | exact .there _ (.there _ (.there _ (.there _ (.there _ (.there _ (.there _ (.there _ (.there _ (.there _ (.here _)))))))))) | exact .there _ (.there _ (.there _ (.there _ (.there _ (.there _ (.there _ (.there _ (.there _ (.there _ (.there _ (.here _))))))))))))
              refine s_do hf rfl (y_call (hf.eval rfl) (hf.evals rfl) Tryd.call115 ((text_spec _ _ _ q (body.drop (8 * N)) tat tb ((spN body i : Nat) : Int) hs hx3 (by omega) (by omega)).mono ?_))
              rintro e w1 ⟨rfl, hs⟩
              obtain ⟨hy1, hy2, hy3⟩ := tx_step (rest := (body.drop (8 * N))) (tat := tat) (t := t) (n := spN body i) (tb := tb) hx1 hx2 hx3
              obtain ⟨TX, hTX⟩ : ∃ TX, TX = (((body.drop (8 * N)).drop tat).take (nextC (body.drop (8 * N)).length tat tb (spN body i : Nat)).2.2) := ⟨_, rfl⟩
              rw [← hTX] at hy1 ⊢
              have htl : TX.length ≤ body.length := by rw [hTX, List.length_take, List.length_drop, List.length_drop]; omega
              generalize (nextC (body.drop (8 * N)).length tat tb (spN body i : Nat)).1 = tat2 at hs hy1 hy2 hy3
              generalize (nextC (body.drop (8 * N)).length tat tb (spN body i : Nat)).2.1 = tb2 at hs hy1 hy2 hy3
              refine ⟨_, rfl, ?_⟩; clear hf a; intro a hf
              refine s_do hf rfl (y_strBytes (l := TX) hs Tryd.underlying9 Tryd.underlying25 Tryd.underlying5 (hf.eval rfl) ?_); clear hf hs a; intro v8 w hs hv a hf
              obtain ⟨a8, c8, hv8⟩ := hv
              replace hs := hs.take (A := datR ps) (by first | exact .here _ | exact .there _ (.here _) | exact .there _ (.there _ (.here _)) | exact .there _ (.there _ (.there _ (.here _))) | exact .there _ (.there _ (.there _ (.there _ (.here _)))) | exact .there _ (.there _ (.there _ (.there _ (.there _ (.here _))))) | exact .there _ (.there _ (.there _ (.there _ (.there _ (.there _ (.here _)))))) | exact .there _ (.there _ (.there _ (.there _ (.there _ (.there _ (.there _ (.here _))))))) | exact .there _ (.there _ (.there _ (.there _ (.there _ (.there _ (.there _ (.there _ (.here _)))))))) | exact .there _ (.there _ (.there _ (.there _ (.there _ (.there _ (.there _ (.there _ (.there _ (.here _))))))))) | exact .there _ (.there _ (.there _ (.there _ (.there _ (.there _ (.there _ (.there _ (.there _ (.there _ (.here _)))))))))) | exact .there _ (.there _ (.there _ (.there _ (.there _ (.there _ (.there _ (.there _ (.there _ (.there _ (.there _ (.here _))))))))))))
              replace hs := datR_push (p := ((spA body i, v8, TX) : Pt)) (hs.take (.there _ (.here _)) |>.take (.there _ (.here _)))
              refine s_r hf (x_build (v := .agg #[.int .i64 ((spA body i : Nat) : Int), v8]) (hf.parts rfl) (fun w => by rw [hv8]; kernel_rfl) _) ?_; clear hf a; intro a hf
              refine s_do hf rfl (y_lit (xs := [.tmp 65]) hs sl80 (hf.evals rfl) rfl (by simp [Value.cells]) (by decide) ?_); clear hf hs a; intro b7 w hs a hf
              refine s_do hf rfl (y_append (n := ps.length) (m := 1) (ys := [.int .i64 ((spA body i : Nat) : Int), v8]) hs sl80 (hf.eval rfl) (hf.eval rfl) (by first | exact .here _ | exact .there _ (.here _) | exact .there _ (.there _ (.here _)) | exact .there _ (.there _ (.there _ (.here _))) | exact .there _ (.there _ (.there _ (.there _ (.here _)))) | exact .there _ (.there _ (.there _ (.there _ (.there _ (.here _))))) | exact .there _ (.there _ (.there _ (.there _ (.there _ (.there _ (.here _)))))) | exact .there _ (.there _ (.there _ (.there _ (.there _ (.there _ (.there _ (.here _)))))))) (hs.rd (.here _) fun h hb => rd_rows hb rfl) (by rw [hv8]; simp [Value.oneCell']) (by omega) (by rw [maxLen_eq]; omega) ?_); clear hf hs a; intro v9 w hs hv a hf
              have hsq : (ps ++ [((spA body i, v8, TX) : Pt)]).length = ps.length + 1 := by simp
              have hsf : (ps ++ [((spA body i, v8, TX) : Pt)]).flatMap pcF = ps.flatMap pcF ++ [.int .i64 ((spA body i : Nat) : Int), v8] := by simp [pcF]
              rw [← hsq, ← hsf] at hs
              replace hs := hs.take (A := cb b2 24 (slF s)) (by first | exact .here _ | exact .there _ (.here _) | exact .there _ (.there _ (.here _)) | exact .there _ (.there _ (.there _ (.here _))) | exact .there _ (.there _ (.there _ (.there _ (.here _)))) | exact .there _ (.there _ (.there _ (.there _ (.there _ (.here _))))) | exact .there _ (.there _ (.there _ (.there _ (.there _ (.there _ (.here _)))))) | exact .there _ (.there _ (.there _ (.there _ (.there _ (.there _ (.there _ (.here _))))))) | exact .there _ (.there _ (.there _ (.there _ (.there _ (.there _ (.there _ (.there _ (.here _)))))))) | exact .there _ (.there _ (.there _ (.there _ (.there _ (.there _ (.there _ (.there _ (.there _ (.here _))))))))) | exact .there _ (.there _ (.there _ (.there _ (.there _ (.there _ (.there _ (.there _ (.there _ (.there _ (.here _)))))))))) | exact .there _ (.there _ (.there _ (.there _ (.there _ (.there _ (.there _ (.there _ (.there _ (.there _ (.there _ (.here _))))))))))))
              replace hs := hs.take (A := datR (ps ++ [((spA body i, v8, TX) : Pt)])) (by first | exact .here _ | exact .there _ (.here _) | exact .there _ (.there _ (.here _)) | exact .there _ (.there _ (.there _ (.here _))) | exact .there _ (.there _ (.there _ (.there _ (.here _)))) | exact .there _ (.there _ (.there _ (.there _ (.there _ (.here _))))) | exact .there _ (.there _ (.there _ (.there _ (.there _ (.there _ (.here _)))))) | exact .there _ (.there _ (.there _ (.there _ (.there _ (.there _ (.there _ (.here _))))))) | exact .there _ (.there _ (.there _ (.there _ (.there _ (.there _ (.there _ (.there _ (.here _)))))))) | exact .there _ (.there _ (.there _ (.there _ (.there _ (.there _ (.there _ (.there _ (.there _ (.here _))))))))) | exact .there _ (.there _ (.there _ (.there _ (.there _ (.there _ (.there _ (.there _ (.there _ (.there _ (.here _)))))))))) | exact .there _ (.there _ (.there _ (.there _ (.there _ (.there _ (.there _ (.there _ (.there _ (.there _ (.there _ (.here _))))))))))))
              replace hs := hs.take (A := sl 110 2 v9 (ps ++ [((spA body i, v8, TX) : Pt)]).length ((ps ++ [((spA body i, v8, TX) : Pt)]).flatMap pcF)) (by first | exact .here _ | exact .there _ (.here _) | exact .there _ (.there _ (.here _)) | exact .there _ (.there _ (.there _ (.here _))) | exact .there _ (.there _ (.there _ (.there _ (.here _)))) | exact .there _ (.there _ (.there _ (.there _ (.there _ (.here _))))) | exact .there _ (.there _ (.there _ (.there _ (.there _ (.there _ (.here _)))))) | exact .there _ (.there _ (.there _ (.there _ (.there _ (.there _ (.there _ (.here _))))))) | exact .there _ (.there _ (.there _ (.there _ (.there _ (.there _ (.there _ (.there _ (.here _)))))))) | exact .there _ (.there _ (.there _ (.there _ (.there _ (.there _ (.there _ (.there _ (.there _ (.here _))))))))) | exact .there _ (.there _ (.there _ (.there _ (.there _ (.there _ (.there _ (.there _ (.there _ (.there _ (.here _)))))))))) | exact .there _ (.there _ (.there _ (.there _ (.there _ (.there _ (.there _ (.there _ (.there _ (.there _ (.there _ (.here _))))))))))))
              replace hs := hs.take (A := curA 119 5 q (body.drop (8 * N)) tat2 tb2) (by first | exact .here _ | exact .there _ (.here _) | exact .there _ (.there _ (.here _)) | exact .there _ (.there _ (.there _ (.here _))) | exact .there _ (.there _ (.there _ (.there _ (.here _)))) | exact .there _ (.there _ (.there _ (.there _ (.there _ (.here _))))) | exact .there _ (.there _ (.there _ (.there _ (.there _ (.there _ (.here _)))))) | exact .there _ (.there _ (.there _ (.there _ (.there _ (.there _ (.there _ (.here _))))))) | exact .there _ (.there _ (.there _ (.there _ (.there _ (.there _ (.there _ (.there _ (.here _)))))))) | exact .there _ (.there _ (.there _ (.there _ (.there _ (.there _ (.there _ (.there _ (.there _ (.here _))))))))) | exact .there _ (.there _ (.there _ (.there _ (.there _ (.there _ (.there _ (.there _ (.there _ (.there _ (.here _)))))))))) | exact .there _ (.there _ (.there _ (.there _ (.there _ (.there _ (.there _ (.there _ (.there _ (.there _ (.there _ (.here _))))))))))))
              replace hs := hs.take (A := curA 119 5 p body (8 * (i + 1)) 0) (by first | exact .here _ | exact .there _ (.here _) | exact .there _ (.there _ (.here _)) | exact .there _ (.there _ (.there _ (.here _))) | exact .there _ (.there _ (.there _ (.there _ (.here _)))) | exact .there _ (.there _ (.there _ (.there _ (.there _ (.here _))))) | exact .there _ (.there _ (.there _ (.there _ (.there _ (.there _ (.here _)))))) | exact .there _ (.there _ (.there _ (.there _ (.there _ (.there _ (.there _ (.here _))))))) | exact .there _ (.there _ (.there _ (.there _ (.there _ (.there _ (.there _ (.there _ (.here _)))))))) | exact .there _ (.there _ (.there _ (.there _ (.there _ (.there _ (.there _ (.there _ (.there _ (.here _))))))))) | exact .there _ (.there _ (.there _ (.there _ (.there _ (.there _ (.there _ (.there _ (.there _ (.there _ (.here _)))))))))) | exact .there _ (.there _ (.there _ (.there _ (.there _ (.there _ (.there _ (.there _ (.there _ (.there _ (.there _ (.here _))))))))))))
              replace hs := St.keep [curA 119 5 p body (8 * (i + 1)) 0, curA 119 5 q (body.drop (8 * N)) tat2 tb2, sl 110 2 v9 (ps ++ [((spA body i, v8, TX) : Pt)]).length ((ps ++ [((spA body i, v8, TX) : Pt)]).flatMap pcF), datR (ps ++ [((spA body i, v8, TX) : Pt)]), cb b2 24 (slF s)] _ hs
              have hpm9 : tb2 = 0 → (ps ++ [((spA body i, v8, TX) : Pt)]).map pcOf = bkL s body (i + 1) := fun h => by
                obtain ⟨_, hz2, hz3⟩ := hy1 h
                rw [List.map_append, hpm hz3, bkL_succ, hNt]
                have htt : totB s.2.2.1 body i = t := by unfold totB; rw [hwk]
                rw [htt]
                show bkL s body i ++ [(spA body i, TX)] = _
                rw [hz2, List.drop_drop]
              refine s_a hf rfl ?_; clear hf a; intro a hf
              refine s_nil ?_
              refine blk_n ?_
              refine then_n ?_
              refine wp_region_lit ?_
              refine s_v hf (x_bin (hf.eval rfl) (hf.eval rfl) (r_addi _ (by omega) (by omega))) ?_; clear hf a; intro a hf
              refine s_m hf rfl ?_; clear hf a; intro a hf
              refine s_nil ?_
              exact ⟨_, _, ⟨i + 1, spA body i + spN body i, t + spN body i, tat2, tb2, _, (ps ++ [((spA body i, v8, TX) : Pt)]), rfl, rfl, by omega, wlk_good hwk hnb, fun h => (hy1 h).1, hy2, hy3, by simp [hpl], hpm9, hs⟩, by omega, hf.sub ⟨rfl, rfl, rfl, rfl, rfl, rfl, rfl, trivial⟩⟩
      · simp only [decide_eq_true_eq, decide_eq_false_iff_not, Bool.not_eq_true', Bool.not_eq_false', Bool.not_eq_true, Int.not_lt, Int.not_le] at hi1
        refine wp_exit ?_
        refine then_x ?_
        refine then_x ?_
        refine blk_x ?_
        refine then_n ?_
        refine wp_seq ?_
        refine wp_region_lit ?_
        refine s_m hf rfl ?_; clear hf a; intro a hf
        refine s_m hf rfl ?_; clear hf a; intro a hf
        obtain rfl : i = N := by omega
        have hyes : bkOk s body = decide (8 * i + t = body.length) := by unfold bkOk; rw [hNt, hwk, decide_eq_true hc1, decide_eq_true (show 8 * s.2.2.2.2.1 ≤ (body.length : Int) by omega)]; simp only [Bool.true_and]
        replace hs := hs.take (A := curA 119 5 q (body.drop (8 * i)) tat tb) (by first | exact .here _ | exact .there _ (.here _) | exact .there _ (.there _ (.here _)) | exact .there _ (.there _ (.there _ (.here _))) | exact .there _ (.there _ (.there _ (.there _ (.here _)))) | exact .there _ (.there _ (.there _ (.there _ (.there _ (.here _))))) | exact .there _ (.there _ (.there _ (.there _ (.there _ (.there _ (.here _)))))) | exact .there _ (.there _ (.there _ (.there _ (.there _ (.there _ (.there _ (.here _))))))) | exact .there _ (.there _ (.there _ (.there _ (.there _ (.there _ (.there _ (.there _ (.here _)))))))) | exact .there _ (.there _ (.there _ (.there _ (.there _ (.there _ (.there _ (.there _ (.there _ (.here _))))))))) | exact .there _ (.there _ (.there _ (.there _ (.there _ (.there _ (.there _ (.there _ (.there _ (.there _ (.here _)))))))))) | exact .there _ (.there _ (.there _ (.there _ (.there _ (.there _ (.there _ (.there _ (.there _ (.there _ (.there _ (.here _))))))))))))
        refine s_do hf rfl (y_call (hf.eval rfl) (hf.evals rfl) Tryd.call51 ((err_spec _ _ _ q (body.drop (8 * i)) tat tb hs hx3 (by omega)).mono ?_))
        rintro e w1 ⟨rfl, hs⟩
        refine ⟨_, rfl, ?_⟩; clear hf a; intro a hf
        refine s_v hf (x_bin (hf.eval rfl) (hf.eval rfl) (r_eq _ _ _ _)) ?_; clear hf a; intro a hf
        refine s_m hf rfl ?_; clear hf a; intro a hf
        refine s_bool hf (k := 73) rfl (fun hg15_4 hf' => ?_) (fun hg15_4 hf' => ?_)
        · clear hf
          have hf := hf'
          clear hf'
          first | simp only [decide_eq_true_eq, decide_eq_false_iff_not, Bool.not_eq_true', Bool.not_eq_false'] at hg15_4 | skip
          refine s_do hf (wanted_of hf rfl rfl rfl) (.value (x_move (hf.eval rfl) _) ?_); clear hf a; intro a hf
          refine s_do hf (wanted_of hf rfl rfl rfl) (y_call (hf.eval rfl) (hf.evals rfl) Tryd.call116 ((left_spec _ _ _ q (body.drop (8 * i)) tat tb hs hx3 (by omega)).mono ?_))
          rintro e w1 ⟨rfl, hs⟩
          refine ⟨_, rfl, ?_⟩; clear hf a; intro a hf
          refine s_do hf (wanted_of hf rfl rfl rfl) (.value (x_bin (hf.eval rfl) (hf.eval rfl) (r_eq _ _ _ _) _) ?_); clear hf a; intro a hf
          refine s_v hf (x_pick_t (hf.eval rfl) (hf.eval rfl)) ?_; clear hf a; intro a hf
          refine s_a hf rfl ?_; clear hf a; intro a hf
          refine s_a hf rfl ?_; clear hf a; intro a hf
          refine s_nil ?_
          refine then_n ?_
          refine wp_ret ?_
          refine r_2 hf Tryd.results101 rfl rfl ?_
          replace hs := hs.take (A := datR ps) (by first | exact .here _ | exact .there _ (.here _) | exact .there _ (.there _ (.here _)) | exact .there _ (.there _ (.there _ (.here _))) | exact .there _ (.there _ (.there _ (.there _ (.here _)))) | exact .there _ (.there _ (.there _ (.there _ (.there _ (.here _))))) | exact .there _ (.there _ (.there _ (.there _ (.there _ (.there _ (.here _)))))) | exact .there _ (.there _ (.there _ (.there _ (.there _ (.there _ (.there _ (.here _))))))) | exact .there _ (.there _ (.there _ (.there _ (.there _ (.there _ (.there _ (.there _ (.here _)))))))) | exact .there _ (.there _ (.there _ (.there _ (.there _ (.there _ (.there _ (.there _ (.there _ (.here _))))))))) | exact .there _ (.there _ (.there _ (.there _ (.there _ (.there _ (.there _ (.there _ (.there _ (.there _ (.here _)))))))))) | exact .there _ (.there _ (.there _ (.there _ (.there _ (.there _ (.there _ (.there _ (.there _ (.there _ (.there _ (.here _))))))))))))
          replace hs := hs.take (A := sl 110 2 v ps.length (ps.flatMap pcF)) (by first | exact .here _ | exact .there _ (.here _) | exact .there _ (.there _ (.here _)) | exact .there _ (.there _ (.there _ (.here _))) | exact .there _ (.there _ (.there _ (.there _ (.here _)))) | exact .there _ (.there _ (.there _ (.there _ (.there _ (.here _))))) | exact .there _ (.there _ (.there _ (.there _ (.there _ (.there _ (.here _)))))) | exact .there _ (.there _ (.there _ (.there _ (.there _ (.there _ (.there _ (.here _))))))) | exact .there _ (.there _ (.there _ (.there _ (.there _ (.there _ (.there _ (.there _ (.here _)))))))) | exact .there _ (.there _ (.there _ (.there _ (.there _ (.there _ (.there _ (.there _ (.there _ (.here _))))))))) | exact .there _ (.there _ (.there _ (.there _ (.there _ (.there _ (.there _ (.there _ (.there _ (.there _ (.here _)))))))))) | exact .there _ (.there _ (.there _ (.there _ (.there _ (.there _ (.there _ (.there _ (.there _ (.there _ (.there _ (.here _))))))))))))
          first | (have ht0 := hx1 hg15_4; have hq : bkOk s body = decide ((((body.drop (8 * i)).length : Int) - tat) = 0) := by rw [hyes]; exact decide_eq_decide.2 (by omega)) | (have hq : bkOk s body = false := by rw [hyes]; exact decide_eq_false (by have := hx2 hg15_4; omega))
          rw [hq]
          refine ⟨v, ps, rfl, fun h => ?_, St.keep [_, _] _ hs⟩
          first | (rw [hNt]; exact hpm hg15_4) | cases h
        · clear hf
          have hf := hf'
          clear hf'
          first | simp only [decide_eq_true_eq, decide_eq_false_iff_not, Bool.not_eq_true', Bool.not_eq_false'] at hg15_4 | skip
          refine s_pass hf rfl rfl ?_; clear hf a; intro a hf
          refine s_pass hf rfl rfl ?_; clear hf a; intro a hf
          refine s_pass hf rfl rfl ?_; clear hf a; intro a hf
          refine s_v hf (x_pick_f (hf.eval rfl) (hf.eval rfl)) ?_; clear hf a; intro a hf
          refine s_a hf rfl ?_; clear hf a; intro a hf
          refine s_a hf rfl ?_; clear hf a; intro a hf
          refine s_nil ?_
          refine then_n ?_
          refine wp_ret ?_
          refine r_2 hf Tryd.results101 rfl rfl ?_
          replace hs := hs.take (A := datR ps) (by first | exact .here _ | exact .there _ (.here _) | exact .there _ (.there _ (.here _)) | exact .there _ (.there _ (.there _ (.here _))) | exact .there _ (.there _ (.there _ (.there _ (.here _)))) | exact .there _ (.there _ (.there _ (.there _ (.there _ (.here _))))) | exact .there _ (.there _ (.there _ (.there _ (.there _ (.there _ (.here _)))))) | exact .there _ (.there _ (.there _ (.there _ (.there _ (.there _ (.there _ (.here _))))))) | exact .there _ (.there _ (.there _ (.there _ (.there _ (.there _ (.there _ (.there _ (.here _)))))))) | exact .there _ (.there _ (.there _ (.there _ (.there _ (.there _ (.there _ (.there _ (.there _ (.here _))))))))) | exact .there _ (.there _ (.there _ (.there _ (.there _ (.there _ (.there _ (.there _ (.there _ (.there _ (.here _)))))))))) | exact .there _ (.there _ (.there _ (.there _ (.there _ (.there _ (.there _ (.there _ (.there _ (.there _ (.there _ (.here _))))))))))))
          replace hs := hs.take (A := sl 110 2 v ps.length (ps.flatMap pcF)) (by first | exact .here _ | exact .there _ (.here _) | exact .there _ (.there _ (.here _)) | exact .there _ (.there _ (.there _ (.here _))) | exact .there _ (.there _ (.there _ (.there _ (.here _)))) | exact .there _ (.there _ (.there _ (.there _ (.there _ (.here _))))) | exact .there _ (.there _ (.there _ (.there _ (.there _ (.there _ (.here _)))))) | exact .there _ (.there _ (.there _ (.there _ (.there _ (.there _ (.there _ (.here _))))))) | exact .there _ (.there _ (.there _ (.there _ (.there _ (.there _ (.there _ (.there _ (.here _)))))))) | exact .there _ (.there _ (.there _ (.there _ (.there _ (.there _ (.there _ (.there _ (.there _ (.here _))))))))) | exact .there _ (.there _ (.there _ (.there _ (.there _ (.there _ (.there _ (.there _ (.there _ (.there _ (.here _)))))))))) | exact .there _ (.there _ (.there _ (.there _ (.there _ (.there _ (.there _ (.there _ (.there _ (.there _ (.there _ (.here _))))))))))))
          first | (have ht0 := hx1 hg15_4; have hq : bkOk s body = decide ((((body.drop (8 * i)).length : Int) - tat) = 0) := by rw [hyes]; exact decide_eq_decide.2 (by omega)) | (have hq : bkOk s body = false := by rw [hyes]; exact decide_eq_false (by have := hx2 hg15_4; omega))
          rw [hq]
          refine ⟨v, ps, rfl, fun h => ?_, St.keep [_, _] _ hs⟩
          first | (rw [hNt]; exact hpm hg15_4) | cases h

end Go.Proofs.YtehakfbfjpolfaaDoor
