/- What a file says: sealed. -/
import Derived.Test.YtehakfbfjpolfaaDoorVZ
import Derived.Test.YtehakfbfjpolfaaDoorLkf
import Derived.Test.YtehakfbfjpolfaaDoorProg
import Derived.Test.YtehakfbfjpolfaaDoorFacts
set_option maxRecDepth 100000
set_option linter.all false
namespace Go.Proofs.YtehakfbfjpolfaaDoor
open Go Vw
theorem putPsN (x : List UInt8) : putPs x [] = x := rfl
theorem slW0 (h : Heaplet) : sl 110 2 (.slice none 0 0) ([] : List Pt).length (([] : List Pt).flatMap pcF) h := ⟨rfl, .inl ⟨rfl, rfl⟩⟩
theorem lkP_len {l : List UInt8} (h : lkOk l = true) (hl : l.length ≤ 16777216) : (lkP l).length ≤ 16777216 := by
  unfold lkOk at h
  simp only [Bool.and_eq_true] at h
  have h2 := h.2
  have hf := (seGood h.1).flds.2.2.2.1
  have hb : (bodyS l).length ≤ l.length := by unfold bodyS; rw [List.length_take, List.length_drop]; omega
  unfold lkP
  revert h2 hf hb
  generalize sdS l = s
  generalize bodyS l = b
  intro hf h2 hb
  by_cases c3 : s.1 = 3
  · rw [if_pos c3]
    have hk : bkOk s b = true := by first | (rw [c3] at h2; simpa using h2) | (rw [c3] at hf; simpa using hf)
    have h9 := bk_cnt hk
    unfold bkL
    rw [List.length_map, List.length_range]
    omega
  · rw [if_neg c3]; simp
def fdF (v : Int × Int × Int) (cv bv : Value) : List Value := [.int .i64 v.1, .int .i64 v.2.1, .int .i64 v.2.2, cv, bv]

attribute [local irreducible] Vw.sl Vw.sdS Vw.bodyS Vw.zt Vw.spA Vw.spN Vw.totB Vw.bkL Vw.putPs Vw.putP Vw.upZ Vw.seOk Vw.bkOk Vw.spL Vw.lkZ Vw.lkP Vw.lkOk Vw.filZ Vw.segS Vw.seAt

theorem sealed_spec (w0 : World) (hT : Tab 0 (hp w0)) (a1 : Option Addr) (c1 : Nat) (l : List UInt8) (hr1 : RdB (hp w0) (.slice a1 l.length c1) l) (hl1 : l.length ≤ 16777216) : Calls Tryd.prog 81 #[.slice a1 l.length c1] w0 fun e w' => ∃ (v : Int × Int × Int) (cv bv : Value) (C : List UInt8) (ps : List Pt), e = .returned (.tuple #[.agg (fdF v cv bv).toArray, .bool (lkOk l)]) ∧ (lkOk l = true → v = ((sdS l).1, (sdS l).2.1, lkZ l) ∧ C = putPs (l.take (lkZ l).toNat) (lkP l) ∧ (∃ a c, cv = .slice a C.length c) ∧ ps.map pcOf = lkP l) ∧ St ⟨w0, None_⟩ w' [slB 5 cv C, sl 110 2 bv ps.length (ps.flatMap pcF), datR ps] := by
  have hs := St.start w0 None_
  have hcp := RdB.cap hr1
  refine c_enter (N := 132) Tryd.func81 rfl Tryd.ntmps81 (by simp) ?_
  intro a hf
  refine wp_seq ?_
  refine wp_region_lit ?_
  refine s_do hf rfl (y_alloc hs Tryd.zeroValue82 ?_); clear hf hs a; intro b2 w hs a hf
  change St _ _ (cb b2 82 (fdF (0, 0, 0) (.slice none 0 0) (.slice none 0 0)) :: _) at hs
  refine s_a hf rfl ?_; clear hf a; intro a hf
  refine s_nil ?_
  refine then_n ?_
  refine wp_seq ?_
  refine wp_region_lit ?_
  refine s_m hf rfl ?_; clear hf a; intro a hf
  refine s_v hf (x_len Tryd.underlying25 (hf.eval rfl)) ?_; clear hf a; intro a hf
  refine s_a hf rfl ?_; clear hf a; intro a hf
  refine s_nil ?_
  refine then_n ?_
  refine wp_seq ?_
  refine wp_region_lit ?_
  refine s_m hf rfl ?_; clear hf a; intro a hf
  refine s_v hf (x_bin (hf.eval rfl) (hf.eval rfl) (r_quon _ (by omega) (by omega) (by omega))) ?_; clear hf a; intro a hf
  refine s_v hf (x_bin (hf.eval rfl) (hf.eval rfl) (r_muli _ (by omega) (by omega))) ?_; clear hf a; intro a hf
  refine s_v hf (x_bin (hf.eval rfl) (hf.eval rfl) (r_subi _ (by omega) (by omega))) ?_; clear hf a; intro a hf
  refine s_a hf rfl ?_; clear hf a; intro a hf
  refine s_nil ?_
  refine then_n ?_
  refine wp_seq ?_
  refine wp_seq ?_
  refine wp_region_lit ?_
  refine s_m hf rfl ?_; clear hf a; intro a hf
  refine s_v hf (x_bin (hf.eval rfl) (hf.eval rfl) (r_lt _ _ _ _)) ?_; clear hf a; intro a hf
  refine s_nil ?_
  refine then_n ?_
  refine c_cond hf rfl (fun hi0 => ?_) (fun hi0 => ?_)
  · first | simp only [decide_eq_true_eq, decide_eq_false_iff_not, Bool.not_eq_true', Bool.not_eq_false'] at hi0 | skip
    refine wp_seq ?_
    refine wp_region_lit ?_
    refine s_r hf (x_build (v := .agg (fdF (0, 0, 0) (.slice none 0 0) (.slice none 0 0)).toArray) (hf.parts rfl) (fun w => by kernel_rfl) _) ?_; clear hf a; intro a hf
    replace hs := hs.take (A := cb b2 82 (fdF (0, 0, 0) (.slice none 0 0) (.slice none 0 0))) (by first | exact .here _ | exact .there _ (.here _) | exact .there _ (.there _ (.here _)) | exact .there _ (.there _ (.there _ (.here _))) | exact .there _ (.there _ (.there _ (.there _ (.here _)))) | exact .there _ (.there _ (.there _ (.there _ (.there _ (.here _))))) | exact .there _ (.there _ (.there _ (.there _ (.there _ (.there _ (.here _)))))) | exact .there _ (.there _ (.there _ (.there _ (.there _ (.there _ (.there _ (.here _))))))) | exact .there _ (.there _ (.there _ (.there _ (.there _ (.there _ (.there _ (.there _ (.here _)))))))) | exact .there _ (.there _ (.there _ (.there _ (.there _ (.there _ (.there _ (.there _ (.there _ (.here _))))))))) | exact .there _ (.there _ (.there _ (.there _ (.there _ (.there _ (.there _ (.there _ (.there _ (.there _ (.here _)))))))))) | exact .there _ (.there _ (.there _ (.there _ (.there _ (.there _ (.there _ (.there _ (.there _ (.there _ (.there _ (.here _))))))))))))
    refine s_do0 hf rfl (y_storeAgg (cs := fdF (0, 0, 0) (.slice none 0 0) (.slice none 0 0)) hs (n := 5) (by kernel_rfl) (hf.eval rfl) (hf.eval rfl) (by simp [Value.oneCell', fdF]) rfl rfl (.here _) ?_); clear hf hs a; intro w hs a hf
    refine s_a hf rfl ?_; clear hf a; intro a hf
    refine s_nil ?_
    refine then_n ?_
    refine wp_ret ?_
    refine then_r ?_
    refine r_2c hf Tryd.results81 rfl rfl hs ag82 rfl (.here _) ?_
    have hno : lkOk l = false := by
      unfold lkOk seOk
      first
      | (rw [decide_eq_false (show ¬ 512 ≤ l.length by omega)]; simp; done)
      | (rw [dec_ne hg6_2]; simp; done)
      | (rw [decide_eq_false (show ¬ (sdS l).2.2.1 ≤ 16777216 by omega)]; simp; done)
      | (rw [decide_eq_false (show ¬ (sdS l).2.2.2.1 ≤ 16777216 by omega)]; simp; done)
      | (rw [decide_eq_false (show ¬ (zt (l.drop (seAt l.length + 512)) : Int) = (l.length : Int) - (seAt l.length : Int) - 512 by omega)]; simp; done)
      | (rw [decide_eq_false (show ¬ filZ (sdS l).2.2.1 (sdS l).2.2.2.1 (sdS l).2.2.2.2.2.1 = (l.length : Int) by omega)]; simp; done)
      | (rw [decide_eq_true hc3, hi5]; simp; done)
    rw [hno]
    exact ⟨(0, 0, 0), .slice none 0 0, .slice none 0 0, [], [], rfl, fun h => (by cases h), ((((St.keep [] _ hs).emp (A := datR []) (fun _ => trivial)).emp (A := sl 110 2 (.slice none 0 0) ([] : List Pt).length (([] : List Pt).flatMap pcF)) slW0).emp (slB_nil _))⟩
  · first | simp only [decide_eq_true_eq, decide_eq_false_iff_not, Bool.not_eq_true', Bool.not_eq_false'] at hi0 | skip
    have hn5 : 512 ≤ l.length := by omega
    have hsa := seAt_le hn5
    have hsl := segS_len hn5
    replace hf := hf.now (k := 5) (v' := .int .i64 (((seAt l.length) : Nat) : Int)) rfl (by congr 1; unfold seAt; omega)
    refine wp_skip ?_
    refine then_n ?_
    refine wp_seq ?_
    refine wp_region_lit ?_
    refine s_m hf rfl ?_; clear hf a; intro a hf
    refine s_m hf rfl ?_; clear hf a; intro a hf
    refine s_m hf rfl ?_; clear hf a; intro a hf
    refine s_v hf (x_bin (hf.eval rfl) (hf.eval rfl) (r_addi _ (by omega) (by omega))) ?_; clear hf a; intro a hf
    refine s_v hf (x_slice sl25 (hf.eval rfl) (hf.eval rfl) (hf.eval rfl)  (by omega) (by omega) (by omega)) ?_; clear hf a; intro a hf
    replace hf := hf.now (k := 28) (v' := .slice (subA a1 c1 (seAt l.length) 1) (segS l).length (c1 - (seAt l.length))) rfl (by rw [hsl]; congr 1 <;> omega)
    refine s_do hf rfl (y_call (hf.eval rfl) (hf.evals rfl) Tryd.call16 ((decode_spec _ (hT.kept hs.kept) _ _ (segS l) (hs.oldB (seg_rd hr1 hn5)) (by omega)).mono ?_))
    rintro e w1 ⟨rfl, hk⟩
    replace hs := hs.ext hk
    refine ⟨_, rfl, ?_⟩; clear hf a; intro a hf
    refine s_m hf rfl ?_; clear hf a; intro a hf
    refine s_v hf (x_extract (hf.eval rfl) rfl) ?_; clear hf a; intro a hf
    refine s_v hf (x_extract (hf.eval rfl) rfl) ?_; clear hf a; intro a hf
    refine s_do hf rfl (y_alloc hs Tryd.zeroValue24 ?_); clear hf hs a; intro b6 w hs a hf
    change St _ _ (cb b6 24 (slF zSl) :: _) at hs
    refine s_do0 hf rfl (y_storeAgg (cs := slF (decV (segS l))) hs (n := 7) (by kernel_rfl) (hf.eval rfl) (hf.eval rfl) (by simp [Value.oneCell', slF]) rfl rfl (.here _) ?_); clear hf hs a; intro w hs a hf
    refine s_a hf rfl ?_; clear hf a; intro a hf
    refine s_nil ?_
    refine then_n ?_
    refine wp_seq ?_
    refine wp_seq ?_
    refine wp_region_lit ?_
    refine s_m hf rfl ?_; clear hf a; intro a hf
    refine s_v hf (x_bin (hf.eval rfl) (hf.eval rfl) (r_ne _ _ _ _)) ?_; clear hf a; intro a hf
    refine s_m hf rfl ?_; clear hf a; intro a hf
    refine s_bool hf (k := 34) rfl (fun hg6_2 hf' => ?_) (fun hg6_2 hf' => ?_)
    · clear hf
      have hf := hf'
      clear hf'
      first | simp only [decide_eq_true_eq, decide_eq_false_iff_not, Bool.not_eq_true', Bool.not_eq_false'] at hg6_2 | skip
      refine s_pass hf rfl rfl ?_; clear hf a; intro a hf
      refine s_pass hf rfl rfl ?_; clear hf a; intro a hf
      refine s_pass hf rfl rfl ?_; clear hf a; intro a hf
      refine s_pass hf rfl rfl ?_; clear hf a; intro a hf
      refine s_v hf (x_pick_t (hf.eval rfl) (hf.eval rfl)) ?_; clear hf a; intro a hf
      refine s_m hf rfl ?_; clear hf a; intro a hf
      refine s_pass hf rfl rfl ?_; clear hf a; intro a hf
      refine s_pass hf rfl rfl ?_; clear hf a; intro a hf
      refine s_pass hf rfl rfl ?_; clear hf a; intro a hf
      refine s_pass hf rfl rfl ?_; clear hf a; intro a hf
      refine s_v hf (x_pick_t (hf.eval rfl) (hf.eval rfl)) ?_; clear hf a; intro a hf
      refine s_m hf rfl ?_; clear hf a; intro a hf
      refine s_pass hf rfl rfl ?_; clear hf a; intro a hf
      refine s_pass hf rfl rfl ?_; clear hf a; intro a hf
      refine s_pass hf rfl rfl ?_; clear hf a; intro a hf
      refine s_pass hf rfl rfl ?_; clear hf a; intro a hf
      refine s_pass hf rfl rfl ?_; clear hf a; intro a hf
      refine s_pass hf rfl rfl ?_; clear hf a; intro a hf
      refine s_pass hf rfl rfl ?_; clear hf a; intro a hf
      refine s_pass hf rfl rfl ?_; clear hf a; intro a hf
      refine s_pass hf rfl rfl ?_; clear hf a; intro a hf
      refine s_pass hf rfl rfl ?_; clear hf a; intro a hf
      refine s_v hf (x_pick_t (hf.eval rfl) (hf.eval rfl)) ?_; clear hf a; intro a hf
      refine s_nil ?_
      refine then_n ?_
      refine c_cond_t hf rfl rfl ?_
      refine wp_seq ?_
      refine wp_region_lit ?_
      refine s_r hf (x_build (v := .agg (fdF (0, 0, 0) (.slice none 0 0) (.slice none 0 0)).toArray) (hf.parts rfl) (fun w => by kernel_rfl) _) ?_; clear hf a; intro a hf
      replace hs := hs.take (A := cb b2 82 (fdF (0, 0, 0) (.slice none 0 0) (.slice none 0 0))) (by first | exact .here _ | exact .there _ (.here _) | exact .there _ (.there _ (.here _)) | exact .there _ (.there _ (.there _ (.here _))) | exact .there _ (.there _ (.there _ (.there _ (.here _)))) | exact .there _ (.there _ (.there _ (.there _ (.there _ (.here _))))) | exact .there _ (.there _ (.there _ (.there _ (.there _ (.there _ (.here _)))))) | exact .there _ (.there _ (.there _ (.there _ (.there _ (.there _ (.there _ (.here _))))))) | exact .there _ (.there _ (.there _ (.there _ (.there _ (.there _ (.there _ (.there _ (.here _)))))))) | exact .there _ (.there _ (.there _ (.there _ (.there _ (.there _ (.there _ (.there _ (.there _ (.here _))))))))) | exact .there _ (.there _ (.there _ (.there _ (.there _ (.there _ (.there _ (.there _ (.there _ (.there _ (.here _)))))))))) | exact .there _ (.there _ (.there _ (.there _ (.there _ (.there _ (.there _ (.there _ (.there _ (.there _ (.there _ (.here _))))))))))))
      refine s_do0 hf rfl (y_storeAgg (cs := fdF (0, 0, 0) (.slice none 0 0) (.slice none 0 0)) hs (n := 5) (by kernel_rfl) (hf.eval rfl) (hf.eval rfl) (by simp [Value.oneCell', fdF]) rfl rfl (.here _) ?_); clear hf hs a; intro w hs a hf
      refine s_a hf rfl ?_; clear hf a; intro a hf
      refine s_nil ?_
      refine then_n ?_
      refine wp_ret ?_
      refine then_r ?_
      refine r_2c hf Tryd.results81 rfl rfl hs ag82 rfl (.here _) ?_
      have hno : lkOk l = false := by
        unfold lkOk seOk
        first
        | (rw [decide_eq_false (show ¬ 512 ≤ l.length by omega)]; simp; done)
        | (rw [dec_ne hg6_2]; simp; done)
        | (rw [decide_eq_false (show ¬ (sdS l).2.2.1 ≤ 16777216 by omega)]; simp; done)
        | (rw [decide_eq_false (show ¬ (sdS l).2.2.2.1 ≤ 16777216 by omega)]; simp; done)
        | (rw [decide_eq_false (show ¬ (zt (l.drop (seAt l.length + 512)) : Int) = (l.length : Int) - (seAt l.length : Int) - 512 by omega)]; simp; done)
        | (rw [decide_eq_false (show ¬ filZ (sdS l).2.2.1 (sdS l).2.2.2.1 (sdS l).2.2.2.2.2.1 = (l.length : Int) by omega)]; simp; done)
        | (rw [decide_eq_true hc3, hi5]; simp; done)
      rw [hno]
      exact ⟨(0, 0, 0), .slice none 0 0, .slice none 0 0, [], [], rfl, fun h => (by cases h), ((((St.keep [] _ hs).emp (A := datR []) (fun _ => trivial)).emp (A := sl 110 2 (.slice none 0 0) ([] : List Pt).length (([] : List Pt).flatMap pcF)) slW0).emp (slB_nil _))⟩
    · clear hf
      have hf := hf'
      clear hf'
      first | simp only [decide_eq_true_eq, decide_eq_false_iff_not, Bool.not_eq_true', Bool.not_eq_false'] at hg6_2 | skip
      have hdk := decE_yes hg6_2
      obtain ⟨d0, d1, d2, d3, d4, d5⟩ := dec_flds hdk
      rw [(dec_yes hdk).1] at hs
      have hsd : dsF (segS l) = sdS l := by unfold sdS; rfl
      rw [hsd] at d0 d1 d2 d3 d4 d5 hs
      refine s_do hf (wanted_of hf rfl rfl rfl) (.value (x_fieldAddr fo24_2 (hf.eval rfl) _) ?_); clear hf a; intro a hf
      refine s_do hf (wanted_of hf rfl rfl rfl) (.value (x_load sc3 (hf.eval rfl) (by first | exact hs.cell (.here _) rfl | exact hs.cell (.there _ (.here _)) rfl | exact hs.cell (.there _ (.there _ (.here _))) rfl | exact hs.cell (.there _ (.there _ (.there _ (.here _)))) rfl | exact hs.cell (.there _ (.there _ (.there _ (.there _ (.here _))))) rfl | exact hs.cell (.there _ (.there _ (.there _ (.there _ (.there _ (.here _)))))) rfl | exact hs.cell (.there _ (.there _ (.there _ (.there _ (.there _ (.there _ (.here _))))))) rfl | exact hs.cell (.there _ (.there _ (.there _ (.there _ (.there _ (.there _ (.there _ (.here _)))))))) rfl | exact hs.cell (.there _ (.there _ (.there _ (.there _ (.there _ (.there _ (.there _ (.there _ (.here _))))))))) rfl | exact hs.cell (.there _ (.there _ (.there _ (.there _ (.there _ (.there _ (.there _ (.there _ (.there _ (.here _)))))))))) rfl)) ?_); clear hf a; intro a hf
      refine s_do hf (wanted_of hf rfl rfl rfl) (y_call (hf.eval rfl) (hf.evals rfl) Tryd.call99 ((sized_spec _ _).mono ?_))
      rintro e w1 ⟨rfl, hw9⟩
      rw [hw9]
      clear hw9 w1
      refine ⟨_, rfl, ?_⟩; clear hf a; intro a hf
      refine s_do hf (wanted_of hf rfl rfl rfl) (.value (x_not (hf.eval rfl) _) ?_); clear hf a; intro a hf
      refine s_v hf (x_pick_f (hf.eval rfl) (hf.eval rfl)) ?_; clear hf a; intro a hf
      refine s_m hf rfl ?_; clear hf a; intro a hf
      refine s_bool hf (k := 40) rfl (fun hg6_8 hf' => ?_) (fun hg6_8 hf' => ?_)
      · clear hf
        have hf := hf'
        clear hf'
        first | simp only [decide_eq_true_eq, decide_eq_false_iff_not, Bool.not_eq_true', Bool.not_eq_false'] at hg6_8 | skip
        refine s_pass hf rfl rfl ?_; clear hf a; intro a hf
        refine s_pass hf rfl rfl ?_; clear hf a; intro a hf
        refine s_pass hf rfl rfl ?_; clear hf a; intro a hf
        refine s_pass hf rfl rfl ?_; clear hf a; intro a hf
        refine s_v hf (x_pick_t (hf.eval rfl) (hf.eval rfl)) ?_; clear hf a; intro a hf
        refine s_m hf rfl ?_; clear hf a; intro a hf
        refine s_pass hf rfl rfl ?_; clear hf a; intro a hf
        refine s_pass hf rfl rfl ?_; clear hf a; intro a hf
        refine s_pass hf rfl rfl ?_; clear hf a; intro a hf
        refine s_pass hf rfl rfl ?_; clear hf a; intro a hf
        refine s_pass hf rfl rfl ?_; clear hf a; intro a hf
        refine s_pass hf rfl rfl ?_; clear hf a; intro a hf
        refine s_pass hf rfl rfl ?_; clear hf a; intro a hf
        refine s_pass hf rfl rfl ?_; clear hf a; intro a hf
        refine s_pass hf rfl rfl ?_; clear hf a; intro a hf
        refine s_pass hf rfl rfl ?_; clear hf a; intro a hf
        refine s_v hf (x_pick_t (hf.eval rfl) (hf.eval rfl)) ?_; clear hf a; intro a hf
        refine s_nil ?_
        refine then_n ?_
        refine c_cond_t hf rfl rfl ?_
        refine wp_seq ?_
        refine wp_region_lit ?_
        refine s_r hf (x_build (v := .agg (fdF (0, 0, 0) (.slice none 0 0) (.slice none 0 0)).toArray) (hf.parts rfl) (fun w => by kernel_rfl) _) ?_; clear hf a; intro a hf
        replace hs := hs.take (A := cb b2 82 (fdF (0, 0, 0) (.slice none 0 0) (.slice none 0 0))) (by first | exact .here _ | exact .there _ (.here _) | exact .there _ (.there _ (.here _)) | exact .there _ (.there _ (.there _ (.here _))) | exact .there _ (.there _ (.there _ (.there _ (.here _)))) | exact .there _ (.there _ (.there _ (.there _ (.there _ (.here _))))) | exact .there _ (.there _ (.there _ (.there _ (.there _ (.there _ (.here _)))))) | exact .there _ (.there _ (.there _ (.there _ (.there _ (.there _ (.there _ (.here _))))))) | exact .there _ (.there _ (.there _ (.there _ (.there _ (.there _ (.there _ (.there _ (.here _)))))))) | exact .there _ (.there _ (.there _ (.there _ (.there _ (.there _ (.there _ (.there _ (.there _ (.here _))))))))) | exact .there _ (.there _ (.there _ (.there _ (.there _ (.there _ (.there _ (.there _ (.there _ (.there _ (.here _)))))))))) | exact .there _ (.there _ (.there _ (.there _ (.there _ (.there _ (.there _ (.there _ (.there _ (.there _ (.there _ (.here _))))))))))))
        refine s_do0 hf rfl (y_storeAgg (cs := fdF (0, 0, 0) (.slice none 0 0) (.slice none 0 0)) hs (n := 5) (by kernel_rfl) (hf.eval rfl) (hf.eval rfl) (by simp [Value.oneCell', fdF]) rfl rfl (.here _) ?_); clear hf hs a; intro w hs a hf
        refine s_a hf rfl ?_; clear hf a; intro a hf
        refine s_nil ?_
        refine then_n ?_
        refine wp_ret ?_
        refine then_r ?_
        refine r_2c hf Tryd.results81 rfl rfl hs ag82 rfl (.here _) ?_
        have hno : lkOk l = false := by
          unfold lkOk seOk
          first
          | (rw [decide_eq_false (show ¬ 512 ≤ l.length by omega)]; simp; done)
          | (rw [dec_ne hg6_2]; simp; done)
          | (rw [decide_eq_false (show ¬ (sdS l).2.2.1 ≤ 16777216 by omega)]; simp; done)
          | (rw [decide_eq_false (show ¬ (sdS l).2.2.2.1 ≤ 16777216 by omega)]; simp; done)
          | (rw [decide_eq_false (show ¬ (zt (l.drop (seAt l.length + 512)) : Int) = (l.length : Int) - (seAt l.length : Int) - 512 by omega)]; simp; done)
          | (rw [decide_eq_false (show ¬ filZ (sdS l).2.2.1 (sdS l).2.2.2.1 (sdS l).2.2.2.2.2.1 = (l.length : Int) by omega)]; simp; done)
          | (rw [decide_eq_true hc3, hi5]; simp; done)
        rw [hno]
        exact ⟨(0, 0, 0), .slice none 0 0, .slice none 0 0, [], [], rfl, fun h => (by cases h), ((((St.keep [] _ hs).emp (A := datR []) (fun _ => trivial)).emp (A := sl 110 2 (.slice none 0 0) ([] : List Pt).length (([] : List Pt).flatMap pcF)) slW0).emp (slB_nil _))⟩
      · clear hf
        have hf := hf'
        clear hf'
        first | simp only [decide_eq_true_eq, decide_eq_false_iff_not, Bool.not_eq_true', Bool.not_eq_false'] at hg6_8 | skip
        refine s_do hf (wanted_of hf rfl rfl rfl) (.value (x_fieldAddr fo24_3 (hf.eval rfl) _) ?_); clear hf a; intro a hf
        refine s_do hf (wanted_of hf rfl rfl rfl) (.value (x_load sc3 (hf.eval rfl) (by first | exact hs.cell (.here _) rfl | exact hs.cell (.there _ (.here _)) rfl | exact hs.cell (.there _ (.there _ (.here _))) rfl | exact hs.cell (.there _ (.there _ (.there _ (.here _)))) rfl | exact hs.cell (.there _ (.there _ (.there _ (.there _ (.here _))))) rfl | exact hs.cell (.there _ (.there _ (.there _ (.there _ (.there _ (.here _)))))) rfl | exact hs.cell (.there _ (.there _ (.there _ (.there _ (.there _ (.there _ (.here _))))))) rfl | exact hs.cell (.there _ (.there _ (.there _ (.there _ (.there _ (.there _ (.there _ (.here _)))))))) rfl | exact hs.cell (.there _ (.there _ (.there _ (.there _ (.there _ (.there _ (.there _ (.there _ (.here _))))))))) rfl | exact hs.cell (.there _ (.there _ (.there _ (.there _ (.there _ (.there _ (.there _ (.there _ (.there _ (.here _)))))))))) rfl)) ?_); clear hf a; intro a hf
        refine s_do hf (wanted_of hf rfl rfl rfl) (y_call (hf.eval rfl) (hf.evals rfl) Tryd.call99 ((sized_spec _ _).mono ?_))
        rintro e w1 ⟨rfl, hw9⟩
        rw [hw9]
        clear hw9 w1
        refine ⟨_, rfl, ?_⟩; clear hf a; intro a hf
        refine s_do hf (wanted_of hf rfl rfl rfl) (.value (x_not (hf.eval rfl) _) ?_); clear hf a; intro a hf
        refine s_v hf (x_pick_f (hf.eval rfl) (hf.eval rfl)) ?_; clear hf a; intro a hf
        refine s_m hf rfl ?_; clear hf a; intro a hf
        refine s_bool hf (k := 46) rfl (fun hg6_14 hf' => ?_) (fun hg6_14 hf' => ?_)
        · clear hf
          have hf := hf'
          clear hf'
          first | simp only [decide_eq_true_eq, decide_eq_false_iff_not, Bool.not_eq_true', Bool.not_eq_false'] at hg6_14 | skip
          refine s_pass hf rfl rfl ?_; clear hf a; intro a hf
          refine s_pass hf rfl rfl ?_; clear hf a; intro a hf
          refine s_pass hf rfl rfl ?_; clear hf a; intro a hf
          refine s_pass hf rfl rfl ?_; clear hf a; intro a hf
          refine s_pass hf rfl rfl ?_; clear hf a; intro a hf
          refine s_pass hf rfl rfl ?_; clear hf a; intro a hf
          refine s_pass hf rfl rfl ?_; clear hf a; intro a hf
          refine s_pass hf rfl rfl ?_; clear hf a; intro a hf
          refine s_pass hf rfl rfl ?_; clear hf a; intro a hf
          refine s_pass hf rfl rfl ?_; clear hf a; intro a hf
          refine s_v hf (x_pick_t (hf.eval rfl) (hf.eval rfl)) ?_; clear hf a; intro a hf
          refine s_nil ?_
          refine then_n ?_
          refine c_cond_t hf rfl rfl ?_
          refine wp_seq ?_
          refine wp_region_lit ?_
          refine s_r hf (x_build (v := .agg (fdF (0, 0, 0) (.slice none 0 0) (.slice none 0 0)).toArray) (hf.parts rfl) (fun w => by kernel_rfl) _) ?_; clear hf a; intro a hf
          replace hs := hs.take (A := cb b2 82 (fdF (0, 0, 0) (.slice none 0 0) (.slice none 0 0))) (by first | exact .here _ | exact .there _ (.here _) | exact .there _ (.there _ (.here _)) | exact .there _ (.there _ (.there _ (.here _))) | exact .there _ (.there _ (.there _ (.there _ (.here _)))) | exact .there _ (.there _ (.there _ (.there _ (.there _ (.here _))))) | exact .there _ (.there _ (.there _ (.there _ (.there _ (.there _ (.here _)))))) | exact .there _ (.there _ (.there _ (.there _ (.there _ (.there _ (.there _ (.here _))))))) | exact .there _ (.there _ (.there _ (.there _ (.there _ (.there _ (.there _ (.there _ (.here _)))))))) | exact .there _ (.there _ (.there _ (.there _ (.there _ (.there _ (.there _ (.there _ (.there _ (.here _))))))))) | exact .there _ (.there _ (.there _ (.there _ (.there _ (.there _ (.there _ (.there _ (.there _ (.there _ (.here _)))))))))) | exact .there _ (.there _ (.there _ (.there _ (.there _ (.there _ (.there _ (.there _ (.there _ (.there _ (.there _ (.here _))))))))))))
          refine s_do0 hf rfl (y_storeAgg (cs := fdF (0, 0, 0) (.slice none 0 0) (.slice none 0 0)) hs (n := 5) (by kernel_rfl) (hf.eval rfl) (hf.eval rfl) (by simp [Value.oneCell', fdF]) rfl rfl (.here _) ?_); clear hf hs a; intro w hs a hf
          refine s_a hf rfl ?_; clear hf a; intro a hf
          refine s_nil ?_
          refine then_n ?_
          refine wp_ret ?_
          refine then_r ?_
          refine r_2c hf Tryd.results81 rfl rfl hs ag82 rfl (.here _) ?_
          have hno : lkOk l = false := by
            unfold lkOk seOk
            first
            | (rw [decide_eq_false (show ¬ 512 ≤ l.length by omega)]; simp; done)
            | (rw [dec_ne hg6_2]; simp; done)
            | (rw [decide_eq_false (show ¬ (sdS l).2.2.1 ≤ 16777216 by omega)]; simp; done)
            | (rw [decide_eq_false (show ¬ (sdS l).2.2.2.1 ≤ 16777216 by omega)]; simp; done)
            | (rw [decide_eq_false (show ¬ (zt (l.drop (seAt l.length + 512)) : Int) = (l.length : Int) - (seAt l.length : Int) - 512 by omega)]; simp; done)
            | (rw [decide_eq_false (show ¬ filZ (sdS l).2.2.1 (sdS l).2.2.2.1 (sdS l).2.2.2.2.2.1 = (l.length : Int) by omega)]; simp; done)
            | (rw [decide_eq_true hc3, hi5]; simp; done)
          rw [hno]
          exact ⟨(0, 0, 0), .slice none 0 0, .slice none 0 0, [], [], rfl, fun h => (by cases h), ((((St.keep [] _ hs).emp (A := datR []) (fun _ => trivial)).emp (A := sl 110 2 (.slice none 0 0) ([] : List Pt).length (([] : List Pt).flatMap pcF)) slW0).emp (slB_nil _))⟩
        · clear hf
          have hf := hf'
          clear hf'
          first | simp only [decide_eq_true_eq, decide_eq_false_iff_not, Bool.not_eq_true', Bool.not_eq_false'] at hg6_14 | skip
          refine s_do hf (wanted_of hf rfl rfl rfl) (.value (x_move (hf.eval rfl) _) ?_); clear hf a; intro a hf
          refine s_do hf (wanted_of hf rfl rfl rfl) (.value (x_move (hf.eval rfl) _) ?_); clear hf a; intro a hf
          refine s_do hf (wanted_of hf rfl rfl rfl) (.value (x_bin (hf.eval rfl) (hf.eval rfl) (r_addi _ (by omega) (by omega)) _) ?_); clear hf a; intro a hf
          refine s_do hf (wanted_of hf rfl rfl rfl) (.value (x_slice_lo sl25 (hf.eval rfl) (hf.eval rfl)  (by omega) (by omega) _) ?_); clear hf a; intro a hf
          replace hf := hf.now (k := 50) (v' := .slice (subA a1 c1 ((seAt l.length) + 512) 1) (l.drop ((seAt l.length) + 512)).length (c1 - ((seAt l.length) + 512))) rfl (by rw [List.length_drop]; congr 1 <;> omega)
          refine s_do hf (wanted_of hf rfl rfl rfl) (y_call (hf.eval rfl) (hf.evals rfl) Tryd.call80 ((tail_spec _ _ _ (l.drop ((seAt l.length) + 512)) (hs.oldB (tl_rd hr1 hsa)) (by rw [List.length_drop]; omega)).mono ?_))
          rintro e w1 ⟨rfl, hk⟩
          replace hs := hs.ext hk
          refine ⟨_, rfl, ?_⟩; clear hf a; intro a hf
          refine s_do hf (wanted_of hf rfl rfl rfl) (.value (x_move (hf.eval rfl) _) ?_); clear hf a; intro a hf
          refine s_do hf (wanted_of hf rfl rfl rfl) (.value (x_move (hf.eval rfl) _) ?_); clear hf a; intro a hf
          refine s_do hf (wanted_of hf rfl rfl rfl) (.value (x_bin (hf.eval rfl) (hf.eval rfl) (r_subi _ (by omega) (by omega)) _) ?_); clear hf a; intro a hf
          refine s_do hf (wanted_of hf rfl rfl rfl) (.value (x_bin (hf.eval rfl) (hf.eval rfl) (r_subi _ (by omega) (by omega)) _) ?_); clear hf a; intro a hf
          refine s_do hf (wanted_of hf rfl rfl rfl) (.value (x_bin (hf.eval rfl) (hf.eval rfl) (r_ne _ _ _ _) _) ?_); clear hf a; intro a hf
          refine s_v hf (x_pick_f (hf.eval rfl) (hf.eval rfl)) ?_; clear hf a; intro a hf
          refine s_nil ?_
          refine then_n ?_
          refine c_cond hf rfl (fun hi1 => ?_) (fun hi1 => ?_)
          · first | simp only [decide_eq_true_eq, decide_eq_false_iff_not, Bool.not_eq_true', Bool.not_eq_false'] at hi1 | skip
            refine wp_seq ?_
            refine wp_region_lit ?_
            refine s_r hf (x_build (v := .agg (fdF (0, 0, 0) (.slice none 0 0) (.slice none 0 0)).toArray) (hf.parts rfl) (fun w => by kernel_rfl) _) ?_; clear hf a; intro a hf
            replace hs := hs.take (A := cb b2 82 (fdF (0, 0, 0) (.slice none 0 0) (.slice none 0 0))) (by first | exact .here _ | exact .there _ (.here _) | exact .there _ (.there _ (.here _)) | exact .there _ (.there _ (.there _ (.here _))) | exact .there _ (.there _ (.there _ (.there _ (.here _)))) | exact .there _ (.there _ (.there _ (.there _ (.there _ (.here _))))) | exact .there _ (.there _ (.there _ (.there _ (.there _ (.there _ (.here _)))))) | exact .there _ (.there _ (.there _ (.there _ (.there _ (.there _ (.there _ (.here _))))))) | exact .there _ (.there _ (.there _ (.there _ (.there _ (.there _ (.there _ (.there _ (.here _)))))))) | exact .there _ (.there _ (.there _ (.there _ (.there _ (.there _ (.there _ (.there _ (.there _ (.here _))))))))) | exact .there _ (.there _ (.there _ (.there _ (.there _ (.there _ (.there _ (.there _ (.there _ (.there _ (.here _)))))))))) | exact .there _ (.there _ (.there _ (.there _ (.there _ (.there _ (.there _ (.there _ (.there _ (.there _ (.there _ (.here _))))))))))))
            refine s_do0 hf rfl (y_storeAgg (cs := fdF (0, 0, 0) (.slice none 0 0) (.slice none 0 0)) hs (n := 5) (by kernel_rfl) (hf.eval rfl) (hf.eval rfl) (by simp [Value.oneCell', fdF]) rfl rfl (.here _) ?_); clear hf hs a; intro w hs a hf
            refine s_a hf rfl ?_; clear hf a; intro a hf
            refine s_nil ?_
            refine then_n ?_
            refine wp_ret ?_
            refine then_r ?_
            refine r_2c hf Tryd.results81 rfl rfl hs ag82 rfl (.here _) ?_
            have hno : lkOk l = false := by
              unfold lkOk seOk
              first
              | (rw [decide_eq_false (show ¬ 512 ≤ l.length by omega)]; simp; done)
              | (rw [dec_ne hg6_2]; simp; done)
              | (rw [decide_eq_false (show ¬ (sdS l).2.2.1 ≤ 16777216 by omega)]; simp; done)
              | (rw [decide_eq_false (show ¬ (sdS l).2.2.2.1 ≤ 16777216 by omega)]; simp; done)
              | (rw [decide_eq_false (show ¬ (zt (l.drop (seAt l.length + 512)) : Int) = (l.length : Int) - (seAt l.length : Int) - 512 by omega)]; simp; done)
              | (rw [decide_eq_false (show ¬ filZ (sdS l).2.2.1 (sdS l).2.2.2.1 (sdS l).2.2.2.2.2.1 = (l.length : Int) by omega)]; simp; done)
              | (rw [decide_eq_true hc3, hi5]; simp; done)
            rw [hno]
            exact ⟨(0, 0, 0), .slice none 0 0, .slice none 0 0, [], [], rfl, fun h => (by cases h), ((((St.keep [] _ hs).emp (A := datR []) (fun _ => trivial)).emp (A := sl 110 2 (.slice none 0 0) ([] : List Pt).length (([] : List Pt).flatMap pcF)) slW0).emp (slB_nil _))⟩
          · first | simp only [decide_eq_true_eq, decide_eq_false_iff_not, Bool.not_eq_true', Bool.not_eq_false'] at hi1 | skip
            refine wp_skip ?_
            refine then_n ?_
            refine wp_seq ?_
            refine wp_region_lit ?_
            refine s_v hf (x_fieldAddr fo24_2 (hf.eval rfl)) ?_; clear hf a; intro a hf
            refine s_r hf (x_load sc3 (hf.eval rfl) (by first | exact hs.cell (.here _) rfl | exact hs.cell (.there _ (.here _)) rfl | exact hs.cell (.there _ (.there _ (.here _))) rfl | exact hs.cell (.there _ (.there _ (.there _ (.here _)))) rfl | exact hs.cell (.there _ (.there _ (.there _ (.there _ (.here _))))) rfl | exact hs.cell (.there _ (.there _ (.there _ (.there _ (.there _ (.here _)))))) rfl | exact hs.cell (.there _ (.there _ (.there _ (.there _ (.there _ (.there _ (.here _))))))) rfl | exact hs.cell (.there _ (.there _ (.there _ (.there _ (.there _ (.there _ (.there _ (.here _)))))))) rfl | exact hs.cell (.there _ (.there _ (.there _ (.there _ (.there _ (.there _ (.there _ (.there _ (.here _))))))))) rfl | exact hs.cell (.there _ (.there _ (.there _ (.there _ (.there _ (.there _ (.there _ (.there _ (.there _ (.here _)))))))))) rfl)) ?_; clear hf a; intro a hf
            refine s_v hf (x_fieldAddr fo24_3 (hf.eval rfl)) ?_; clear hf a; intro a hf
            refine s_r hf (x_load sc3 (hf.eval rfl) (by first | exact hs.cell (.here _) rfl | exact hs.cell (.there _ (.here _)) rfl | exact hs.cell (.there _ (.there _ (.here _))) rfl | exact hs.cell (.there _ (.there _ (.there _ (.here _)))) rfl | exact hs.cell (.there _ (.there _ (.there _ (.there _ (.here _))))) rfl | exact hs.cell (.there _ (.there _ (.there _ (.there _ (.there _ (.here _)))))) rfl | exact hs.cell (.there _ (.there _ (.there _ (.there _ (.there _ (.there _ (.here _))))))) rfl | exact hs.cell (.there _ (.there _ (.there _ (.there _ (.there _ (.there _ (.there _ (.here _)))))))) rfl | exact hs.cell (.there _ (.there _ (.there _ (.there _ (.there _ (.there _ (.there _ (.there _ (.here _))))))))) rfl | exact hs.cell (.there _ (.there _ (.there _ (.there _ (.there _ (.there _ (.there _ (.there _ (.there _ (.here _)))))))))) rfl)) ?_; clear hf a; intro a hf
            refine s_v hf (x_fieldAddr fo24_5 (hf.eval rfl)) ?_; clear hf a; intro a hf
            refine s_r hf (x_load sc3 (hf.eval rfl) (by first | exact hs.cell (.here _) rfl | exact hs.cell (.there _ (.here _)) rfl | exact hs.cell (.there _ (.there _ (.here _))) rfl | exact hs.cell (.there _ (.there _ (.there _ (.here _)))) rfl | exact hs.cell (.there _ (.there _ (.there _ (.there _ (.here _))))) rfl | exact hs.cell (.there _ (.there _ (.there _ (.there _ (.there _ (.here _)))))) rfl | exact hs.cell (.there _ (.there _ (.there _ (.there _ (.there _ (.there _ (.here _))))))) rfl | exact hs.cell (.there _ (.there _ (.there _ (.there _ (.there _ (.there _ (.there _ (.here _)))))))) rfl | exact hs.cell (.there _ (.there _ (.there _ (.there _ (.there _ (.there _ (.there _ (.there _ (.here _))))))))) rfl | exact hs.cell (.there _ (.there _ (.there _ (.there _ (.there _ (.there _ (.there _ (.there _ (.there _ (.here _)))))))))) rfl)) ?_; clear hf a; intro a hf
            refine s_do hf rfl (y_call (hf.eval rfl) (hf.evals rfl) Tryd.call100 ((placedF_spec _ (sdS l).2.2.1 (sdS l).2.2.2.1 (sdS l).2.2.2.2.2.1 (by omega) (by omega) (by omega) (by omega) (by omega) (by omega)).mono ?_))
            rintro e w1 ⟨rfl, hk⟩
            replace hs := hs.ext hk
            refine ⟨_, rfl, ?_⟩; clear hf a; intro a hf
            refine s_do hf rfl (y_alloc hs Tryd.zeroValue100 ?_); clear hf hs a; intro b8 w hs a hf
            change St _ _ (cb b8 100 [.int .i64 0, .int .i64 0, .int .i64 0] :: _) at hs
            refine s_do0 hf rfl (y_storeAgg (cs := [.int .i64 (upZ (max (sdS l).2.2.1 (sdS l).2.2.2.1)), .int .i64 (filZ (sdS l).2.2.1 (sdS l).2.2.2.1 (sdS l).2.2.2.2.2.1 / 512 * 512 - 512), .int .i64 (filZ (sdS l).2.2.1 (sdS l).2.2.2.1 (sdS l).2.2.2.2.2.1)]) hs (n := 3) (by kernel_rfl) (hf.eval rfl) (hf.eval rfl) (by simp [Value.oneCell']) rfl rfl (.here _) ?_); clear hf hs a; intro w hs a hf
            refine s_nil ?_
            refine then_n ?_
            refine wp_seq ?_
            refine wp_seq ?_
            refine wp_region_lit ?_
            refine s_v hf (x_fieldAddr fo100_2 (hf.eval rfl)) ?_; clear hf a; intro a hf
            refine s_r hf (x_load sc3 (hf.eval rfl) (by first | exact hs.cell (.here _) rfl | exact hs.cell (.there _ (.here _)) rfl | exact hs.cell (.there _ (.there _ (.here _))) rfl | exact hs.cell (.there _ (.there _ (.there _ (.here _)))) rfl | exact hs.cell (.there _ (.there _ (.there _ (.there _ (.here _))))) rfl | exact hs.cell (.there _ (.there _ (.there _ (.there _ (.there _ (.here _)))))) rfl | exact hs.cell (.there _ (.there _ (.there _ (.there _ (.there _ (.there _ (.here _))))))) rfl | exact hs.cell (.there _ (.there _ (.there _ (.there _ (.there _ (.there _ (.there _ (.here _)))))))) rfl | exact hs.cell (.there _ (.there _ (.there _ (.there _ (.there _ (.there _ (.there _ (.there _ (.here _))))))))) rfl | exact hs.cell (.there _ (.there _ (.there _ (.there _ (.there _ (.there _ (.there _ (.there _ (.there _ (.here _)))))))))) rfl)) ?_; clear hf a; intro a hf
            refine s_m hf rfl ?_; clear hf a; intro a hf
            refine s_v hf (x_bin (hf.eval rfl) (hf.eval rfl) (r_ne _ _ _ _)) ?_; clear hf a; intro a hf
            refine s_nil ?_
            refine then_n ?_
            refine c_cond hf rfl (fun hi2 => ?_) (fun hi2 => ?_)
            · first | simp only [decide_eq_true_eq, decide_eq_false_iff_not, Bool.not_eq_true', Bool.not_eq_false'] at hi2 | skip
              try simp only [ne_eq, Classical.not_not] at hi2
              refine wp_seq ?_
              refine wp_region_lit ?_
              refine s_r hf (x_build (v := .agg (fdF (0, 0, 0) (.slice none 0 0) (.slice none 0 0)).toArray) (hf.parts rfl) (fun w => by kernel_rfl) _) ?_; clear hf a; intro a hf
              replace hs := hs.take (A := cb b2 82 (fdF (0, 0, 0) (.slice none 0 0) (.slice none 0 0))) (by first | exact .here _ | exact .there _ (.here _) | exact .there _ (.there _ (.here _)) | exact .there _ (.there _ (.there _ (.here _))) | exact .there _ (.there _ (.there _ (.there _ (.here _)))) | exact .there _ (.there _ (.there _ (.there _ (.there _ (.here _))))) | exact .there _ (.there _ (.there _ (.there _ (.there _ (.there _ (.here _)))))) | exact .there _ (.there _ (.there _ (.there _ (.there _ (.there _ (.there _ (.here _))))))) | exact .there _ (.there _ (.there _ (.there _ (.there _ (.there _ (.there _ (.there _ (.here _)))))))) | exact .there _ (.there _ (.there _ (.there _ (.there _ (.there _ (.there _ (.there _ (.there _ (.here _))))))))) | exact .there _ (.there _ (.there _ (.there _ (.there _ (.there _ (.there _ (.there _ (.there _ (.there _ (.here _)))))))))) | exact .there _ (.there _ (.there _ (.there _ (.there _ (.there _ (.there _ (.there _ (.there _ (.there _ (.there _ (.here _))))))))))))
              refine s_do0 hf rfl (y_storeAgg (cs := fdF (0, 0, 0) (.slice none 0 0) (.slice none 0 0)) hs (n := 5) (by kernel_rfl) (hf.eval rfl) (hf.eval rfl) (by simp [Value.oneCell', fdF]) rfl rfl (.here _) ?_); clear hf hs a; intro w hs a hf
              refine s_a hf rfl ?_; clear hf a; intro a hf
              refine s_nil ?_
              refine then_n ?_
              refine wp_ret ?_
              refine then_r ?_
              refine r_2c hf Tryd.results81 rfl rfl hs ag82 rfl (.here _) ?_
              have hno : lkOk l = false := by
                unfold lkOk seOk
                first
                | (rw [decide_eq_false (show ¬ 512 ≤ l.length by omega)]; simp; done)
                | (rw [dec_ne hg6_2]; simp; done)
                | (rw [decide_eq_false (show ¬ (sdS l).2.2.1 ≤ 16777216 by omega)]; simp; done)
                | (rw [decide_eq_false (show ¬ (sdS l).2.2.2.1 ≤ 16777216 by omega)]; simp; done)
                | (rw [decide_eq_false (show ¬ (zt (l.drop (seAt l.length + 512)) : Int) = (l.length : Int) - (seAt l.length : Int) - 512 by omega)]; simp; done)
                | (rw [decide_eq_false (show ¬ filZ (sdS l).2.2.1 (sdS l).2.2.2.1 (sdS l).2.2.2.2.2.1 = (l.length : Int) by omega)]; simp; done)
                | (rw [decide_eq_true hc3, hi5]; simp; done)
              rw [hno]
              exact ⟨(0, 0, 0), .slice none 0 0, .slice none 0 0, [], [], rfl, fun h => (by cases h), ((((St.keep [] _ hs).emp (A := datR []) (fun _ => trivial)).emp (A := sl 110 2 (.slice none 0 0) ([] : List Pt).length (([] : List Pt).flatMap pcF)) slW0).emp (slB_nil _))⟩
            · first | simp only [decide_eq_true_eq, decide_eq_false_iff_not, Bool.not_eq_true', Bool.not_eq_false'] at hi2 | skip
              try simp only [ne_eq, Classical.not_not] at hi2
              have hfil : filZ (sdS l).2.2.1 (sdS l).2.2.2.1 (sdS l).2.2.2.2.2.1 = (l.length : Int) := by omega
              have hse : seOk l = true := by unfold seOk; rw [decide_eq_true hn5, hdk, decide_eq_true (show (sdS l).2.2.1 ≤ 16777216 by omega), decide_eq_true (show (sdS l).2.2.2.1 ≤ 16777216 by omega), decide_eq_true hfil, decide_eq_true (show (zt (l.drop (seAt l.length + 512)) : Int) = (l.length : Int) - (seAt l.length : Int) - 512 by omega)]; rfl
              have hgd := seGood hse
              have gb := hgd.body
              have gs := hgd.st
              have gu := hgd.sum
              rw [hfil] at hs
              refine wp_skip ?_
              refine then_n ?_
              refine wp_seq ?_
              refine wp_region_lit ?_
              refine s_v hf (x_fieldAddr fo24_0 (hf.eval rfl)) ?_; clear hf a; intro a hf
              refine s_r hf (x_load sc3 (hf.eval rfl) (by first | exact hs.cell (.here _) rfl | exact hs.cell (.there _ (.here _)) rfl | exact hs.cell (.there _ (.there _ (.here _))) rfl | exact hs.cell (.there _ (.there _ (.there _ (.here _)))) rfl | exact hs.cell (.there _ (.there _ (.there _ (.there _ (.here _))))) rfl | exact hs.cell (.there _ (.there _ (.there _ (.there _ (.there _ (.here _)))))) rfl | exact hs.cell (.there _ (.there _ (.there _ (.there _ (.there _ (.there _ (.here _))))))) rfl | exact hs.cell (.there _ (.there _ (.there _ (.there _ (.there _ (.there _ (.there _ (.here _)))))))) rfl | exact hs.cell (.there _ (.there _ (.there _ (.there _ (.there _ (.there _ (.there _ (.there _ (.here _))))))))) rfl | exact hs.cell (.there _ (.there _ (.there _ (.there _ (.there _ (.there _ (.there _ (.there _ (.there _ (.here _)))))))))) rfl)) ?_; clear hf a; intro a hf
              refine s_v hf (x_fieldAddr fo24_1 (hf.eval rfl)) ?_; clear hf a; intro a hf
              refine s_r hf (x_load sc3 (hf.eval rfl) (by first | exact hs.cell (.here _) rfl | exact hs.cell (.there _ (.here _)) rfl | exact hs.cell (.there _ (.there _ (.here _))) rfl | exact hs.cell (.there _ (.there _ (.there _ (.here _)))) rfl | exact hs.cell (.there _ (.there _ (.there _ (.there _ (.here _))))) rfl | exact hs.cell (.there _ (.there _ (.there _ (.there _ (.there _ (.here _)))))) rfl | exact hs.cell (.there _ (.there _ (.there _ (.there _ (.there _ (.there _ (.here _))))))) rfl | exact hs.cell (.there _ (.there _ (.there _ (.there _ (.there _ (.there _ (.there _ (.here _)))))))) rfl | exact hs.cell (.there _ (.there _ (.there _ (.there _ (.there _ (.there _ (.there _ (.there _ (.here _))))))))) rfl | exact hs.cell (.there _ (.there _ (.there _ (.there _ (.there _ (.there _ (.there _ (.there _ (.there _ (.here _)))))))))) rfl)) ?_; clear hf a; intro a hf
              refine s_v hf (x_fieldAddr fo24_2 (hf.eval rfl)) ?_; clear hf a; intro a hf
              refine s_r hf (x_load sc3 (hf.eval rfl) (by first | exact hs.cell (.here _) rfl | exact hs.cell (.there _ (.here _)) rfl | exact hs.cell (.there _ (.there _ (.here _))) rfl | exact hs.cell (.there _ (.there _ (.there _ (.here _)))) rfl | exact hs.cell (.there _ (.there _ (.there _ (.there _ (.here _))))) rfl | exact hs.cell (.there _ (.there _ (.there _ (.there _ (.there _ (.here _)))))) rfl | exact hs.cell (.there _ (.there _ (.there _ (.there _ (.there _ (.there _ (.here _))))))) rfl | exact hs.cell (.there _ (.there _ (.there _ (.there _ (.there _ (.there _ (.there _ (.here _)))))))) rfl | exact hs.cell (.there _ (.there _ (.there _ (.there _ (.there _ (.there _ (.there _ (.there _ (.here _))))))))) rfl | exact hs.cell (.there _ (.there _ (.there _ (.there _ (.there _ (.there _ (.there _ (.there _ (.there _ (.here _)))))))))) rfl)) ?_; clear hf a; intro a hf
              refine s_r hf (x_build (v := .agg (vdF ((sdS l).1, (sdS l).2.1, (sdS l).2.2.1)).toArray) (hf.parts rfl) (fun w => by kernel_rfl) _) ?_; clear hf a; intro a hf
              refine s_r hf (x_build (v := .agg (fdF ((sdS l).1, (sdS l).2.1, (sdS l).2.2.1) (.slice none 0 0) (.slice none 0 0)).toArray) (hf.parts rfl) (fun w => by kernel_rfl) _) ?_; clear hf a; intro a hf
              refine s_do hf rfl (y_alloc hs Tryd.zeroValue82 ?_); clear hf hs a; intro b9 w hs a hf
              change St _ _ (cb b9 82 (fdF (0, 0, 0) (.slice none 0 0) (.slice none 0 0)) :: _) at hs
              refine s_do0 hf rfl (y_storeAgg (cs := fdF ((sdS l).1, (sdS l).2.1, (sdS l).2.2.1) (.slice none 0 0) (.slice none 0 0)) hs (n := 5) (by kernel_rfl) (hf.eval rfl) (hf.eval rfl) (by simp [Value.oneCell', fdF]) rfl rfl (.here _) ?_); clear hf hs a; intro w hs a hf
              refine s_nil ?_
              refine then_n ?_
              refine c_join (N := 132) (L0 := [(0, _), (2, _), (9, _)]) (fun M w => ∃ (av : Option Addr) (cvv : Nat) (ps : List Pt), M = [] ∧ lkOk l = true ∧ ps.map pcOf = lkP l ∧ St ⟨w0, None_⟩ w [cb b9 82 (fdF ((sdS l).1, (sdS l).2.1, lkZ l) (.slice none 0 0) (.slice av ps.length cvv)), sl 110 2 (.slice av ps.length cvv) ps.length (ps.flatMap pcF), datR ps, cb b2 82 (fdF (0, 0, 0) (.slice none 0 0) (.slice none 0 0))]) (hf.sub ⟨rfl, rfl, rfl, trivial⟩) ?_ ?_
              · refine wp_seq ?_
                refine wp_region_lit ?_
                refine s_v hf (x_fieldAddr fo24_0 (hf.eval rfl)) ?_; clear hf a; intro a hf
                refine s_r hf (x_load sc3 (hf.eval rfl) (by first | exact hs.cell (.here _) rfl | exact hs.cell (.there _ (.here _)) rfl | exact hs.cell (.there _ (.there _ (.here _))) rfl | exact hs.cell (.there _ (.there _ (.there _ (.here _)))) rfl | exact hs.cell (.there _ (.there _ (.there _ (.there _ (.here _))))) rfl | exact hs.cell (.there _ (.there _ (.there _ (.there _ (.there _ (.here _)))))) rfl | exact hs.cell (.there _ (.there _ (.there _ (.there _ (.there _ (.there _ (.here _))))))) rfl | exact hs.cell (.there _ (.there _ (.there _ (.there _ (.there _ (.there _ (.there _ (.here _)))))))) rfl | exact hs.cell (.there _ (.there _ (.there _ (.there _ (.there _ (.there _ (.there _ (.there _ (.here _))))))))) rfl | exact hs.cell (.there _ (.there _ (.there _ (.there _ (.there _ (.there _ (.there _ (.there _ (.there _ (.here _)))))))))) rfl)) ?_; clear hf a; intro a hf
                refine s_nil ?_
                refine then_n ?_
                refine wp_block ?_
                refine wp_seq ?_
                refine wp_region_lit ?_
                refine s_v hf (x_bin (hf.eval rfl) (hf.eval rfl) (r_eq _ _ _ _)) ?_; clear hf a; intro a hf
                refine s_a hf rfl ?_; clear hf a; intro a hf
                refine s_nil ?_
                refine then_n ?_
                refine c_cond hf rfl (fun hi3 => ?_) (fun hi3 => ?_)
                · first | simp only [decide_eq_true_eq, decide_eq_false_iff_not, Bool.not_eq_true', Bool.not_eq_false'] at hi3 | skip
                  refine wp_region_lit ?_
                  refine s_v hf (x_fieldAddr fo24_3 (hf.eval rfl)) ?_; clear hf a; intro a hf
                  refine s_r hf (x_load sc3 (hf.eval rfl) (by first | exact hs.cell (.here _) rfl | exact hs.cell (.there _ (.here _)) rfl | exact hs.cell (.there _ (.there _ (.here _))) rfl | exact hs.cell (.there _ (.there _ (.there _ (.here _)))) rfl | exact hs.cell (.there _ (.there _ (.there _ (.there _ (.here _))))) rfl | exact hs.cell (.there _ (.there _ (.there _ (.there _ (.there _ (.here _)))))) rfl | exact hs.cell (.there _ (.there _ (.there _ (.there _ (.there _ (.there _ (.here _))))))) rfl | exact hs.cell (.there _ (.there _ (.there _ (.there _ (.there _ (.there _ (.there _ (.here _)))))))) rfl | exact hs.cell (.there _ (.there _ (.there _ (.there _ (.there _ (.there _ (.there _ (.there _ (.here _))))))))) rfl | exact hs.cell (.there _ (.there _ (.there _ (.there _ (.there _ (.there _ (.there _ (.there _ (.there _ (.here _)))))))))) rfl)) ?_; clear hf a; intro a hf
                  refine s_v hf (x_fieldAddr fo82_0 (hf.eval rfl)) ?_; clear hf a; intro a hf
                  refine s_v hf (x_fieldAddr fo45_2 (hf.eval rfl)) ?_; clear hf a; intro a hf
                  replace hs := hs.take (A := cb b9 82 (fdF ((sdS l).1, (sdS l).2.1, (sdS l).2.2.1) (.slice none 0 0) (.slice none 0 0))) (by first | exact .here _ | exact .there _ (.here _) | exact .there _ (.there _ (.here _)) | exact .there _ (.there _ (.there _ (.here _))) | exact .there _ (.there _ (.there _ (.there _ (.here _)))) | exact .there _ (.there _ (.there _ (.there _ (.there _ (.here _))))) | exact .there _ (.there _ (.there _ (.there _ (.there _ (.there _ (.here _)))))) | exact .there _ (.there _ (.there _ (.there _ (.there _ (.there _ (.there _ (.here _))))))) | exact .there _ (.there _ (.there _ (.there _ (.there _ (.there _ (.there _ (.there _ (.here _)))))))) | exact .there _ (.there _ (.there _ (.there _ (.there _ (.there _ (.there _ (.there _ (.there _ (.here _))))))))) | exact .there _ (.there _ (.there _ (.there _ (.there _ (.there _ (.there _ (.there _ (.there _ (.there _ (.here _)))))))))) | exact .there _ (.there _ (.there _ (.there _ (.there _ (.there _ (.there _ (.there _ (.there _ (.there _ (.there _ (.here _))))))))))))
                  refine s_do0 hf rfl (y_store hs sc3 (hf.eval rfl) (hf.eval rfl) rfl (.here _) (by simp [fdF]) ?_); clear hf hs a; intro w hs a hf
                  change St _ _ (cb b9 82 (fdF ((sdS l).1, (sdS l).2.1, (sdS l).2.2.2.1) (.slice none 0 0) (.slice none 0 0)) :: _) at hs
                  have hz : lkZ l = (sdS l).2.2.2.1 := by unfold lkZ; rw [if_pos hi3]
                  have hok9 : lkOk l = true := by unfold lkOk; rw [hse, decide_eq_false (show ¬ (sdS l).1 = 3 by omega)]; rfl
                  have hpm9 : ([] : List Pt).map pcOf = lkP l := by unfold lkP; rw [if_neg (show ¬ (sdS l).1 = 3 by omega)]; rfl
                  rw [← hz] at hs
                  replace hs := hs.take (A := cb b2 82 (fdF (0, 0, 0) (.slice none 0 0) (.slice none 0 0))) (by first | exact .here _ | exact .there _ (.here _) | exact .there _ (.there _ (.here _)) | exact .there _ (.there _ (.there _ (.here _))) | exact .there _ (.there _ (.there _ (.there _ (.here _)))) | exact .there _ (.there _ (.there _ (.there _ (.there _ (.here _))))) | exact .there _ (.there _ (.there _ (.there _ (.there _ (.there _ (.here _)))))) | exact .there _ (.there _ (.there _ (.there _ (.there _ (.there _ (.there _ (.here _))))))) | exact .there _ (.there _ (.there _ (.there _ (.there _ (.there _ (.there _ (.there _ (.here _)))))))) | exact .there _ (.there _ (.there _ (.there _ (.there _ (.there _ (.there _ (.there _ (.there _ (.here _))))))))) | exact .there _ (.there _ (.there _ (.there _ (.there _ (.there _ (.there _ (.there _ (.there _ (.there _ (.here _)))))))))) | exact .there _ (.there _ (.there _ (.there _ (.there _ (.there _ (.there _ (.there _ (.there _ (.there _ (.there _ (.here _))))))))))))
                  replace hs := (hs.emp (A := datR []) (fun _ => trivial)).emp (A := sl 110 2 (.slice none 0 0) ([] : List Pt).length (([] : List Pt).flatMap pcF)) slW0
                  replace hs := hs.take (A := cb b9 82 (fdF ((sdS l).1, (sdS l).2.1, lkZ l) (.slice none 0 0) (.slice none 0 0))) (by first | exact .here _ | exact .there _ (.here _) | exact .there _ (.there _ (.here _)) | exact .there _ (.there _ (.there _ (.here _))) | exact .there _ (.there _ (.there _ (.there _ (.here _)))) | exact .there _ (.there _ (.there _ (.there _ (.there _ (.here _))))) | exact .there _ (.there _ (.there _ (.there _ (.there _ (.there _ (.here _)))))) | exact .there _ (.there _ (.there _ (.there _ (.there _ (.there _ (.there _ (.here _))))))) | exact .there _ (.there _ (.there _ (.there _ (.there _ (.there _ (.there _ (.there _ (.here _)))))))) | exact .there _ (.there _ (.there _ (.there _ (.there _ (.there _ (.there _ (.there _ (.there _ (.here _))))))))) | exact .there _ (.there _ (.there _ (.there _ (.there _ (.there _ (.there _ (.there _ (.there _ (.there _ (.here _)))))))))) | exact .there _ (.there _ (.there _ (.there _ (.there _ (.there _ (.there _ (.there _ (.there _ (.there _ (.there _ (.here _))))))))))))
                  have hs9 := St.keep [_, _, _, _] _ hs
                  refine s_nil ?_
                  refine blk_n ?_
                  refine then_n ?_
                  exact ⟨_, ⟨_, _, _, rfl, hok9, hpm9, hs9⟩, hf.sub ⟨rfl, rfl, rfl, trivial⟩⟩
                · first | simp only [decide_eq_true_eq, decide_eq_false_iff_not, Bool.not_eq_true', Bool.not_eq_false'] at hi3 | skip
                  refine wp_seq ?_
                  refine wp_region_lit ?_
                  refine s_v hf (x_bin (hf.eval rfl) (hf.eval rfl) (r_eq _ _ _ _)) ?_; clear hf a; intro a hf
                  refine s_a hf rfl ?_; clear hf a; intro a hf
                  refine s_nil ?_
                  refine then_n ?_
                  refine c_cond hf rfl (fun hi4 => ?_) (fun hi4 => ?_)
                  · first | simp only [decide_eq_true_eq, decide_eq_false_iff_not, Bool.not_eq_true', Bool.not_eq_false'] at hi4 | skip
                    refine wp_seq ?_
                    refine c_draw hs (fun _ => True) [.read, .held, .held, .read, .held, .read, .held, .read, .held, .held, .eff, .held, .held, .held, .held, .held] (by kernel_rfl) (by kernel_rfl) (fun _ _ _ => trivial) ?_
                    clear hs; intro w hs hC hw
                    replace hs := hs.take (A := cb b6 24 (slF (sdS l))) (by first | exact .here _ | exact .there _ (.here _) | exact .there _ (.there _ (.here _)) | exact .there _ (.there _ (.there _ (.here _))) | exact .there _ (.there _ (.there _ (.there _ (.here _)))) | exact .there _ (.there _ (.there _ (.there _ (.there _ (.here _))))) | exact .there _ (.there _ (.there _ (.there _ (.there _ (.there _ (.here _)))))) | exact .there _ (.there _ (.there _ (.there _ (.there _ (.there _ (.there _ (.here _))))))) | exact .there _ (.there _ (.there _ (.there _ (.there _ (.there _ (.there _ (.there _ (.here _)))))))) | exact .there _ (.there _ (.there _ (.there _ (.there _ (.there _ (.there _ (.there _ (.there _ (.here _))))))))) | exact .there _ (.there _ (.there _ (.there _ (.there _ (.there _ (.there _ (.there _ (.there _ (.there _ (.here _)))))))))) | exact .there _ (.there _ (.there _ (.there _ (.there _ (.there _ (.there _ (.there _ (.there _ (.there _ (.there _ (.here _))))))))))))
                    refine m_read hf rfl (x_loadBlk hs ag24 (hf.eval rfl) rfl (by first | exact .here _ | exact .there _ (.here _) | exact .there _ (.there _ (.here _)) | exact .there _ (.there _ (.there _ (.here _))) | exact .there _ (.there _ (.there _ (.there _ (.here _)))) | exact .there _ (.there _ (.there _ (.there _ (.there _ (.here _))))) | exact .there _ (.there _ (.there _ (.there _ (.there _ (.there _ (.here _)))))) | exact .there _ (.there _ (.there _ (.there _ (.there _ (.there _ (.there _ (.here _))))))) | exact .there _ (.there _ (.there _ (.there _ (.there _ (.there _ (.there _ (.there _ (.here _)))))))) | exact .there _ (.there _ (.there _ (.there _ (.there _ (.there _ (.there _ (.there _ (.there _ (.here _))))))))))) ?_; clear hf a; intro a hf
                    refine m_held hf rfl (fun w' _ => x_move (hf.eval rfl) w') ?_; clear hf a; intro a hf
                    refine m_held hf rfl (fun w' _ => x_fieldAddr fo100_0 (hf.eval rfl) w') ?_; clear hf a; intro a hf
                    refine m_read hf rfl (x_load sc3 (hf.eval rfl) (by first | exact hs.cell (.here _) rfl | exact hs.cell (.there _ (.here _)) rfl | exact hs.cell (.there _ (.there _ (.here _))) rfl | exact hs.cell (.there _ (.there _ (.there _ (.here _)))) rfl | exact hs.cell (.there _ (.there _ (.there _ (.there _ (.here _))))) rfl | exact hs.cell (.there _ (.there _ (.there _ (.there _ (.there _ (.here _)))))) rfl | exact hs.cell (.there _ (.there _ (.there _ (.there _ (.there _ (.there _ (.here _))))))) rfl | exact hs.cell (.there _ (.there _ (.there _ (.there _ (.there _ (.there _ (.there _ (.here _)))))))) rfl | exact hs.cell (.there _ (.there _ (.there _ (.there _ (.there _ (.there _ (.there _ (.there _ (.here _))))))))) rfl | exact hs.cell (.there _ (.there _ (.there _ (.there _ (.there _ (.there _ (.there _ (.there _ (.there _ (.here _)))))))))) rfl)) ?_; clear hf a; intro a hf
                    refine m_held hf rfl (fun w' _ => x_fieldAddr fo100_0 (hf.eval rfl) w') ?_; clear hf a; intro a hf
                    refine m_read hf rfl (x_load sc3 (hf.eval rfl) (by first | exact hs.cell (.here _) rfl | exact hs.cell (.there _ (.here _)) rfl | exact hs.cell (.there _ (.there _ (.here _))) rfl | exact hs.cell (.there _ (.there _ (.there _ (.here _)))) rfl | exact hs.cell (.there _ (.there _ (.there _ (.there _ (.here _))))) rfl | exact hs.cell (.there _ (.there _ (.there _ (.there _ (.there _ (.here _)))))) rfl | exact hs.cell (.there _ (.there _ (.there _ (.there _ (.there _ (.there _ (.here _))))))) rfl | exact hs.cell (.there _ (.there _ (.there _ (.there _ (.there _ (.there _ (.there _ (.here _)))))))) rfl | exact hs.cell (.there _ (.there _ (.there _ (.there _ (.there _ (.there _ (.there _ (.there _ (.here _))))))))) rfl | exact hs.cell (.there _ (.there _ (.there _ (.there _ (.there _ (.there _ (.there _ (.there _ (.there _ (.here _)))))))))) rfl)) ?_; clear hf a; intro a hf
                    refine m_held hf rfl (fun w' _ => x_fieldAddr fo24_5 (hf.eval rfl) w') ?_; clear hf a; intro a hf
                    refine m_read hf rfl (x_load sc3 (hf.eval rfl) (by first | exact hs.cell (.here _) rfl | exact hs.cell (.there _ (.here _)) rfl | exact hs.cell (.there _ (.there _ (.here _))) rfl | exact hs.cell (.there _ (.there _ (.there _ (.here _)))) rfl | exact hs.cell (.there _ (.there _ (.there _ (.there _ (.here _))))) rfl | exact hs.cell (.there _ (.there _ (.there _ (.there _ (.there _ (.here _)))))) rfl | exact hs.cell (.there _ (.there _ (.there _ (.there _ (.there _ (.there _ (.here _))))))) rfl | exact hs.cell (.there _ (.there _ (.there _ (.there _ (.there _ (.there _ (.there _ (.here _)))))))) rfl | exact hs.cell (.there _ (.there _ (.there _ (.there _ (.there _ (.there _ (.there _ (.there _ (.here _))))))))) rfl | exact hs.cell (.there _ (.there _ (.there _ (.there _ (.there _ (.there _ (.there _ (.there _ (.there _ (.here _)))))))))) rfl)) ?_; clear hf a; intro a hf
                    refine m_held hf rfl (fun w' _ => x_bin (hf.eval rfl) (hf.eval rfl) (r_addi _ (by omega) (by omega)) w') ?_; clear hf a; intro a hf
                    refine m_held hf rfl (fun w' _ => x_slice sl25 (hf.eval rfl) (hf.eval rfl) (hf.eval rfl)  (by omega) (by omega) (by omega) w') ?_; clear hf a; intro a hf
                    have hbl : (bodyS l).length = (sdS l).2.2.2.2.2.1.toNat := by unfold bodyS; rw [List.length_take, List.length_drop]; omega
                    have hbr : RdB (hp w0) (.slice (subA a1 c1 (upZ (max (sdS l).2.2.1 (sdS l).2.2.2.1)).toNat 1) (bodyS l).length (c1 - (upZ (max (sdS l).2.2.1 (sdS l).2.2.2.1)).toNat)) (bodyS l) := by unfold bodyS; exact sub_rd hr1 (by omega)
                    replace hf := hf.now (k := 99) (v' := .slice (subA a1 c1 (upZ (max (sdS l).2.2.1 (sdS l).2.2.2.1)).toNat 1) (bodyS l).length (c1 - (upZ (max (sdS l).2.2.1 (sdS l).2.2.2.1)).toNat)) rfl (by rw [hbl]; exact slice_eq rfl (by omega) rfl)
                    refine m_eff hf rfl (y_call (hf.eval rfl) (hf.evals rfl) Tryd.call101 ((restored_spec _ (hT.kept hs.kept) (sdS l) gu (by omega) (by omega) _ _ (bodyS l) (hs.oldB hbr) (by omega)).mono ?_))
                    rintro e w1 ⟨vr, ps, rfl, hps, hj⟩
                    replace hs := hs.join hj
                    simp only [List.cons_append, List.nil_append] at hs
                    obtain ⟨av, cvv, rfl⟩ := sl_shape hs
                    have hc3 : (sdS l).1 = 3 := hi4
                    refine ⟨_, rfl, ⟨trivial, ?_⟩⟩; clear hf a; intro a hf
                    refine m_held hf rfl (fun w' _ => x_move (hf.eval rfl) w') ?_; clear hf a; intro a hf
                    refine m_held hf rfl (fun w' _ => x_extract (hf.eval rfl) rfl w') ?_; clear hf a; intro a hf
                    refine m_held hf rfl (fun w' _ => x_extract (hf.eval rfl) rfl w') ?_; clear hf a; intro a hf
                    refine m_held hf rfl (fun w' _ => x_assign (hf.eval rfl) w') ?_; clear hf a; intro a hf
                    refine m_held hf rfl (fun w' _ => x_assign (hf.eval rfl) w') ?_; clear hf a; intro a hf
                    refine m_nil ?_
                    refine then_n ?_
                    refine wp_seq ?_
                    refine wp_seq ?_
                    refine wp_region_lit ?_
                    refine s_m hf rfl ?_; clear hf a; intro a hf
                    refine s_v hf (x_not (hf.eval rfl)) ?_; clear hf a; intro a hf
                    refine s_nil ?_
                    refine then_n ?_
                    refine c_cond hf rfl (fun hi5 => ?_) (fun hi5 => ?_)
                    · first | simp only [decide_eq_true_eq, decide_eq_false_iff_not, Bool.not_eq_true', Bool.not_eq_false'] at hi5 | skip
                      refine wp_seq ?_
                      refine wp_region_lit ?_
                      refine s_r hf (x_build (v := .agg (fdF (0, 0, 0) (.slice none 0 0) (.slice none 0 0)).toArray) (hf.parts rfl) (fun w => by kernel_rfl) _) ?_; clear hf a; intro a hf
                      replace hs := hs.take (A := cb b2 82 (fdF (0, 0, 0) (.slice none 0 0) (.slice none 0 0))) (by first | exact .here _ | exact .there _ (.here _) | exact .there _ (.there _ (.here _)) | exact .there _ (.there _ (.there _ (.here _))) | exact .there _ (.there _ (.there _ (.there _ (.here _)))) | exact .there _ (.there _ (.there _ (.there _ (.there _ (.here _))))) | exact .there _ (.there _ (.there _ (.there _ (.there _ (.there _ (.here _)))))) | exact .there _ (.there _ (.there _ (.there _ (.there _ (.there _ (.there _ (.here _))))))) | exact .there _ (.there _ (.there _ (.there _ (.there _ (.there _ (.there _ (.there _ (.here _)))))))) | exact .there _ (.there _ (.there _ (.there _ (.there _ (.there _ (.there _ (.there _ (.there _ (.here _))))))))) | exact .there _ (.there _ (.there _ (.there _ (.there _ (.there _ (.there _ (.there _ (.there _ (.there _ (.here _)))))))))) | exact .there _ (.there _ (.there _ (.there _ (.there _ (.there _ (.there _ (.there _ (.there _ (.there _ (.there _ (.here _))))))))))))
                      refine s_do0 hf rfl (y_storeAgg (cs := fdF (0, 0, 0) (.slice none 0 0) (.slice none 0 0)) hs (n := 5) (by kernel_rfl) (hf.eval rfl) (hf.eval rfl) (by simp [Value.oneCell', fdF]) rfl rfl (.here _) ?_); clear hf hs a; intro w hs a hf
                      refine s_a hf rfl ?_; clear hf a; intro a hf
                      refine s_nil ?_
                      refine then_n ?_
                      refine wp_ret ?_
                      refine then_r (blk_r (then_r ?_))
                      refine r_2c hf Tryd.results81 rfl rfl hs ag82 rfl (.here _) ?_
                      have hno : lkOk l = false := by
                        unfold lkOk seOk
                        first
                        | (rw [decide_eq_false (show ¬ 512 ≤ l.length by omega)]; simp; done)
                        | (rw [dec_ne hg6_2]; simp; done)
                        | (rw [decide_eq_false (show ¬ (sdS l).2.2.1 ≤ 16777216 by omega)]; simp; done)
                        | (rw [decide_eq_false (show ¬ (sdS l).2.2.2.1 ≤ 16777216 by omega)]; simp; done)
                        | (rw [decide_eq_false (show ¬ (zt (l.drop (seAt l.length + 512)) : Int) = (l.length : Int) - (seAt l.length : Int) - 512 by omega)]; simp; done)
                        | (rw [decide_eq_false (show ¬ filZ (sdS l).2.2.1 (sdS l).2.2.2.1 (sdS l).2.2.2.2.2.1 = (l.length : Int) by omega)]; simp; done)
                        | (rw [decide_eq_true hc3, hi5]; simp; done)
                      rw [hno]
                      exact ⟨(0, 0, 0), .slice none 0 0, .slice none 0 0, [], [], rfl, fun h => (by cases h), ((((St.keep [] _ hs).emp (A := datR []) (fun _ => trivial)).emp (A := sl 110 2 (.slice none 0 0) ([] : List Pt).length (([] : List Pt).flatMap pcF)) slW0).emp (slB_nil _))⟩
                    · first | simp only [decide_eq_true_eq, decide_eq_false_iff_not, Bool.not_eq_true', Bool.not_eq_false'] at hi5 | skip
                      refine wp_skip ?_
                      refine then_n ?_
                      refine wp_region_lit ?_
                      refine s_m hf rfl ?_; clear hf a; intro a hf
                      refine s_v hf (x_fieldAddr fo82_2 (hf.eval rfl)) ?_; clear hf a; intro a hf
                      replace hs := hs.take (A := cb b9 82 (fdF ((sdS l).1, (sdS l).2.1, (sdS l).2.2.1) (.slice none 0 0) (.slice none 0 0))) (by first | exact .here _ | exact .there _ (.here _) | exact .there _ (.there _ (.here _)) | exact .there _ (.there _ (.there _ (.here _))) | exact .there _ (.there _ (.there _ (.there _ (.here _)))) | exact .there _ (.there _ (.there _ (.there _ (.there _ (.here _))))) | exact .there _ (.there _ (.there _ (.there _ (.there _ (.there _ (.here _)))))) | exact .there _ (.there _ (.there _ (.there _ (.there _ (.there _ (.there _ (.here _))))))) | exact .there _ (.there _ (.there _ (.there _ (.there _ (.there _ (.there _ (.there _ (.here _)))))))) | exact .there _ (.there _ (.there _ (.there _ (.there _ (.there _ (.there _ (.there _ (.there _ (.here _))))))))) | exact .there _ (.there _ (.there _ (.there _ (.there _ (.there _ (.there _ (.there _ (.there _ (.there _ (.here _)))))))))) | exact .there _ (.there _ (.there _ (.there _ (.there _ (.there _ (.there _ (.there _ (.there _ (.there _ (.there _ (.here _))))))))))))
                      refine s_do0 hf rfl (y_store hs sc80 (hf.eval rfl) (hf.eval rfl) rfl (.here _) (by simp [fdF]) ?_); clear hf hs a; intro w hs a hf
                      change St _ _ (cb b9 82 (fdF ((sdS l).1, (sdS l).2.1, (sdS l).2.2.1) (.slice none 0 0) (.slice av ps.length cvv)) :: _) at hs
                      have hz : lkZ l = (sdS l).2.2.1 := by unfold lkZ; rw [if_neg (show ¬ (sdS l).1 = 4 by omega)]
                      have hok9 : lkOk l = true := by unfold lkOk; rw [hse, hi5]; simp
                      have hpm9 : ps.map pcOf = lkP l := by unfold lkP; rw [if_pos hc3]; exact hps hi5
                      rw [← hz] at hs
                      replace hs := hs.take (A := cb b2 82 (fdF (0, 0, 0) (.slice none 0 0) (.slice none 0 0))) (by first | exact .here _ | exact .there _ (.here _) | exact .there _ (.there _ (.here _)) | exact .there _ (.there _ (.there _ (.here _))) | exact .there _ (.there _ (.there _ (.there _ (.here _)))) | exact .there _ (.there _ (.there _ (.there _ (.there _ (.here _))))) | exact .there _ (.there _ (.there _ (.there _ (.there _ (.there _ (.here _)))))) | exact .there _ (.there _ (.there _ (.there _ (.there _ (.there _ (.there _ (.here _))))))) | exact .there _ (.there _ (.there _ (.there _ (.there _ (.there _ (.there _ (.there _ (.here _)))))))) | exact .there _ (.there _ (.there _ (.there _ (.there _ (.there _ (.there _ (.there _ (.there _ (.here _))))))))) | exact .there _ (.there _ (.there _ (.there _ (.there _ (.there _ (.there _ (.there _ (.there _ (.there _ (.here _)))))))))) | exact .there _ (.there _ (.there _ (.there _ (.there _ (.there _ (.there _ (.there _ (.there _ (.there _ (.there _ (.here _))))))))))))
                      replace hs := hs.take (A := datR ps) (by first | exact .here _ | exact .there _ (.here _) | exact .there _ (.there _ (.here _)) | exact .there _ (.there _ (.there _ (.here _))) | exact .there _ (.there _ (.there _ (.there _ (.here _)))) | exact .there _ (.there _ (.there _ (.there _ (.there _ (.here _))))) | exact .there _ (.there _ (.there _ (.there _ (.there _ (.there _ (.here _)))))) | exact .there _ (.there _ (.there _ (.there _ (.there _ (.there _ (.there _ (.here _))))))) | exact .there _ (.there _ (.there _ (.there _ (.there _ (.there _ (.there _ (.there _ (.here _)))))))) | exact .there _ (.there _ (.there _ (.there _ (.there _ (.there _ (.there _ (.there _ (.there _ (.here _))))))))) | exact .there _ (.there _ (.there _ (.there _ (.there _ (.there _ (.there _ (.there _ (.there _ (.there _ (.here _)))))))))) | exact .there _ (.there _ (.there _ (.there _ (.there _ (.there _ (.there _ (.there _ (.there _ (.there _ (.there _ (.here _))))))))))))
                      replace hs := hs.take (A := sl 110 2 (.slice av ps.length cvv) ps.length (ps.flatMap pcF)) (by first | exact .here _ | exact .there _ (.here _) | exact .there _ (.there _ (.here _)) | exact .there _ (.there _ (.there _ (.here _))) | exact .there _ (.there _ (.there _ (.there _ (.here _)))) | exact .there _ (.there _ (.there _ (.there _ (.there _ (.here _))))) | exact .there _ (.there _ (.there _ (.there _ (.there _ (.there _ (.here _)))))) | exact .there _ (.there _ (.there _ (.there _ (.there _ (.there _ (.there _ (.here _))))))) | exact .there _ (.there _ (.there _ (.there _ (.there _ (.there _ (.there _ (.there _ (.here _)))))))) | exact .there _ (.there _ (.there _ (.there _ (.there _ (.there _ (.there _ (.there _ (.there _ (.here _))))))))) | exact .there _ (.there _ (.there _ (.there _ (.there _ (.there _ (.there _ (.there _ (.there _ (.there _ (.here _)))))))))) | exact .there _ (.there _ (.there _ (.there _ (.there _ (.there _ (.there _ (.there _ (.there _ (.there _ (.there _ (.here _))))))))))))
                      replace hs := hs.take (A := cb b9 82 (fdF ((sdS l).1, (sdS l).2.1, lkZ l) (.slice none 0 0) (.slice av ps.length cvv))) (by first | exact .here _ | exact .there _ (.here _) | exact .there _ (.there _ (.here _)) | exact .there _ (.there _ (.there _ (.here _))) | exact .there _ (.there _ (.there _ (.there _ (.here _)))) | exact .there _ (.there _ (.there _ (.there _ (.there _ (.here _))))) | exact .there _ (.there _ (.there _ (.there _ (.there _ (.there _ (.here _)))))) | exact .there _ (.there _ (.there _ (.there _ (.there _ (.there _ (.there _ (.here _))))))) | exact .there _ (.there _ (.there _ (.there _ (.there _ (.there _ (.there _ (.there _ (.here _)))))))) | exact .there _ (.there _ (.there _ (.there _ (.there _ (.there _ (.there _ (.there _ (.there _ (.here _))))))))) | exact .there _ (.there _ (.there _ (.there _ (.there _ (.there _ (.there _ (.there _ (.there _ (.there _ (.here _)))))))))) | exact .there _ (.there _ (.there _ (.there _ (.there _ (.there _ (.there _ (.there _ (.there _ (.there _ (.there _ (.here _))))))))))))
                      have hs9 := St.keep [_, _, _, _] _ hs
                      refine s_nil ?_
                      refine blk_n ?_
                      refine then_n ?_
                      exact ⟨_, ⟨_, _, _, rfl, hok9, hpm9, hs9⟩, hf.sub ⟨rfl, rfl, rfl, trivial⟩⟩
                  · first | simp only [decide_eq_true_eq, decide_eq_false_iff_not, Bool.not_eq_true', Bool.not_eq_false'] at hi4 | skip
                    have hz : lkZ l = (sdS l).2.2.1 := by unfold lkZ; rw [if_neg (show ¬ (sdS l).1 = 4 by omega)]
                    have hok9 : lkOk l = true := by unfold lkOk; rw [hse, decide_eq_false (show ¬ (sdS l).1 = 3 by omega)]; rfl
                    have hpm9 : ([] : List Pt).map pcOf = lkP l := by unfold lkP; rw [if_neg (show ¬ (sdS l).1 = 3 by omega)]; rfl
                    rw [← hz] at hs
                    replace hs := hs.take (A := cb b2 82 (fdF (0, 0, 0) (.slice none 0 0) (.slice none 0 0))) (by first | exact .here _ | exact .there _ (.here _) | exact .there _ (.there _ (.here _)) | exact .there _ (.there _ (.there _ (.here _))) | exact .there _ (.there _ (.there _ (.there _ (.here _)))) | exact .there _ (.there _ (.there _ (.there _ (.there _ (.here _))))) | exact .there _ (.there _ (.there _ (.there _ (.there _ (.there _ (.here _)))))) | exact .there _ (.there _ (.there _ (.there _ (.there _ (.there _ (.there _ (.here _))))))) | exact .there _ (.there _ (.there _ (.there _ (.there _ (.there _ (.there _ (.there _ (.here _)))))))) | exact .there _ (.there _ (.there _ (.there _ (.there _ (.there _ (.there _ (.there _ (.there _ (.here _))))))))) | exact .there _ (.there _ (.there _ (.there _ (.there _ (.there _ (.there _ (.there _ (.there _ (.there _ (.here _)))))))))) | exact .there _ (.there _ (.there _ (.there _ (.there _ (.there _ (.there _ (.there _ (.there _ (.there _ (.there _ (.here _))))))))))))
                    replace hs := (hs.emp (A := datR []) (fun _ => trivial)).emp (A := sl 110 2 (.slice none 0 0) ([] : List Pt).length (([] : List Pt).flatMap pcF)) slW0
                    replace hs := hs.take (A := cb b9 82 (fdF ((sdS l).1, (sdS l).2.1, lkZ l) (.slice none 0 0) (.slice none 0 0))) (by first | exact .here _ | exact .there _ (.here _) | exact .there _ (.there _ (.here _)) | exact .there _ (.there _ (.there _ (.here _))) | exact .there _ (.there _ (.there _ (.there _ (.here _)))) | exact .there _ (.there _ (.there _ (.there _ (.there _ (.here _))))) | exact .there _ (.there _ (.there _ (.there _ (.there _ (.there _ (.here _)))))) | exact .there _ (.there _ (.there _ (.there _ (.there _ (.there _ (.there _ (.here _))))))) | exact .there _ (.there _ (.there _ (.there _ (.there _ (.there _ (.there _ (.there _ (.here _)))))))) | exact .there _ (.there _ (.there _ (.there _ (.there _ (.there _ (.there _ (.there _ (.there _ (.here _))))))))) | exact .there _ (.there _ (.there _ (.there _ (.there _ (.there _ (.there _ (.there _ (.there _ (.there _ (.here _)))))))))) | exact .there _ (.there _ (.there _ (.there _ (.there _ (.there _ (.there _ (.there _ (.there _ (.there _ (.there _ (.here _))))))))))))
                    have hs9 := St.keep [_, _, _, _] _ hs
                    refine wp_skip ?_
                    refine blk_n ?_
                    refine then_n ?_
                    exact ⟨_, ⟨_, _, _, rfl, hok9, hpm9, hs9⟩, hf.sub ⟨rfl, rfl, rfl, trivial⟩⟩
              · clear hf hs a
                rintro M a w ⟨av, cvv, ps, rfl, hok, hpm, hs⟩ hf
                have hzb : 0 ≤ lkZ l ∧ lkZ l ≤ (l.length : Int) := by unfold lkZ; split <;> omega
                have hmem := lk_mem hok
                have hpb : ps.length ≤ 16777216 := by have h9 := congrArg List.length hpm; rw [List.length_map] at h9; have h8 := lkP_len hok hl1; omega
                refine wp_seq ?_
                refine wp_region_lit ?_
                refine s_m hf rfl ?_; clear hf a; intro a hf
                refine s_v hf (x_fieldAddr fo82_0 (hf.eval rfl)) ?_; clear hf a; intro a hf
                refine s_v hf (x_fieldAddr fo45_2 (hf.eval rfl)) ?_; clear hf a; intro a hf
                refine s_r hf (x_load sc3 (hf.eval rfl) (by first | exact hs.cell (.here _) rfl | exact hs.cell (.there _ (.here _)) rfl | exact hs.cell (.there _ (.there _ (.here _))) rfl | exact hs.cell (.there _ (.there _ (.there _ (.here _)))) rfl | exact hs.cell (.there _ (.there _ (.there _ (.there _ (.here _))))) rfl | exact hs.cell (.there _ (.there _ (.there _ (.there _ (.there _ (.here _)))))) rfl | exact hs.cell (.there _ (.there _ (.there _ (.there _ (.there _ (.there _ (.here _))))))) rfl | exact hs.cell (.there _ (.there _ (.there _ (.there _ (.there _ (.there _ (.there _ (.here _)))))))) rfl | exact hs.cell (.there _ (.there _ (.there _ (.there _ (.there _ (.there _ (.there _ (.there _ (.here _))))))))) rfl | exact hs.cell (.there _ (.there _ (.there _ (.there _ (.there _ (.there _ (.there _ (.there _ (.there _ (.here _)))))))))) rfl)) ?_; clear hf a; intro a hf
                replace hf := hf.now (k := 111) (v' := .int .i64 (lkZ l)) rfl (rfl)
                refine s_v hf (x_slice_hi sl25 (hf.eval rfl) (hf.eval rfl)  (by omega) (by omega)) ?_; clear hf a; intro a hf
                replace hf := hf.now (k := 112) (v' := .slice a1 (l.take (lkZ l).toNat).length c1) rfl (by rw [tkl (by omega)] <;> exact slice_eq rfl (by omega) rfl)
                refine s_do hf rfl (y_appendB (v := .slice none 0 0) (s := l.take (lkZ l).toNat) (hs.emp (slB_nil 5)) sl25 rfl rfl (hf.eval rfl) (.here _) (hs.oldB (tk_rd hr1 (by omega))) (by simp; omega) ?_); clear hf hs a; intro v2 w hs hv a hf
                simp only [List.nil_append] at hs
                obtain ⟨g, cg, rfl, hcg⟩ := slB_shape hs
                rw [tkl (show (lkZ l).toNat ≤ l.length by omega)] at hs hf
                refine s_v hf (x_fieldAddr fo82_1 (hf.eval rfl)) ?_; clear hf a; intro a hf
                replace hs := hs.take (A := cb b9 82 (fdF ((sdS l).1, (sdS l).2.1, lkZ l) (.slice none 0 0) (.slice av ps.length cvv))) (by first | exact .here _ | exact .there _ (.here _) | exact .there _ (.there _ (.here _)) | exact .there _ (.there _ (.there _ (.here _))) | exact .there _ (.there _ (.there _ (.there _ (.here _)))) | exact .there _ (.there _ (.there _ (.there _ (.there _ (.here _))))) | exact .there _ (.there _ (.there _ (.there _ (.there _ (.there _ (.here _)))))) | exact .there _ (.there _ (.there _ (.there _ (.there _ (.there _ (.there _ (.here _))))))) | exact .there _ (.there _ (.there _ (.there _ (.there _ (.there _ (.there _ (.there _ (.here _)))))))) | exact .there _ (.there _ (.there _ (.there _ (.there _ (.there _ (.there _ (.there _ (.there _ (.here _))))))))) | exact .there _ (.there _ (.there _ (.there _ (.there _ (.there _ (.there _ (.there _ (.there _ (.there _ (.here _)))))))))) | exact .there _ (.there _ (.there _ (.there _ (.there _ (.there _ (.there _ (.there _ (.there _ (.there _ (.there _ (.here _))))))))))))
                refine s_do0 hf rfl (y_store hs sc25 (hf.eval rfl) (hf.eval rfl) rfl (.here _) (by simp [fdF]) ?_); clear hf hs a; intro w hs a hf
                change St _ _ (cb b9 82 (fdF ((sdS l).1, (sdS l).2.1, lkZ l) (.slice g (lkZ l).toNat cg) (.slice av ps.length cvv)) :: _) at hs
                refine s_nil ?_
                refine then_n ?_
                refine wp_seq ?_
                refine wp_seq ?_
                refine wp_region_lit ?_
                refine s_v hf (x_fieldAddr fo82_2 (hf.eval rfl)) ?_; clear hf a; intro a hf
                refine s_r hf (x_load sc80 (hf.eval rfl) (by first | exact hs.cell (.here _) rfl | exact hs.cell (.there _ (.here _)) rfl | exact hs.cell (.there _ (.there _ (.here _))) rfl | exact hs.cell (.there _ (.there _ (.there _ (.here _)))) rfl | exact hs.cell (.there _ (.there _ (.there _ (.there _ (.here _))))) rfl | exact hs.cell (.there _ (.there _ (.there _ (.there _ (.there _ (.here _)))))) rfl | exact hs.cell (.there _ (.there _ (.there _ (.there _ (.there _ (.there _ (.here _))))))) rfl | exact hs.cell (.there _ (.there _ (.there _ (.there _ (.there _ (.there _ (.there _ (.here _)))))))) rfl | exact hs.cell (.there _ (.there _ (.there _ (.there _ (.there _ (.there _ (.there _ (.there _ (.here _))))))))) rfl | exact hs.cell (.there _ (.there _ (.there _ (.there _ (.there _ (.there _ (.there _ (.there _ (.there _ (.here _)))))))))) rfl)) ?_; clear hf a; intro a hf
                refine s_v hf (x_len Tryd.underlying80 (hf.eval rfl)) ?_; clear hf a; intro a hf
                refine s_m hf rfl ?_; clear hf a; intro a hf
                refine s_nil ?_
                refine then_n ?_
                refine wp_block ?_
                replace hs := hs.take (A := cb b2 82 (fdF (0, 0, 0) (.slice none 0 0) (.slice none 0 0))) (by first | exact .here _ | exact .there _ (.here _) | exact .there _ (.there _ (.here _)) | exact .there _ (.there _ (.there _ (.here _))) | exact .there _ (.there _ (.there _ (.there _ (.here _)))) | exact .there _ (.there _ (.there _ (.there _ (.there _ (.here _))))) | exact .there _ (.there _ (.there _ (.there _ (.there _ (.there _ (.here _)))))) | exact .there _ (.there _ (.there _ (.there _ (.there _ (.there _ (.there _ (.here _))))))) | exact .there _ (.there _ (.there _ (.there _ (.there _ (.there _ (.there _ (.there _ (.here _)))))))) | exact .there _ (.there _ (.there _ (.there _ (.there _ (.there _ (.there _ (.there _ (.there _ (.here _))))))))) | exact .there _ (.there _ (.there _ (.there _ (.there _ (.there _ (.there _ (.there _ (.there _ (.there _ (.here _)))))))))) | exact .there _ (.there _ (.there _ (.there _ (.there _ (.there _ (.there _ (.there _ (.there _ (.there _ (.there _ (.here _))))))))))))
                replace hs := hs.take (A := datR ps) (by first | exact .here _ | exact .there _ (.here _) | exact .there _ (.there _ (.here _)) | exact .there _ (.there _ (.there _ (.here _))) | exact .there _ (.there _ (.there _ (.there _ (.here _)))) | exact .there _ (.there _ (.there _ (.there _ (.there _ (.here _))))) | exact .there _ (.there _ (.there _ (.there _ (.there _ (.there _ (.here _)))))) | exact .there _ (.there _ (.there _ (.there _ (.there _ (.there _ (.there _ (.here _))))))) | exact .there _ (.there _ (.there _ (.there _ (.there _ (.there _ (.there _ (.there _ (.here _)))))))) | exact .there _ (.there _ (.there _ (.there _ (.there _ (.there _ (.there _ (.there _ (.there _ (.here _))))))))) | exact .there _ (.there _ (.there _ (.there _ (.there _ (.there _ (.there _ (.there _ (.there _ (.there _ (.here _)))))))))) | exact .there _ (.there _ (.there _ (.there _ (.there _ (.there _ (.there _ (.there _ (.there _ (.there _ (.there _ (.here _))))))))))))
                replace hs := hs.take (A := sl 110 2 (.slice av ps.length cvv) ps.length (ps.flatMap pcF)) (by first | exact .here _ | exact .there _ (.here _) | exact .there _ (.there _ (.here _)) | exact .there _ (.there _ (.there _ (.here _))) | exact .there _ (.there _ (.there _ (.there _ (.here _)))) | exact .there _ (.there _ (.there _ (.there _ (.there _ (.here _))))) | exact .there _ (.there _ (.there _ (.there _ (.there _ (.there _ (.here _)))))) | exact .there _ (.there _ (.there _ (.there _ (.there _ (.there _ (.there _ (.here _))))))) | exact .there _ (.there _ (.there _ (.there _ (.there _ (.there _ (.there _ (.there _ (.here _)))))))) | exact .there _ (.there _ (.there _ (.there _ (.there _ (.there _ (.there _ (.there _ (.there _ (.here _))))))))) | exact .there _ (.there _ (.there _ (.there _ (.there _ (.there _ (.there _ (.there _ (.there _ (.there _ (.here _)))))))))) | exact .there _ (.there _ (.there _ (.there _ (.there _ (.there _ (.there _ (.there _ (.there _ (.there _ (.there _ (.here _))))))))))))
                replace hs := hs.take (A := cb b9 82 (fdF ((sdS l).1, (sdS l).2.1, lkZ l) (.slice g (lkZ l).toNat cg) (.slice av ps.length cvv))) (by first | exact .here _ | exact .there _ (.here _) | exact .there _ (.there _ (.here _)) | exact .there _ (.there _ (.there _ (.here _))) | exact .there _ (.there _ (.there _ (.there _ (.here _)))) | exact .there _ (.there _ (.there _ (.there _ (.there _ (.here _))))) | exact .there _ (.there _ (.there _ (.there _ (.there _ (.there _ (.here _)))))) | exact .there _ (.there _ (.there _ (.there _ (.there _ (.there _ (.there _ (.here _))))))) | exact .there _ (.there _ (.there _ (.there _ (.there _ (.there _ (.there _ (.there _ (.here _)))))))) | exact .there _ (.there _ (.there _ (.there _ (.there _ (.there _ (.there _ (.there _ (.there _ (.here _))))))))) | exact .there _ (.there _ (.there _ (.there _ (.there _ (.there _ (.there _ (.there _ (.there _ (.there _ (.here _)))))))))) | exact .there _ (.there _ (.there _ (.there _ (.there _ (.there _ (.there _ (.there _ (.there _ (.there _ (.there _ (.here _))))))))))))
                replace hs := hs.take (A := slB 5 (.slice g (lkZ l).toNat cg) (l.take (lkZ l).toNat)) (by first | exact .here _ | exact .there _ (.here _) | exact .there _ (.there _ (.here _)) | exact .there _ (.there _ (.there _ (.here _))) | exact .there _ (.there _ (.there _ (.there _ (.here _)))) | exact .there _ (.there _ (.there _ (.there _ (.there _ (.here _))))) | exact .there _ (.there _ (.there _ (.there _ (.there _ (.there _ (.here _)))))) | exact .there _ (.there _ (.there _ (.there _ (.there _ (.there _ (.there _ (.here _))))))) | exact .there _ (.there _ (.there _ (.there _ (.there _ (.there _ (.there _ (.there _ (.here _)))))))) | exact .there _ (.there _ (.there _ (.there _ (.there _ (.there _ (.there _ (.there _ (.there _ (.here _))))))))) | exact .there _ (.there _ (.there _ (.there _ (.there _ (.there _ (.there _ (.there _ (.there _ (.there _ (.here _)))))))))) | exact .there _ (.there _ (.there _ (.there _ (.there _ (.there _ (.there _ (.there _ (.there _ (.there _ (.there _ (.here _))))))))))))
                replace hs := St.keep [_, _, _, _, _] _ hs
                refine c_loop (L0 := [(2, _), (9, _), (116, _), (117, _)]) (fun M w m => ∃ i : Nat, M = [(118, .int .i64 (i : Int))] ∧ ps.length - i = m ∧ i ≤ ps.length ∧ St ⟨w0, None_⟩ w [slB 5 (.slice g (lkZ l).toNat cg) (putPs (l.take (lkZ l).toNat) ((ps.map pcOf).take i)), cb b9 82 (fdF ((sdS l).1, (sdS l).2.1, lkZ l) (.slice g (lkZ l).toNat cg) (.slice av ps.length cvv)), sl 110 2 (.slice av ps.length cvv) ps.length (ps.flatMap pcF), datR ps, cb b2 82 (fdF (0, 0, 0) (.slice none 0 0) (.slice none 0 0))]) (M0 := _) (⟨0, rfl, rfl, Nat.zero_le _, by rw [List.take_zero, putPsN]; exact hs⟩) (hf.sub ⟨rfl, rfl, rfl, rfl, rfl, trivial⟩) ?_
                clear hf hs a
                rintro M m a w ⟨i, rfl, rfl, hi, hs⟩ hf
                refine wp_seq ?_
                refine wp_region_lit ?_
                refine s_v hf (x_bin (hf.eval rfl) (hf.eval rfl) (r_lt _ _ _ _)) ?_; clear hf a; intro a hf
                refine s_nil ?_
                refine then_n ?_
                refine wp_seq ?_
                refine c_cond hf rfl (fun hi6 => ?_) (fun hi6 => ?_)
                · simp only [decide_eq_true_eq, decide_eq_false_iff_not, Bool.not_eq_true', Bool.not_eq_false', Bool.not_eq_true, Int.not_lt, Int.not_le] at hi6
                  have hlt : i < ps.length := by omega
                  have hpl : i < (ps.map pcOf).length := by simpa using hlt
                  obtain ⟨hq1, hq2⟩ := hmem (pcOf ps[i]) (by rw [← hpm]; exact List.mem_map_of_mem (List.getElem_mem hlt))
                  have hq1 : 1 ≤ ps[i].2.2.length := hq1
                  have hq2 : ((ps[i].1 + ps[i].2.2.length : Nat) : Int) ≤ lkZ l := hq2
                  have hpil : (putPs (l.take (lkZ l).toNat) ((ps.map pcOf).take i)).length = (lkZ l).toNat := by rw [putPs_len, tkl (by omega)]
                  obtain ⟨gb, gc, hge, _⟩ := slB_block hs (by rw [hpil]; omega)
                  injection hge with hge1 hge2 hge3
                  subst hge1
                  replace hs := hs.take (A := sl 110 2 (.slice av ps.length cvv) ps.length (ps.flatMap pcF)) (by first | exact .here _ | exact .there _ (.here _) | exact .there _ (.there _ (.here _)) | exact .there _ (.there _ (.there _ (.here _))) | exact .there _ (.there _ (.there _ (.there _ (.here _)))) | exact .there _ (.there _ (.there _ (.there _ (.there _ (.here _))))) | exact .there _ (.there _ (.there _ (.there _ (.there _ (.there _ (.here _)))))) | exact .there _ (.there _ (.there _ (.there _ (.there _ (.there _ (.there _ (.here _))))))) | exact .there _ (.there _ (.there _ (.there _ (.there _ (.there _ (.there _ (.there _ (.here _)))))))) | exact .there _ (.there _ (.there _ (.there _ (.there _ (.there _ (.there _ (.there _ (.there _ (.here _))))))))) | exact .there _ (.there _ (.there _ (.there _ (.there _ (.there _ (.there _ (.there _ (.there _ (.there _ (.here _)))))))))) | exact .there _ (.there _ (.there _ (.there _ (.there _ (.there _ (.there _ (.there _ (.there _ (.there _ (.there _ (.here _))))))))))))
                  obtain ⟨av, rfl⟩ := sl_some hs (by omega)
                  have hpd := hs.datR (by first | exact .here _ | exact .there _ (.here _) | exact .there _ (.there _ (.here _)) | exact .there _ (.there _ (.there _ (.here _))) | exact .there _ (.there _ (.there _ (.there _ (.here _)))) | exact .there _ (.there _ (.there _ (.there _ (.there _ (.here _))))) | exact .there _ (.there _ (.there _ (.there _ (.there _ (.there _ (.here _)))))) | exact .there _ (.there _ (.there _ (.there _ (.there _ (.there _ (.there _ (.here _))))))) | exact .there _ (.there _ (.there _ (.there _ (.there _ (.there _ (.there _ (.there _ (.here _)))))))) | exact .there _ (.there _ (.there _ (.there _ (.there _ (.there _ (.there _ (.there _ (.there _ (.here _)))))))))) hlt
                  obtain ⟨pa, pk, hpv⟩ := hpd.shape
                  refine wp_skip ?_
                  refine then_n ?_
                  refine wp_seq ?_
                  refine wp_block ?_
                  refine wp_seq ?_
                  refine wp_region_lit ?_
                  refine s_v hf (x_indexAddr sl80 (hf.eval rfl) (hf.eval rfl) (by omega) (by omega)) ?_; clear hf a; intro a hf
                  refine s_r hf (x_loadS (f := pcF) ag110 (fun _ => rfl) (hs.rd (A := sl 110 2 (.slice (some av) ps.length cvv) ps.length (ps.flatMap pcF)) (by first | exact .here _ | exact .there _ (.here _) | exact .there _ (.there _ (.here _)) | exact .there _ (.there _ (.there _ (.here _))) | exact .there _ (.there _ (.there _ (.there _ (.here _)))) | exact .there _ (.there _ (.there _ (.there _ (.there _ (.here _))))) | exact .there _ (.there _ (.there _ (.there _ (.there _ (.there _ (.here _)))))) | exact .there _ (.there _ (.there _ (.there _ (.there _ (.there _ (.there _ (.here _))))))) | exact .there _ (.there _ (.there _ (.there _ (.there _ (.there _ (.there _ (.there _ (.here _)))))))) | exact .there _ (.there _ (.there _ (.there _ (.there _ (.there _ (.there _ (.there _ (.there _ (.here _)))))))))) fun h hh => sl_rd hh) (hf.eval rfl) (by rw [Int.toNat_natCast]; exact hlt)) ?_; clear hf a; intro a hf
                  replace hf := hf.now (k := 121) (v' := .agg (pcF ps[i]).toArray) rfl (rfl)
                  refine s_do hf rfl (y_alloc hs Tryd.zeroValue110 ?_); clear hf hs a; intro b13 w hs a hf
                  change St _ _ (cb b13 110 [.int .i64 0, .slice none 0 0] :: _) at hs
                  refine s_do0 hf rfl (y_storeAgg (cs := pcF ps[i]) hs (n := 2) (by kernel_rfl) (hf.eval rfl) (hf.eval rfl) (pcF_one hpd) rfl rfl (.here _) ?_); clear hf hs a; intro w hs a hf
                  refine s_nil ?_
                  refine then_n ?_
                  refine c_draw hs (fun _ => True) [.held, .read, .held, .read, .held, .held, .read, .fin] (by kernel_rfl) (by kernel_rfl) (fun _ _ _ => trivial) ?_
                  clear hs; intro w hs hC hw
                  refine m_held hf rfl (fun w' _ => x_fieldAddr fo82_1 (hf.eval rfl) w') ?_; clear hf a; intro a hf
                  replace hs := hs.take (A := cb b9 82 (fdF ((sdS l).1, (sdS l).2.1, lkZ l) (.slice (some ⟨gb, 0, none⟩) (lkZ l).toNat cg) (.slice (some av) ps.length cvv))) (by first | exact .here _ | exact .there _ (.here _) | exact .there _ (.there _ (.here _)) | exact .there _ (.there _ (.there _ (.here _))) | exact .there _ (.there _ (.there _ (.there _ (.here _)))) | exact .there _ (.there _ (.there _ (.there _ (.there _ (.here _))))) | exact .there _ (.there _ (.there _ (.there _ (.there _ (.there _ (.here _)))))) | exact .there _ (.there _ (.there _ (.there _ (.there _ (.there _ (.there _ (.here _))))))) | exact .there _ (.there _ (.there _ (.there _ (.there _ (.there _ (.there _ (.there _ (.here _)))))))) | exact .there _ (.there _ (.there _ (.there _ (.there _ (.there _ (.there _ (.there _ (.there _ (.here _))))))))) | exact .there _ (.there _ (.there _ (.there _ (.there _ (.there _ (.there _ (.there _ (.there _ (.there _ (.here _)))))))))) | exact .there _ (.there _ (.there _ (.there _ (.there _ (.there _ (.there _ (.there _ (.there _ (.there _ (.there _ (.here _))))))))))))
                  refine m_read hf rfl (x_load sc25 (hf.eval rfl) (by first | exact hs.cell (.here _) rfl | exact hs.cell (.there _ (.here _)) rfl | exact hs.cell (.there _ (.there _ (.here _))) rfl | exact hs.cell (.there _ (.there _ (.there _ (.here _)))) rfl | exact hs.cell (.there _ (.there _ (.there _ (.there _ (.here _))))) rfl | exact hs.cell (.there _ (.there _ (.there _ (.there _ (.there _ (.here _)))))) rfl | exact hs.cell (.there _ (.there _ (.there _ (.there _ (.there _ (.there _ (.here _))))))) rfl | exact hs.cell (.there _ (.there _ (.there _ (.there _ (.there _ (.there _ (.there _ (.here _)))))))) rfl | exact hs.cell (.there _ (.there _ (.there _ (.there _ (.there _ (.there _ (.there _ (.there _ (.here _))))))))) rfl | exact hs.cell (.there _ (.there _ (.there _ (.there _ (.there _ (.there _ (.there _ (.there _ (.there _ (.here _)))))))))) rfl)) ?_; clear hf a; intro a hf
                  refine m_held hf rfl (fun w' _ => x_fieldAddr fo110_0 (hf.eval rfl) w') ?_; clear hf a; intro a hf
                  refine m_read hf rfl (x_load sc3 (hf.eval rfl) (by first | exact hs.cell (.here _) rfl | exact hs.cell (.there _ (.here _)) rfl | exact hs.cell (.there _ (.there _ (.here _))) rfl | exact hs.cell (.there _ (.there _ (.there _ (.here _)))) rfl | exact hs.cell (.there _ (.there _ (.there _ (.there _ (.here _))))) rfl | exact hs.cell (.there _ (.there _ (.there _ (.there _ (.there _ (.here _)))))) rfl | exact hs.cell (.there _ (.there _ (.there _ (.there _ (.there _ (.there _ (.here _))))))) rfl | exact hs.cell (.there _ (.there _ (.there _ (.there _ (.there _ (.there _ (.there _ (.here _)))))))) rfl | exact hs.cell (.there _ (.there _ (.there _ (.there _ (.there _ (.there _ (.there _ (.there _ (.here _))))))))) rfl | exact hs.cell (.there _ (.there _ (.there _ (.there _ (.there _ (.there _ (.there _ (.there _ (.there _ (.here _)))))))))) rfl)) ?_; clear hf a; intro a hf
                  refine m_held hf rfl (fun w' _ => x_slice_lo sl25 (hf.eval rfl) (hf.eval rfl)  (by omega) (by omega) w') ?_; clear hf a; intro a hf
                  refine m_held hf rfl (fun w' _ => x_fieldAddr fo110_1 (hf.eval rfl) w') ?_; clear hf a; intro a hf
                  refine m_read hf rfl (x_load sc25 (hf.eval rfl) (by first | exact hs.cell (.here _) rfl | exact hs.cell (.there _ (.here _)) rfl | exact hs.cell (.there _ (.there _ (.here _))) rfl | exact hs.cell (.there _ (.there _ (.there _ (.here _)))) rfl | exact hs.cell (.there _ (.there _ (.there _ (.there _ (.here _))))) rfl | exact hs.cell (.there _ (.there _ (.there _ (.there _ (.there _ (.here _)))))) rfl | exact hs.cell (.there _ (.there _ (.there _ (.there _ (.there _ (.there _ (.here _))))))) rfl | exact hs.cell (.there _ (.there _ (.there _ (.there _ (.there _ (.there _ (.there _ (.here _)))))))) rfl | exact hs.cell (.there _ (.there _ (.there _ (.there _ (.there _ (.there _ (.there _ (.there _ (.here _))))))))) rfl | exact hs.cell (.there _ (.there _ (.there _ (.there _ (.there _ (.there _ (.there _ (.there _ (.there _ (.here _)))))))))) rfl)) ?_; clear hf a; intro a hf
                  replace hf := hf.now (k := 128) (v' := .slice pa ps[i].2.2.length pk) rfl (hpv)
                  refine m_fin hf rfl (y_copyAt (T := 5) (n := (lkZ l).toNat) (o := ps[i].1) (s := ps[i].2.2) hs sl25 (hf.eval rfl) rfl (hf.eval rfl) (by first | exact .here _ | exact .there _ (.here _) | exact .there _ (.there _ (.here _)) | exact .there _ (.there _ (.there _ (.here _))) | exact .there _ (.there _ (.there _ (.there _ (.here _)))) | exact .there _ (.there _ (.there _ (.there _ (.there _ (.here _))))) | exact .there _ (.there _ (.there _ (.there _ (.there _ (.there _ (.here _)))))) | exact .there _ (.there _ (.there _ (.there _ (.there _ (.there _ (.there _ (.here _))))))) | exact .there _ (.there _ (.there _ (.there _ (.there _ (.there _ (.there _ (.there _ (.here _)))))))) | exact .there _ (.there _ (.there _ (.there _ (.there _ (.there _ (.there _ (.there _ (.there _ (.here _)))))))))) (by rw [← hpv]; exact hs.datR (by first | exact .here _ | exact .there _ (.here _) | exact .there _ (.there _ (.here _)) | exact .there _ (.there _ (.there _ (.here _))) | exact .there _ (.there _ (.there _ (.there _ (.here _)))) | exact .there _ (.there _ (.there _ (.there _ (.there _ (.here _))))) | exact .there _ (.there _ (.there _ (.there _ (.there _ (.there _ (.here _)))))) | exact .there _ (.there _ (.there _ (.there _ (.there _ (.there _ (.there _ (.here _))))))) | exact .there _ (.there _ (.there _ (.there _ (.there _ (.there _ (.there _ (.there _ (.here _)))))))) | exact .there _ (.there _ (.there _ (.there _ (.there _ (.there _ (.there _ (.there _ (.there _ (.here _)))))))))) hlt) (by omega) hpil ?_); clear hf hs a; intro w hs; intro a hf
                  rw [show min ps[i].2.2.length ((lkZ l).toNat - ps[i].1) = ps[i].2.2.length by omega, List.take_length] at hs
                  have hsn : putPs (l.take (lkZ l).toNat) ((ps.map pcOf).take (i + 1)) = spl (putPs (l.take (lkZ l).toNat) ((ps.map pcOf).take i)) ps[i].1 ps[i].2.2 := by
                    rw [List.take_succ_eq_append_getElem hpl, putPs_snoc, List.getElem_map]
                    exact putP_fit (by rw [hpil]; omega) (by omega)
                  rw [← hsn] at hs
                  replace hs := hs.take (A := cb b2 82 (fdF (0, 0, 0) (.slice none 0 0) (.slice none 0 0))) (by first | exact .here _ | exact .there _ (.here _) | exact .there _ (.there _ (.here _)) | exact .there _ (.there _ (.there _ (.here _))) | exact .there _ (.there _ (.there _ (.there _ (.here _)))) | exact .there _ (.there _ (.there _ (.there _ (.there _ (.here _))))) | exact .there _ (.there _ (.there _ (.there _ (.there _ (.there _ (.here _)))))) | exact .there _ (.there _ (.there _ (.there _ (.there _ (.there _ (.there _ (.here _))))))) | exact .there _ (.there _ (.there _ (.there _ (.there _ (.there _ (.there _ (.there _ (.here _)))))))) | exact .there _ (.there _ (.there _ (.there _ (.there _ (.there _ (.there _ (.there _ (.there _ (.here _))))))))) | exact .there _ (.there _ (.there _ (.there _ (.there _ (.there _ (.there _ (.there _ (.there _ (.there _ (.here _)))))))))) | exact .there _ (.there _ (.there _ (.there _ (.there _ (.there _ (.there _ (.there _ (.there _ (.there _ (.there _ (.here _))))))))))))
                  replace hs := hs.take (A := datR ps) (by first | exact .here _ | exact .there _ (.here _) | exact .there _ (.there _ (.here _)) | exact .there _ (.there _ (.there _ (.here _))) | exact .there _ (.there _ (.there _ (.there _ (.here _)))) | exact .there _ (.there _ (.there _ (.there _ (.there _ (.here _))))) | exact .there _ (.there _ (.there _ (.there _ (.there _ (.there _ (.here _)))))) | exact .there _ (.there _ (.there _ (.there _ (.there _ (.there _ (.there _ (.here _))))))) | exact .there _ (.there _ (.there _ (.there _ (.there _ (.there _ (.there _ (.there _ (.here _)))))))) | exact .there _ (.there _ (.there _ (.there _ (.there _ (.there _ (.there _ (.there _ (.there _ (.here _))))))))) | exact .there _ (.there _ (.there _ (.there _ (.there _ (.there _ (.there _ (.there _ (.there _ (.there _ (.here _)))))))))) | exact .there _ (.there _ (.there _ (.there _ (.there _ (.there _ (.there _ (.there _ (.there _ (.there _ (.there _ (.here _))))))))))))
                  replace hs := hs.take (A := sl 110 2 (.slice (some av) ps.length cvv) ps.length (ps.flatMap pcF)) (by first | exact .here _ | exact .there _ (.here _) | exact .there _ (.there _ (.here _)) | exact .there _ (.there _ (.there _ (.here _))) | exact .there _ (.there _ (.there _ (.there _ (.here _)))) | exact .there _ (.there _ (.there _ (.there _ (.there _ (.here _))))) | exact .there _ (.there _ (.there _ (.there _ (.there _ (.there _ (.here _)))))) | exact .there _ (.there _ (.there _ (.there _ (.there _ (.there _ (.there _ (.here _))))))) | exact .there _ (.there _ (.there _ (.there _ (.there _ (.there _ (.there _ (.there _ (.here _)))))))) | exact .there _ (.there _ (.there _ (.there _ (.there _ (.there _ (.there _ (.there _ (.there _ (.here _))))))))) | exact .there _ (.there _ (.there _ (.there _ (.there _ (.there _ (.there _ (.there _ (.there _ (.there _ (.here _)))))))))) | exact .there _ (.there _ (.there _ (.there _ (.there _ (.there _ (.there _ (.there _ (.there _ (.there _ (.there _ (.here _))))))))))))
                  replace hs := hs.take (A := cb b9 82 (fdF ((sdS l).1, (sdS l).2.1, lkZ l) (.slice (some ⟨gb, 0, none⟩) (lkZ l).toNat cg) (.slice (some av) ps.length cvv))) (by first | exact .here _ | exact .there _ (.here _) | exact .there _ (.there _ (.here _)) | exact .there _ (.there _ (.there _ (.here _))) | exact .there _ (.there _ (.there _ (.there _ (.here _)))) | exact .there _ (.there _ (.there _ (.there _ (.there _ (.here _))))) | exact .there _ (.there _ (.there _ (.there _ (.there _ (.there _ (.here _)))))) | exact .there _ (.there _ (.there _ (.there _ (.there _ (.there _ (.there _ (.here _))))))) | exact .there _ (.there _ (.there _ (.there _ (.there _ (.there _ (.there _ (.there _ (.here _)))))))) | exact .there _ (.there _ (.there _ (.there _ (.there _ (.there _ (.there _ (.there _ (.there _ (.here _))))))))) | exact .there _ (.there _ (.there _ (.there _ (.there _ (.there _ (.there _ (.there _ (.there _ (.there _ (.here _)))))))))) | exact .there _ (.there _ (.there _ (.there _ (.there _ (.there _ (.there _ (.there _ (.there _ (.there _ (.there _ (.here _))))))))))))
                  replace hs : St _ _ (slB 5 (.slice (some ⟨gb, 0, none⟩) (lkZ l).toNat cg) (putPs (l.take (lkZ l).toNat) ((ps.map pcOf).take (i + 1))) :: _) := hs.take (A := slB 5 (.slice (some ⟨gb, 0, none⟩) (lkZ l).toNat cg) (putPs (l.take (lkZ l).toNat) ((ps.map pcOf).take (i + 1)))) (by first | exact .here _ | exact .there _ (.here _) | exact .there _ (.there _ (.here _)) | exact .there _ (.there _ (.there _ (.here _))) | exact .there _ (.there _ (.there _ (.there _ (.here _)))) | exact .there _ (.there _ (.there _ (.there _ (.there _ (.here _))))) | exact .there _ (.there _ (.there _ (.there _ (.there _ (.there _ (.here _)))))) | exact .there _ (.there _ (.there _ (.there _ (.there _ (.there _ (.there _ (.here _))))))) | exact .there _ (.there _ (.there _ (.there _ (.there _ (.there _ (.there _ (.there _ (.here _)))))))) | exact .there _ (.there _ (.there _ (.there _ (.there _ (.there _ (.there _ (.there _ (.there _ (.here _))))))))))
                  replace hs := St.keep [_, _, _, _, _] _ hs
                  refine blk_n ?_
                  refine then_n ?_
                  refine wp_region_lit ?_
                  refine s_v hf (x_bin (hf.eval rfl) (hf.eval rfl) (r_addi _ (by omega) (by omega))) ?_; clear hf a; intro a hf
                  refine s_m hf rfl ?_; clear hf a; intro a hf
                  refine s_nil ?_
                  exact ⟨_, _, ⟨i + 1, rfl, rfl, by omega, hs⟩, by omega, hf.sub ⟨rfl, rfl, rfl, rfl, rfl, trivial⟩⟩
                · simp only [decide_eq_true_eq, decide_eq_false_iff_not, Bool.not_eq_true', Bool.not_eq_false', Bool.not_eq_true, Int.not_lt, Int.not_le] at hi6
                  obtain rfl : i = ps.length := by omega
                  rw [show (ps.map pcOf).take ps.length = lkP l by rw [← hpm]; exact List.take_of_length_le (by simp)] at hs
                  refine wp_exit ?_
                  refine then_x ?_
                  refine then_x ?_
                  refine blk_x ?_
                  refine then_n ?_
                  refine wp_seq ?_
                  refine wp_region_lit ?_
                  replace hs := hs.take (A := cb b9 82 (fdF ((sdS l).1, (sdS l).2.1, lkZ l) (.slice g (lkZ l).toNat cg) (.slice av ps.length cvv))) (by first | exact .here _ | exact .there _ (.here _) | exact .there _ (.there _ (.here _)) | exact .there _ (.there _ (.there _ (.here _))) | exact .there _ (.there _ (.there _ (.there _ (.here _)))) | exact .there _ (.there _ (.there _ (.there _ (.there _ (.here _))))) | exact .there _ (.there _ (.there _ (.there _ (.there _ (.there _ (.here _)))))) | exact .there _ (.there _ (.there _ (.there _ (.there _ (.there _ (.there _ (.here _))))))) | exact .there _ (.there _ (.there _ (.there _ (.there _ (.there _ (.there _ (.there _ (.here _)))))))) | exact .there _ (.there _ (.there _ (.there _ (.there _ (.there _ (.there _ (.there _ (.there _ (.here _))))))))) | exact .there _ (.there _ (.there _ (.there _ (.there _ (.there _ (.there _ (.there _ (.there _ (.there _ (.here _)))))))))) | exact .there _ (.there _ (.there _ (.there _ (.there _ (.there _ (.there _ (.there _ (.there _ (.there _ (.there _ (.here _))))))))))))
                  refine s_r hf (x_loadBlk hs ag82 (hf.eval rfl) rfl (.here _)) ?_; clear hf a; intro a hf
                  replace hs := hs.take (A := cb b2 82 (fdF (0, 0, 0) (.slice none 0 0) (.slice none 0 0))) (by first | exact .here _ | exact .there _ (.here _) | exact .there _ (.there _ (.here _)) | exact .there _ (.there _ (.there _ (.here _))) | exact .there _ (.there _ (.there _ (.there _ (.here _)))) | exact .there _ (.there _ (.there _ (.there _ (.there _ (.here _))))) | exact .there _ (.there _ (.there _ (.there _ (.there _ (.there _ (.here _)))))) | exact .there _ (.there _ (.there _ (.there _ (.there _ (.there _ (.there _ (.here _))))))) | exact .there _ (.there _ (.there _ (.there _ (.there _ (.there _ (.there _ (.there _ (.here _)))))))) | exact .there _ (.there _ (.there _ (.there _ (.there _ (.there _ (.there _ (.there _ (.there _ (.here _))))))))) | exact .there _ (.there _ (.there _ (.there _ (.there _ (.there _ (.there _ (.there _ (.there _ (.there _ (.here _)))))))))) | exact .there _ (.there _ (.there _ (.there _ (.there _ (.there _ (.there _ (.there _ (.there _ (.there _ (.there _ (.here _))))))))))))
                  refine s_do0 hf rfl (y_storeAgg (cs := fdF ((sdS l).1, (sdS l).2.1, lkZ l) (.slice g (lkZ l).toNat cg) (.slice av ps.length cvv)) hs (n := 5) (by kernel_rfl) (hf.eval rfl) (hf.eval rfl) (by simp [Value.oneCell', fdF]) rfl rfl (.here _) ?_); clear hf hs a; intro w hs a hf
                  refine s_a hf rfl ?_; clear hf a; intro a hf
                  refine s_nil ?_
                  refine then_n ?_
                  refine wp_ret ?_
                  refine r_2c hf Tryd.results81 rfl rfl hs ag82 rfl (.here _) ?_
                  rw [hok]
                  replace hs := hs.take (A := datR ps) (by first | exact .here _ | exact .there _ (.here _) | exact .there _ (.there _ (.here _)) | exact .there _ (.there _ (.there _ (.here _))) | exact .there _ (.there _ (.there _ (.there _ (.here _)))) | exact .there _ (.there _ (.there _ (.there _ (.there _ (.here _))))) | exact .there _ (.there _ (.there _ (.there _ (.there _ (.there _ (.here _)))))) | exact .there _ (.there _ (.there _ (.there _ (.there _ (.there _ (.there _ (.here _))))))) | exact .there _ (.there _ (.there _ (.there _ (.there _ (.there _ (.there _ (.there _ (.here _)))))))) | exact .there _ (.there _ (.there _ (.there _ (.there _ (.there _ (.there _ (.there _ (.there _ (.here _))))))))) | exact .there _ (.there _ (.there _ (.there _ (.there _ (.there _ (.there _ (.there _ (.there _ (.there _ (.here _)))))))))) | exact .there _ (.there _ (.there _ (.there _ (.there _ (.there _ (.there _ (.there _ (.there _ (.there _ (.there _ (.here _))))))))))))
                  replace hs := hs.take (A := sl 110 2 (.slice av ps.length cvv) ps.length (ps.flatMap pcF)) (by first | exact .here _ | exact .there _ (.here _) | exact .there _ (.there _ (.here _)) | exact .there _ (.there _ (.there _ (.here _))) | exact .there _ (.there _ (.there _ (.there _ (.here _)))) | exact .there _ (.there _ (.there _ (.there _ (.there _ (.here _))))) | exact .there _ (.there _ (.there _ (.there _ (.there _ (.there _ (.here _)))))) | exact .there _ (.there _ (.there _ (.there _ (.there _ (.there _ (.there _ (.here _))))))) | exact .there _ (.there _ (.there _ (.there _ (.there _ (.there _ (.there _ (.there _ (.here _)))))))) | exact .there _ (.there _ (.there _ (.there _ (.there _ (.there _ (.there _ (.there _ (.there _ (.here _))))))))) | exact .there _ (.there _ (.there _ (.there _ (.there _ (.there _ (.there _ (.there _ (.there _ (.there _ (.here _)))))))))) | exact .there _ (.there _ (.there _ (.there _ (.there _ (.there _ (.there _ (.there _ (.there _ (.there _ (.there _ (.here _))))))))))))
                  replace hs := hs.take (A := slB 5 (.slice g (lkZ l).toNat cg) (putPs (l.take (lkZ l).toNat) (lkP l))) (by first | exact .here _ | exact .there _ (.here _) | exact .there _ (.there _ (.here _)) | exact .there _ (.there _ (.there _ (.here _))) | exact .there _ (.there _ (.there _ (.there _ (.here _)))) | exact .there _ (.there _ (.there _ (.there _ (.there _ (.here _))))) | exact .there _ (.there _ (.there _ (.there _ (.there _ (.there _ (.here _)))))) | exact .there _ (.there _ (.there _ (.there _ (.there _ (.there _ (.there _ (.here _))))))) | exact .there _ (.there _ (.there _ (.there _ (.there _ (.there _ (.there _ (.there _ (.here _)))))))) | exact .there _ (.there _ (.there _ (.there _ (.there _ (.there _ (.there _ (.there _ (.there _ (.here _))))))))) | exact .there _ (.there _ (.there _ (.there _ (.there _ (.there _ (.there _ (.there _ (.there _ (.there _ (.here _)))))))))) | exact .there _ (.there _ (.there _ (.there _ (.there _ (.there _ (.there _ (.there _ (.there _ (.there _ (.there _ (.here _))))))))))))
                  have hcl : (putPs (l.take (lkZ l).toNat) (lkP l)).length = (lkZ l).toNat := by rw [putPs_len, tkl (by omega)]
                  exact ⟨((sdS l).1, (sdS l).2.1, lkZ l), .slice g (lkZ l).toNat cg, (.slice av ps.length cvv), _, ps, rfl, fun _ => ⟨rfl, rfl, by rw [hcl]; exact ⟨g, cg, rfl⟩, hpm⟩, St.keep [_, _, _] _ hs⟩

end Go.Proofs.YtehakfbfjpolfaaDoor
