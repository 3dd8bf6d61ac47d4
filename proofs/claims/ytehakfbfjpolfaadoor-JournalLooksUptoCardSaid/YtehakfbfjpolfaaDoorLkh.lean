/- What a file says: looked, Look, Quiet. -/
import Derived.Test.YtehakfbfjpolfaaDoorVZ
import Derived.Test.YtehakfbfjpolfaaDoorLkg
import Derived.Test.YtehakfbfjpolfaaDoorProg
import Derived.Test.YtehakfbfjpolfaaDoorFacts
set_option maxRecDepth 100000
set_option linter.all false
namespace Go.Proofs.YtehakfbfjpolfaaDoor
open Go Vw
theorem lk_blank {l : List UInt8} (h : 1024 ≤ zt l) : lkV l = ((1, 0, ((l.length - zt l / 1024 * 1024 : Nat) : Int)), l.take (l.length - zt l / 1024 * 1024)) := by unfold lkV; rw [if_pos h]

attribute [local irreducible] Vw.sl Vw.sdS Vw.bodyS Vw.zt Vw.putPs Vw.seOk Vw.bkOk Vw.lkZ Vw.lkP Vw.lkOk Vw.lkV

theorem looked_spec (w0 : World) (hT : Tab 0 (hp w0)) (a1 : Option Addr) (c1 : Nat) (l : List UInt8) (hr1 : RdB (hp w0) (.slice a1 l.length c1) l) (hl1 : l.length ≤ 16777216) : Calls Tryd.prog 55 #[.slice a1 l.length c1] w0 fun e w' => ∃ (g : Option Addr) (cg : Nat) (bv : Value) (ps : List Pt), e = .returned (.agg (fdF (lkV l).1 (.slice g (lkV l).2.length cg) bv).toArray) ∧ (zt l < 1024 → lkOk l = true → ps.map pcOf = lkP l) ∧ St ⟨w0, None_⟩ w' [slB 5 (.slice g (lkV l).2.length cg) (lkV l).2, sl 110 2 bv ps.length (ps.flatMap pcF), datR ps] := by
  have hs := St.start w0 None_
  have hcp := RdB.cap hr1
  have hzl := zt_le l
  refine c_enter (N := 37) Tryd.func55 rfl Tryd.ntmps55 (by simp) ?_
  intro a hf
  refine wp_seq ?_
  refine wp_region_lit ?_
  refine s_do hf rfl (y_alloc hs Tryd.zeroValue82 ?_); clear hf hs a; intro b2 w hs a hf
  change St _ _ (cb b2 82 (fdF (0, 0, 0) (.slice none 0 0) (.slice none 0 0)) :: _) at hs
  refine s_nil ?_
  refine then_n ?_
  refine wp_seq ?_
  refine wp_seq ?_
  refine wp_region_lit ?_
  refine s_m hf rfl ?_; clear hf a; intro a hf
  refine s_do hf rfl (y_call (hf.eval rfl) (hf.evals rfl) Tryd.call80 ((tail_spec _ _ _ l (hs.oldB hr1) (by omega)).mono ?_))
  rintro e w1 ⟨rfl, hk⟩
  replace hs := hs.ext hk
  refine ⟨_, rfl, ?_⟩; clear hf a; intro a hf
  refine s_a hf rfl ?_; clear hf a; intro a hf
  refine s_nil ?_
  refine then_n ?_
  refine wp_seq ?_
  refine wp_region_lit ?_
  refine s_m hf rfl ?_; clear hf a; intro a hf
  refine s_v hf (x_bin (hf.eval rfl) (hf.eval rfl) (r_ge _ _ _ _)) ?_; clear hf a; intro a hf
  refine s_nil ?_
  refine then_n ?_
  refine c_cond hf rfl (fun hi0 => ?_) (fun hi0 => ?_)
  · first | simp only [decide_eq_true_eq, decide_eq_false_iff_not, Bool.not_eq_true', Bool.not_eq_false'] at hi0 | skip
    have hsz : zt l / 1024 * 1024 ≤ l.length := by omega
    refine wp_seq ?_
    refine wp_region_lit ?_
    refine s_m hf rfl ?_; clear hf a; intro a hf
    refine s_v hf (x_len Tryd.underlying25 (hf.eval rfl)) ?_; clear hf a; intro a hf
    refine s_m hf rfl ?_; clear hf a; intro a hf
    refine s_v hf (x_bin (hf.eval rfl) (hf.eval rfl) (r_quon _ (Int.natCast_nonneg _) (by decide) (by omega))) ?_; clear hf a; intro a hf
    replace hf := hf.now (k := 14) (v' := .int .i64 ((zt l / 1024 : Nat) : Int)) rfl (by congr 1)
    refine s_v hf (x_bin (hf.eval rfl) (hf.eval rfl) (r_muli _ (by omega) (by omega))) ?_; clear hf a; intro a hf
    refine s_v hf (x_bin (hf.eval rfl) (hf.eval rfl) (r_subi _ (by omega) (by omega))) ?_; clear hf a; intro a hf
    replace hf := hf.now (k := 16) (v' := .int .i64 (((l.length - zt l / 1024 * 1024) : Nat) : Int)) rfl (by congr 1 <;> omega)
    refine s_a hf rfl ?_; clear hf a; intro a hf
    refine s_nil ?_
    refine then_n ?_
    refine wp_seq ?_
    refine wp_region_lit ?_
    refine s_m hf rfl ?_; clear hf a; intro a hf
    refine s_r hf (x_build (v := .agg (vdF (1, 0, (((l.length - zt l / 1024 * 1024) : Nat) : Int))).toArray) (hf.parts rfl) (fun w => by kernel_rfl) _) ?_; clear hf a; intro a hf
    refine s_m hf rfl ?_; clear hf a; intro a hf
    refine s_m hf rfl ?_; clear hf a; intro a hf
    refine s_v hf (x_slice_hi sl25 (hf.eval rfl) (hf.eval rfl)  (by omega) (by omega)) ?_; clear hf a; intro a hf
    replace hf := hf.now (k := 21) (v' := .slice a1 (l.take (l.length - zt l / 1024 * 1024)).length c1) rfl (by rw [tkl (by omega)] <;> exact slice_eq rfl (by omega) rfl)
    refine s_do hf rfl (y_appendB (v := .slice none 0 0) (s := l.take (l.length - zt l / 1024 * 1024)) (hs.emp (slB_nil 5)) sl25 rfl rfl (hf.eval rfl) (.here _) (hs.oldB (tk_rd hr1 (by omega))) (by simp; omega) ?_); clear hf hs a; intro v2 w hs hv a hf
    simp only [List.nil_append] at hs
    obtain ⟨g, cg, rfl, hcg⟩ := slB_shape hs
    refine s_r hf (x_build (v := .agg (fdF (1, 0, (((l.length - zt l / 1024 * 1024) : Nat) : Int)) (.slice g (l.take (l.length - zt l / 1024 * 1024)).length cg) (.slice none 0 0)).toArray) (hf.parts rfl) (fun w => by kernel_rfl) _) ?_; clear hf a; intro a hf
    replace hs := hs.take (A := cb b2 82 (fdF (0, 0, 0) (.slice none 0 0) (.slice none 0 0))) (by first | exact .here _ | exact .there _ (.here _) | exact .there _ (.there _ (.here _)) | exact .there _ (.there _ (.there _ (.here _))) | exact .there _ (.there _ (.there _ (.there _ (.here _)))) | exact .there _ (.there _ (.there _ (.there _ (.there _ (.here _))))) | exact .there _ (.there _ (.there _ (.there _ (.there _ (.there _ (.here _)))))) | exact .there _ (.there _ (.there _ (.there _ (.there _ (.there _ (.there _ (.here _))))))) | exact .there _ (.there _ (.there _ (.there _ (.there _ (.there _ (.there _ (.there _ (.here _)))))))) | exact .there _ (.there _ (.there _ (.there _ (.there _ (.there _ (.there _ (.there _ (.there _ (.here _))))))))) | exact .there _ (.there _ (.there _ (.there _ (.there _ (.there _ (.there _ (.there _ (.there _ (.there _ (.here _)))))))))) | exact .there _ (.there _ (.there _ (.there _ (.there _ (.there _ (.there _ (.there _ (.there _ (.there _ (.there _ (.here _))))))))))))
    refine s_do0 hf rfl (y_storeAgg (cs := fdF (1, 0, (((l.length - zt l / 1024 * 1024) : Nat) : Int)) (.slice g (l.take (l.length - zt l / 1024 * 1024)).length cg) (.slice none 0 0)) hs (n := 5) (by kernel_rfl) (hf.eval rfl) (hf.eval rfl) (by simp [Value.oneCell', fdF]) rfl rfl (.here _) ?_); clear hf hs a; intro w hs a hf
    refine s_nil ?_
    refine then_n ?_
    refine wp_ret ?_
    refine then_r ?_
    refine r_1c hf Tryd.results55 rfl hs ag82 rfl (.here _) ?_
    have hv := lk_blank (l := l) (by omega)
    replace hs := (hs.emp (A := datR []) (fun _ => trivial)).emp (A := sl 110 2 (.slice none 0 0) ([] : List Pt).length (([] : List Pt).flatMap pcF)) slW0
    rw [hv]
    replace hs := hs.take (A := slB 5 (.slice g (l.take (l.length - zt l / 1024 * 1024)).length cg) (l.take (l.length - zt l / 1024 * 1024))) (by first | exact .here _ | exact .there _ (.here _) | exact .there _ (.there _ (.here _)) | exact .there _ (.there _ (.there _ (.here _))) | exact .there _ (.there _ (.there _ (.there _ (.here _)))) | exact .there _ (.there _ (.there _ (.there _ (.there _ (.here _))))) | exact .there _ (.there _ (.there _ (.there _ (.there _ (.there _ (.here _)))))) | exact .there _ (.there _ (.there _ (.there _ (.there _ (.there _ (.there _ (.here _))))))) | exact .there _ (.there _ (.there _ (.there _ (.there _ (.there _ (.there _ (.there _ (.here _)))))))) | exact .there _ (.there _ (.there _ (.there _ (.there _ (.there _ (.there _ (.there _ (.there _ (.here _))))))))) | exact .there _ (.there _ (.there _ (.there _ (.there _ (.there _ (.there _ (.there _ (.there _ (.there _ (.here _)))))))))) | exact .there _ (.there _ (.there _ (.there _ (.there _ (.there _ (.there _ (.there _ (.there _ (.there _ (.there _ (.here _))))))))))))
    exact ⟨g, cg, _, [], rfl, fun h1 h2 => absurd h1 (by omega), St.keep [_, _, _] _ hs⟩
  · first | simp only [decide_eq_true_eq, decide_eq_false_iff_not, Bool.not_eq_true', Bool.not_eq_false'] at hi0 | skip
    refine wp_skip ?_
    refine then_n ?_
    refine wp_seq ?_
    refine wp_seq ?_
    refine wp_region_lit ?_
    refine s_m hf rfl ?_; clear hf a; intro a hf
    refine s_do hf rfl (y_call (hf.eval rfl) (hf.evals rfl) Tryd.call81 ((sealed_spec _ (hT.kept hs.kept) _ _ l (hs.oldB hr1) hl1).mono ?_))
    rintro e w1 ⟨sv, cv, bv, C, ps, rfl, hsv, hj⟩
    replace hs := hs.join hj
    simp only [List.cons_append, List.nil_append] at hs
    obtain ⟨g5, cg5, rfl, hcg5⟩ := slB_shape hs
    replace hs := hs.take (A := sl 110 2 bv ps.length (ps.flatMap pcF)) (by first | exact .here _ | exact .there _ (.here _) | exact .there _ (.there _ (.here _)) | exact .there _ (.there _ (.there _ (.here _))) | exact .there _ (.there _ (.there _ (.there _ (.here _)))) | exact .there _ (.there _ (.there _ (.there _ (.there _ (.here _))))) | exact .there _ (.there _ (.there _ (.there _ (.there _ (.there _ (.here _)))))) | exact .there _ (.there _ (.there _ (.there _ (.there _ (.there _ (.there _ (.here _))))))) | exact .there _ (.there _ (.there _ (.there _ (.there _ (.there _ (.there _ (.there _ (.here _)))))))) | exact .there _ (.there _ (.there _ (.there _ (.there _ (.there _ (.there _ (.there _ (.there _ (.here _))))))))) | exact .there _ (.there _ (.there _ (.there _ (.there _ (.there _ (.there _ (.there _ (.there _ (.there _ (.here _)))))))))) | exact .there _ (.there _ (.there _ (.there _ (.there _ (.there _ (.there _ (.there _ (.there _ (.there _ (.there _ (.here _))))))))))))
    obtain ⟨a5, c5, rfl⟩ := sl_shape hs
    refine ⟨_, rfl, ?_⟩; clear hf a; intro a hf
    refine s_m hf rfl ?_; clear hf a; intro a hf
    refine s_v hf (x_extract (hf.eval rfl) rfl) ?_; clear hf a; intro a hf
    refine s_v hf (x_extract (hf.eval rfl) rfl) ?_; clear hf a; intro a hf
    refine s_do hf rfl (y_alloc hs Tryd.zeroValue82 ?_); clear hf hs a; intro b5 w hs a hf
    change St _ _ (cb b5 82 (fdF (0, 0, 0) (.slice none 0 0) (.slice none 0 0)) :: _) at hs
    refine s_do0 hf rfl (y_storeAgg (cs := fdF sv (.slice g5 C.length cg5) (.slice a5 ps.length c5)) hs (n := 5) (by kernel_rfl) (hf.eval rfl) (hf.eval rfl) (by simp [Value.oneCell', fdF]) rfl rfl (.here _) ?_); clear hf hs a; intro w hs a hf
    refine s_a hf rfl ?_; clear hf a; intro a hf
    refine s_nil ?_
    refine then_n ?_
    refine wp_seq ?_
    refine wp_region_lit ?_
    refine s_m hf rfl ?_; clear hf a; intro a hf
    refine s_nil ?_
    refine then_n ?_
    refine c_cond hf rfl (fun hi1 => ?_) (fun hi1 => ?_)
    · first | simp only [decide_eq_true_eq, decide_eq_false_iff_not, Bool.not_eq_true', Bool.not_eq_false'] at hi1 | skip
      refine wp_seq ?_
      refine wp_region_lit ?_
      replace hs := hs.take (A := cb b5 82 (fdF sv (.slice g5 C.length cg5) (.slice a5 ps.length c5))) (by first | exact .here _ | exact .there _ (.here _) | exact .there _ (.there _ (.here _)) | exact .there _ (.there _ (.there _ (.here _))) | exact .there _ (.there _ (.there _ (.there _ (.here _)))) | exact .there _ (.there _ (.there _ (.there _ (.there _ (.here _))))) | exact .there _ (.there _ (.there _ (.there _ (.there _ (.there _ (.here _)))))) | exact .there _ (.there _ (.there _ (.there _ (.there _ (.there _ (.there _ (.here _))))))) | exact .there _ (.there _ (.there _ (.there _ (.there _ (.there _ (.there _ (.there _ (.here _)))))))) | exact .there _ (.there _ (.there _ (.there _ (.there _ (.there _ (.there _ (.there _ (.there _ (.here _))))))))) | exact .there _ (.there _ (.there _ (.there _ (.there _ (.there _ (.there _ (.there _ (.there _ (.there _ (.here _)))))))))) | exact .there _ (.there _ (.there _ (.there _ (.there _ (.there _ (.there _ (.there _ (.there _ (.there _ (.there _ (.here _))))))))))))
      refine s_r hf (x_loadBlk hs ag82 (hf.eval rfl) rfl (.here _)) ?_; clear hf a; intro a hf
      replace hs := hs.take (A := cb b2 82 (fdF (0, 0, 0) (.slice none 0 0) (.slice none 0 0))) (by first | exact .here _ | exact .there _ (.here _) | exact .there _ (.there _ (.here _)) | exact .there _ (.there _ (.there _ (.here _))) | exact .there _ (.there _ (.there _ (.there _ (.here _)))) | exact .there _ (.there _ (.there _ (.there _ (.there _ (.here _))))) | exact .there _ (.there _ (.there _ (.there _ (.there _ (.there _ (.here _)))))) | exact .there _ (.there _ (.there _ (.there _ (.there _ (.there _ (.there _ (.here _))))))) | exact .there _ (.there _ (.there _ (.there _ (.there _ (.there _ (.there _ (.there _ (.here _)))))))) | exact .there _ (.there _ (.there _ (.there _ (.there _ (.there _ (.there _ (.there _ (.there _ (.here _))))))))) | exact .there _ (.there _ (.there _ (.there _ (.there _ (.there _ (.there _ (.there _ (.there _ (.there _ (.here _)))))))))) | exact .there _ (.there _ (.there _ (.there _ (.there _ (.there _ (.there _ (.there _ (.there _ (.there _ (.there _ (.here _))))))))))))
      refine s_do0 hf rfl (y_storeAgg (cs := fdF sv (.slice g5 C.length cg5) (.slice a5 ps.length c5)) hs (n := 5) (by kernel_rfl) (hf.eval rfl) (hf.eval rfl) (by simp [Value.oneCell', fdF]) rfl rfl (.here _) ?_); clear hf hs a; intro w hs a hf
      refine s_nil ?_
      refine then_n ?_
      refine wp_ret ?_
      refine then_r ?_
      refine r_1c hf Tryd.results55 rfl hs ag82 rfl (.here _) ?_
      obtain ⟨hq1, hq2, _, hq4⟩ := hsv hi1
      have hv := lk_of (show zt l < 1024 by omega) hi1
      rw [← hq1, ← hq2] at hv
      rw [hv]
      replace hs := hs.take (A := datR ps) (by first | exact .here _ | exact .there _ (.here _) | exact .there _ (.there _ (.here _)) | exact .there _ (.there _ (.there _ (.here _))) | exact .there _ (.there _ (.there _ (.there _ (.here _)))) | exact .there _ (.there _ (.there _ (.there _ (.there _ (.here _))))) | exact .there _ (.there _ (.there _ (.there _ (.there _ (.there _ (.here _)))))) | exact .there _ (.there _ (.there _ (.there _ (.there _ (.there _ (.there _ (.here _))))))) | exact .there _ (.there _ (.there _ (.there _ (.there _ (.there _ (.there _ (.there _ (.here _)))))))) | exact .there _ (.there _ (.there _ (.there _ (.there _ (.there _ (.there _ (.there _ (.there _ (.here _))))))))) | exact .there _ (.there _ (.there _ (.there _ (.there _ (.there _ (.there _ (.there _ (.there _ (.there _ (.here _)))))))))) | exact .there _ (.there _ (.there _ (.there _ (.there _ (.there _ (.there _ (.there _ (.there _ (.there _ (.there _ (.here _))))))))))))
      replace hs := hs.take (A := sl 110 2 (.slice a5 ps.length c5) ps.length (ps.flatMap pcF)) (by first | exact .here _ | exact .there _ (.here _) | exact .there _ (.there _ (.here _)) | exact .there _ (.there _ (.there _ (.here _))) | exact .there _ (.there _ (.there _ (.there _ (.here _)))) | exact .there _ (.there _ (.there _ (.there _ (.there _ (.here _))))) | exact .there _ (.there _ (.there _ (.there _ (.there _ (.there _ (.here _)))))) | exact .there _ (.there _ (.there _ (.there _ (.there _ (.there _ (.there _ (.here _))))))) | exact .there _ (.there _ (.there _ (.there _ (.there _ (.there _ (.there _ (.there _ (.here _)))))))) | exact .there _ (.there _ (.there _ (.there _ (.there _ (.there _ (.there _ (.there _ (.there _ (.here _))))))))) | exact .there _ (.there _ (.there _ (.there _ (.there _ (.there _ (.there _ (.there _ (.there _ (.there _ (.here _)))))))))) | exact .there _ (.there _ (.there _ (.there _ (.there _ (.there _ (.there _ (.there _ (.there _ (.there _ (.there _ (.here _))))))))))))
      replace hs := hs.take (A := slB 5 (.slice g5 C.length cg5) C) (by first | exact .here _ | exact .there _ (.here _) | exact .there _ (.there _ (.here _)) | exact .there _ (.there _ (.there _ (.here _))) | exact .there _ (.there _ (.there _ (.there _ (.here _)))) | exact .there _ (.there _ (.there _ (.there _ (.there _ (.here _))))) | exact .there _ (.there _ (.there _ (.there _ (.there _ (.there _ (.here _)))))) | exact .there _ (.there _ (.there _ (.there _ (.there _ (.there _ (.there _ (.here _))))))) | exact .there _ (.there _ (.there _ (.there _ (.there _ (.there _ (.there _ (.there _ (.here _)))))))) | exact .there _ (.there _ (.there _ (.there _ (.there _ (.there _ (.there _ (.there _ (.there _ (.here _))))))))) | exact .there _ (.there _ (.there _ (.there _ (.there _ (.there _ (.there _ (.there _ (.there _ (.there _ (.here _)))))))))) | exact .there _ (.there _ (.there _ (.there _ (.there _ (.there _ (.there _ (.there _ (.there _ (.there _ (.there _ (.here _))))))))))))
      exact ⟨g5, cg5, _, ps, rfl, fun _ _ => hq4, St.keep [_, _, _] _ hs⟩
    · first | simp only [decide_eq_true_eq, decide_eq_false_iff_not, Bool.not_eq_true', Bool.not_eq_false'] at hi1 | skip
      refine wp_skip ?_
      refine then_n ?_
      refine wp_seq ?_
      refine wp_region_lit ?_
      refine s_m hf rfl ?_; clear hf a; intro a hf
      refine s_v hf (x_len Tryd.underlying25 (hf.eval rfl)) ?_; clear hf a; intro a hf
      refine s_r hf (x_build (v := .agg (vdF (0, 0, (l.length : Int))).toArray) (hf.parts rfl) (fun w => by kernel_rfl) _) ?_; clear hf a; intro a hf
      refine s_m hf rfl ?_; clear hf a; intro a hf
      refine s_do hf rfl (y_appendB (v := .slice none 0 0) (s := l) (hs.emp (slB_nil 5)) sl25 rfl rfl (hf.eval rfl) (.here _) (hs.oldB (hr1)) (by simp; omega) ?_); clear hf hs a; intro v2 w hs hv a hf
      simp only [List.nil_append] at hs
      obtain ⟨g, cg, rfl, hcg⟩ := slB_shape hs
      refine s_r hf (x_build (v := .agg (fdF (0, 0, (l.length : Int)) (.slice g (l).length cg) (.slice none 0 0)).toArray) (hf.parts rfl) (fun w => by kernel_rfl) _) ?_; clear hf a; intro a hf
      replace hs := hs.take (A := cb b2 82 (fdF (0, 0, 0) (.slice none 0 0) (.slice none 0 0))) (by first | exact .here _ | exact .there _ (.here _) | exact .there _ (.there _ (.here _)) | exact .there _ (.there _ (.there _ (.here _))) | exact .there _ (.there _ (.there _ (.there _ (.here _)))) | exact .there _ (.there _ (.there _ (.there _ (.there _ (.here _))))) | exact .there _ (.there _ (.there _ (.there _ (.there _ (.there _ (.here _)))))) | exact .there _ (.there _ (.there _ (.there _ (.there _ (.there _ (.there _ (.here _))))))) | exact .there _ (.there _ (.there _ (.there _ (.there _ (.there _ (.there _ (.there _ (.here _)))))))) | exact .there _ (.there _ (.there _ (.there _ (.there _ (.there _ (.there _ (.there _ (.there _ (.here _))))))))) | exact .there _ (.there _ (.there _ (.there _ (.there _ (.there _ (.there _ (.there _ (.there _ (.there _ (.here _)))))))))) | exact .there _ (.there _ (.there _ (.there _ (.there _ (.there _ (.there _ (.there _ (.there _ (.there _ (.there _ (.here _))))))))))))
      refine s_do0 hf rfl (y_storeAgg (cs := fdF (0, 0, (l.length : Int)) (.slice g (l).length cg) (.slice none 0 0)) hs (n := 5) (by kernel_rfl) (hf.eval rfl) (hf.eval rfl) (by simp [Value.oneCell', fdF]) rfl rfl (.here _) ?_); clear hf hs a; intro w hs a hf
      refine s_nil ?_
      refine then_n ?_
      refine wp_ret ?_
      refine r_1c hf Tryd.results55 rfl hs ag82 rfl (.here _) ?_
      have hv := lk_no (show zt l < 1024 by omega) hi1
      replace hs := (hs.emp (A := datR []) (fun _ => trivial)).emp (A := sl 110 2 (.slice none 0 0) ([] : List Pt).length (([] : List Pt).flatMap pcF)) slW0
      rw [hv]
      replace hs := hs.take (A := slB 5 (.slice g (l).length cg) l) (by first | exact .here _ | exact .there _ (.here _) | exact .there _ (.there _ (.here _)) | exact .there _ (.there _ (.there _ (.here _))) | exact .there _ (.there _ (.there _ (.there _ (.here _)))) | exact .there _ (.there _ (.there _ (.there _ (.there _ (.here _))))) | exact .there _ (.there _ (.there _ (.there _ (.there _ (.there _ (.here _)))))) | exact .there _ (.there _ (.there _ (.there _ (.there _ (.there _ (.there _ (.here _))))))) | exact .there _ (.there _ (.there _ (.there _ (.there _ (.there _ (.there _ (.there _ (.here _)))))))) | exact .there _ (.there _ (.there _ (.there _ (.there _ (.there _ (.there _ (.there _ (.there _ (.here _))))))))) | exact .there _ (.there _ (.there _ (.there _ (.there _ (.there _ (.there _ (.there _ (.there _ (.there _ (.here _)))))))))) | exact .there _ (.there _ (.there _ (.there _ (.there _ (.there _ (.there _ (.there _ (.there _ (.there _ (.there _ (.here _))))))))))))
      exact ⟨g, cg, _, [], rfl, fun h1 h2 => (by rw [hi1] at h2; cases h2), St.keep [_, _, _] _ hs⟩

end Go.Proofs.YtehakfbfjpolfaaDoor
