/- What a file says, by the document: Look. -/
import Derived.Test.YtehakfbfjpolfaaDoorVZ
import Derived.Test.YtehakfbfjpolfaaDoorLke
import Derived.Test.YtehakfbfjpolfaaDoorProg
import Derived.Test.YtehakfbfjpolfaaDoorFacts
set_option maxRecDepth 100000
set_option linter.all false
namespace Go.Proofs.YtehakfbfjpolfaaDoor
open Go Vw
theorem rclone14_spec (w0 : World) (a1 : Option Addr) (c1 : Nat) (l : List UInt8) (hr1 : RdB (hp w0) (.slice a1 l.length c1) l) (hl1 : l.length ≤ 16777216) : Calls Tryd.prog 56 #[.slice a1 l.length c1] w0 fun e w' => ∃ a c, e = .returned (.slice a l.length c) ∧ St ⟨w0, None_⟩ w' [slB 5 (.slice a l.length c) l] := by
  have hs := (St.start w0 None_).emp (slB_nil 5)
  refine c_enter (N := 8) Tryd.func56 rfl Tryd.ntmps56 (by simp) ?_
  intro a hf
  refine wp_seq ?_
  refine wp_region_lit ?_
  refine s_a hf rfl ?_; clear hf a; intro a hf
  refine s_nil ?_
  refine then_n ?_
  refine wp_seq ?_
  refine wp_region_lit ?_
  refine s_a hf rfl ?_; clear hf a; intro a hf
  refine s_nil ?_
  refine then_n ?_
  refine wp_seq ?_
  refine wp_region_lit ?_
  refine s_m hf rfl ?_; clear hf a; intro a hf
  refine s_m hf rfl ?_; clear hf a; intro a hf
  refine s_do hf rfl (y_appendB (s := l) hs sl25 rfl (hf.eval rfl) (hf.eval rfl) (.here _) (hs.oldB hr1) (by simp; omega) ?_); clear hf hs a; intro v2 w hs hv a hf
  simp only [List.nil_append] at hs
  obtain ⟨a2, c2, rfl, hc2⟩ := slB_shape hs
  refine s_a hf rfl ?_; clear hf a; intro a hf
  refine s_nil ?_
  refine then_n ?_
  refine wp_seq ?_
  refine wp_region_lit ?_
  refine s_m hf rfl ?_; clear hf a; intro a hf
  refine s_a hf rfl ?_; clear hf a; intro a hf
  refine s_nil ?_
  refine then_n ?_
  refine wp_ret ?_
  refine r_1 hf Tryd.results56 rfl ?_
  exact ⟨_, _, rfl, hs⟩

theorem tk_rd {h : Heaplet} {a : Option Addr} {c k : Nat} {l : List UInt8} (hr : RdB h (.slice a l.length c) l) (hk : k ≤ l.length) : RdB h (.slice a (l.take k).length c) (l.take k) := by
  have h1 := pre_rd hr hk
  rwa [show (l.take k).length = k by rw [List.length_take]; omega]
theorem sub_rd {h : Heaplet} {a : Option Addr} {c i k : Nat} {l : List UInt8} (hr : RdB h (.slice a l.length c) l) (hk : i + k ≤ l.length) : RdB h (.slice (subA a c i 1) ((l.drop i).take k).length (c - i)) ((l.drop i).take k) := by
  have h1 := RdB.sub (i := i) (j := i + k) hr rfl (by omega) hk
  rw [show i + k - i = k by omega] at h1
  rwa [show ((l.drop i).take k).length = k by rw [List.length_take, List.length_drop]; omega]
theorem slice_eq {a a2 : Option Addr} {n n2 c c2 : Nat} (h1 : a = a2) (h2 : n = n2) (h3 : c = c2) : Value.slice a n c = Value.slice a2 n2 c2 := by rw [h1, h2, h3]
theorem int_succ (k j : Nat) : Value.int .i64 (((k + j : Nat) : Int) + 1) = .int .i64 ((k + (j + 1) : Nat) : Int) := rfl
theorem putPs0 (x : List UInt8) (s : Sl) (b : List UInt8) : putPs x (bkL s b 0) = x := rfl
theorem totB0 (o : Int) (b : List UInt8) : totB o b 0 = 0 := rfl
theorem tkl {l : List UInt8} {k : Nat} (hk : k ≤ l.length) : (l.take k).length = k := by rw [List.length_take]; omega
theorem data_at {body : List UInt8} {i n j : Nat} (h : i + n ≤ body.length) (hj : j < n) : j < ((body.drop i).take n).length ∧ ∃ h2 : i + j < body.length, ∀ h3, ((body.drop i).take n)[j]'h3 = body[i + j] := by
  refine ⟨by rw [List.length_take, List.length_drop]; omega, by omega, fun h3 => ?_⟩
  rw [List.getElem_take, List.getElem_drop]
theorem spL_at {body : List UInt8} {N i : Nat} (h : i < N) : ∃ h2 : i < (spL body N).length, (spL body N)[i] = ((spA body i : Int), ((spA body i + spN body i : Nat) : Int)) := by
  refine ⟨by unfold spL; simpa using h, ?_⟩
  unfold spL
  rw [List.getElem_map, List.getElem_range]

attribute [local irreducible] Vw.sl Vw.sdS Vw.bodyS Vw.zt Vw.spA Vw.spN Vw.totB Vw.bkL Vw.putPs Vw.putP Vw.upZ Vw.seOk Vw.bkOk Vw.spL
set_option maxHeartbeats 1600000

theorem rlook_spec (w0 : World) (a1 : Option Addr) (c1 : Nat) (l : List UInt8) (hr1 : RdB (hp w0) (.slice a1 l.length c1) l) (hl1 : l.length ≤ 16777216) : Calls Tryd.prog 21 #[.slice a1 l.length c1] w0 fun e w' => ∃ a c, e = .returned (.tuple #[.agg (vdF (lkV l).1).toArray, .slice a (lkV l).2.length c]) ∧ St ⟨w0, None_⟩ w' [slB 5 (.slice a (lkV l).2.length c) (lkV l).2] := by
  have hs := St.start w0 None_
  have hcp := RdB.cap hr1
  have hzl := zt_le l
  refine c_enter (N := 138) Tryd.func21 rfl Tryd.ntmps21 (by simp) ?_
  intro a hf
  refine wp_seq ?_
  refine wp_region_lit ?_
  refine s_do hf rfl (y_alloc hs Tryd.zeroValue45 ?_); clear hf hs a; intro b2 w hs a hf
  change St _ _ (cb b2 45 (vdF (0, 0, 0)) :: _) at hs
  refine s_a hf rfl ?_; clear hf a; intro a hf
  refine s_nil ?_
  refine then_n ?_
  refine wp_seq ?_
  refine wp_region_lit ?_
  refine s_m hf rfl ?_; clear hf a; intro a hf
  refine s_v hf (x_len Tryd.underlying25 (hf.eval rfl)) ?_; clear hf a; intro a hf
  refine s_a hf rfl ?_; clear hf a; intro a hf
  refine s_nil ?_
  refine then_n ?_
  refine wp_seq ?_
  refine wp_region_lit ?_
  refine s_m hf rfl ?_; clear hf a; intro a hf
  refine s_do hf rfl (y_call (hf.eval rfl) (hf.evals rfl) Tryd.call33 ((rtail_spec _ _ _ l (hs.oldB hr1) (by omega)).mono ?_))
  rintro e w1 ⟨rfl, hk⟩
  replace hs := hs.ext hk
  refine ⟨_, rfl, ?_⟩; clear hf a; intro a hf
  refine s_a hf rfl ?_; clear hf a; intro a hf
  refine s_nil ?_
  refine then_n ?_
  refine wp_seq ?_
  refine wp_seq ?_
  refine wp_region_lit ?_
  refine s_m hf rfl ?_; clear hf a; intro a hf
  refine s_v hf (x_bin (hf.eval rfl) (hf.eval rfl) (r_ge _ _ _ _)) ?_; clear hf a; intro a hf
  refine s_nil ?_
  refine then_n ?_
  refine c_cond hf rfl (fun hi0 => ?_) (fun hi0 => ?_)
  · first | simp only [decide_eq_true_eq, decide_eq_false_iff_not, Bool.not_eq_true', Bool.not_eq_false'] at hi0 | skip
    have hsz : zt l / 1024 * 1024 ≤ l.length := by omega
    refine wp_seq ?_
    refine wp_region_lit ?_
    refine s_m hf rfl ?_; clear hf a; intro a hf
    refine s_m hf rfl ?_; clear hf a; intro a hf
    refine s_v hf (x_bin (hf.eval rfl) (hf.eval rfl) (r_quon _ (Int.natCast_nonneg _) (by decide) (by omega))) ?_; clear hf a; intro a hf
    replace hf := hf.now (k := 25) (v' := .int .i64 ((zt l / 1024 : Nat) : Int)) rfl (by congr 1)
    refine s_v hf (x_bin (hf.eval rfl) (hf.eval rfl) (r_muli _ (by omega) (by omega))) ?_; clear hf a; intro a hf
    refine s_v hf (x_bin (hf.eval rfl) (hf.eval rfl) (r_subi _ (by omega) (by omega))) ?_; clear hf a; intro a hf
    replace hf := hf.now (k := 27) (v' := .int .i64 (((l.length - zt l / 1024 * 1024) : Nat) : Int)) rfl (by congr 1 <;> omega)
    refine s_a hf rfl ?_; clear hf a; intro a hf
    refine s_nil ?_
    refine then_n ?_
    refine wp_seq ?_
    refine wp_region_lit ?_
    refine s_m hf rfl ?_; clear hf a; intro a hf
    refine s_r hf (x_build (v := .agg (vdF (1, 0, (((l.length - zt l / 1024 * 1024) : Nat) : Int))).toArray) (hf.parts rfl) (fun w => by kernel_rfl) _) ?_; clear hf a; intro a hf
    refine s_m hf rfl ?_; clear hf a; intro a hf
    refine s_m hf rfl ?_; clear hf a; intro a hf
    refine s_v hf (x_slice_hi sl25 (hf.eval rfl) (hf.eval rfl)  (by omega) (by omega)) ?_; clear hf a; intro a hf
    replace hf := hf.now (k := 32) (v' := .slice a1 (l.take (l.length - zt l / 1024 * 1024)).length c1) rfl (by rw [tkl (by omega)] <;> exact slice_eq rfl (by omega) rfl)
    refine s_do hf rfl (y_call (hf.eval rfl) (hf.evals rfl) Tryd.call56 ((rclone14_spec _ a1 c1 (l.take (l.length - zt l / 1024 * 1024)) (hs.oldB (tk_rd hr1 (by omega))) (by rw [tkl (by omega)]; omega)).mono ?_))
    rintro e w1 ⟨g0, cg0, rfl, hj⟩
    replace hs := hs.join hj
    simp only [List.cons_append, List.nil_append] at hs
    refine ⟨_, rfl, ?_⟩; clear hf a; intro a hf
    replace hs := hs.take (A := cb b2 45 (vdF (0, 0, 0))) (by first | exact .here _ | exact .there _ (.here _) | exact .there _ (.there _ (.here _)) | exact .there _ (.there _ (.there _ (.here _))) | exact .there _ (.there _ (.there _ (.there _ (.here _)))) | exact .there _ (.there _ (.there _ (.there _ (.there _ (.here _))))) | exact .there _ (.there _ (.there _ (.there _ (.there _ (.there _ (.here _)))))) | exact .there _ (.there _ (.there _ (.there _ (.there _ (.there _ (.there _ (.here _))))))) | exact .there _ (.there _ (.there _ (.there _ (.there _ (.there _ (.there _ (.there _ (.here _)))))))) | exact .there _ (.there _ (.there _ (.there _ (.there _ (.there _ (.there _ (.there _ (.there _ (.here _))))))))) | exact .there _ (.there _ (.there _ (.there _ (.there _ (.there _ (.there _ (.there _ (.there _ (.there _ (.here _)))))))))) | exact .there _ (.there _ (.there _ (.there _ (.there _ (.there _ (.there _ (.there _ (.there _ (.there _ (.there _ (.here _))))))))))))
    refine s_do0 hf rfl (y_storeAgg (cs := vdF (1, 0, (((l.length - zt l / 1024 * 1024) : Nat) : Int))) hs (n := 3) (by kernel_rfl) (hf.eval rfl) (hf.eval rfl) (by simp [Value.oneCell', vdF]) rfl rfl (.here _) ?_); clear hf hs a; intro w hs a hf
    refine s_a hf rfl ?_; clear hf a; intro a hf
    refine s_nil ?_
    refine then_n ?_
    refine wp_ret ?_
    refine then_r ?_
    refine r_2c hf Tryd.results21 rfl rfl hs ag45 rfl (by first | exact .here _ | exact .there _ (.here _) | exact .there _ (.there _ (.here _)) | exact .there _ (.there _ (.there _ (.here _))) | exact .there _ (.there _ (.there _ (.there _ (.here _)))) | exact .there _ (.there _ (.there _ (.there _ (.there _ (.here _))))) | exact .there _ (.there _ (.there _ (.there _ (.there _ (.there _ (.here _)))))) | exact .there _ (.there _ (.there _ (.there _ (.there _ (.there _ (.there _ (.here _))))))) | exact .there _ (.there _ (.there _ (.there _ (.there _ (.there _ (.there _ (.there _ (.here _)))))))) | exact .there _ (.there _ (.there _ (.there _ (.there _ (.there _ (.there _ (.there _ (.there _ (.here _)))))))))) ?_
    have hv : lkV l = ((1, 0, (((l.length - zt l / 1024 * 1024) : Nat) : Int)), l.take (l.length - zt l / 1024 * 1024)) := by unfold lkV; rw [if_pos (by omega)]
    rw [hv]
    replace hs := hs.take (A := slB 5 (.slice g0 (l.take (l.length - zt l / 1024 * 1024)).length cg0) (l.take (l.length - zt l / 1024 * 1024))) (by first | exact .here _ | exact .there _ (.here _) | exact .there _ (.there _ (.here _)) | exact .there _ (.there _ (.there _ (.here _))) | exact .there _ (.there _ (.there _ (.there _ (.here _)))) | exact .there _ (.there _ (.there _ (.there _ (.there _ (.here _))))) | exact .there _ (.there _ (.there _ (.there _ (.there _ (.there _ (.here _)))))) | exact .there _ (.there _ (.there _ (.there _ (.there _ (.there _ (.there _ (.here _))))))) | exact .there _ (.there _ (.there _ (.there _ (.there _ (.there _ (.there _ (.there _ (.here _)))))))) | exact .there _ (.there _ (.there _ (.there _ (.there _ (.there _ (.there _ (.there _ (.there _ (.here _))))))))))
    exact ⟨_, _, rfl, St.keep [_] _ hs⟩
  · first | simp only [decide_eq_true_eq, decide_eq_false_iff_not, Bool.not_eq_true', Bool.not_eq_false'] at hi0 | skip
    refine wp_skip ?_
    refine then_n ?_
    refine wp_seq ?_
    refine wp_region_lit ?_
    refine s_m hf rfl ?_; clear hf a; intro a hf
    refine s_r hf (x_build (v := .agg (vdF (0, 0, (l.length : Int))).toArray) (hf.parts rfl) (fun w => by kernel_rfl) _) ?_; clear hf a; intro a hf
    refine s_do hf rfl (y_alloc hs Tryd.zeroValue45 ?_); clear hf hs a; intro b7 w hs a hf
    change St _ _ (cb b7 45 (vdF (0, 0, 0)) :: _) at hs
    refine s_do0 hf rfl (y_storeAgg (cs := vdF (0, 0, (l.length : Int))) hs (n := 3) (by kernel_rfl) (hf.eval rfl) (hf.eval rfl) (by simp [Value.oneCell', vdF]) rfl rfl (.here _) ?_); clear hf hs a; intro w hs a hf
    refine s_nil ?_
    refine then_n ?_
    refine wp_seq ?_
    refine wp_region_lit ?_
    refine s_m hf rfl ?_; clear hf a; intro a hf
    refine s_do hf rfl (y_call (hf.eval rfl) (hf.evals rfl) Tryd.call57 ((rsealed_spec _ _ _ l (hs.oldB hr1) hl1).mono ?_))
    rintro e w1 ⟨sv, rfl, hsv, hk⟩
    replace hs := hs.ext hk
    refine ⟨_, rfl, ?_⟩; clear hf a; intro a hf
    refine s_m hf rfl ?_; clear hf a; intro a hf
    refine s_v hf (x_extract (hf.eval rfl) rfl) ?_; clear hf a; intro a hf
    refine s_v hf (x_extract (hf.eval rfl) rfl) ?_; clear hf a; intro a hf
    refine s_do hf rfl (y_alloc hs Tryd.zeroValue24 ?_); clear hf hs a; intro b8 w hs a hf
    change St _ _ (cb b8 24 (slF zSl) :: _) at hs
    refine s_do0 hf rfl (y_storeAgg (cs := slF sv) hs (n := 7) (by kernel_rfl) (hf.eval rfl) (hf.eval rfl) (by simp [Value.oneCell', slF]) rfl rfl (.here _) ?_); clear hf hs a; intro w hs a hf
    refine s_a hf rfl ?_; clear hf a; intro a hf
    refine s_nil ?_
    refine then_n ?_
    refine wp_seq ?_
    refine wp_seq ?_
    refine wp_region_lit ?_
    refine s_m hf rfl ?_; clear hf a; intro a hf
    refine s_v hf (x_not (hf.eval rfl)) ?_; clear hf a; intro a hf
    refine s_nil ?_
    refine then_n ?_
    refine c_cond hf rfl (fun hi1 => ?_) (fun hi1 => ?_)
    · first | simp only [decide_eq_true_eq, decide_eq_false_iff_not, Bool.not_eq_true', Bool.not_eq_false'] at hi1 | skip
      refine wp_seq ?_
      replace hs := hs.take (A := cb b7 45 (vdF (0, 0, (l.length : Int)))) (by first | exact .here _ | exact .there _ (.here _) | exact .there _ (.there _ (.here _)) | exact .there _ (.there _ (.there _ (.here _))) | exact .there _ (.there _ (.there _ (.there _ (.here _)))) | exact .there _ (.there _ (.there _ (.there _ (.there _ (.here _))))) | exact .there _ (.there _ (.there _ (.there _ (.there _ (.there _ (.here _)))))) | exact .there _ (.there _ (.there _ (.there _ (.there _ (.there _ (.there _ (.here _))))))) | exact .there _ (.there _ (.there _ (.there _ (.there _ (.there _ (.there _ (.there _ (.here _)))))))) | exact .there _ (.there _ (.there _ (.there _ (.there _ (.there _ (.there _ (.there _ (.there _ (.here _))))))))) | exact .there _ (.there _ (.there _ (.there _ (.there _ (.there _ (.there _ (.there _ (.there _ (.there _ (.here _)))))))))) | exact .there _ (.there _ (.there _ (.there _ (.there _ (.there _ (.there _ (.there _ (.there _ (.there _ (.there _ (.here _))))))))))))
      refine c_draw hs (fun w' => ∀ (j : Nat) (v : Value), (vdF (0, 0, (l.length : Int)))[j]? = some v → w'.cell? ((⟨b7, 0, none⟩ : Addr).add j) = some v) [.held, .held, .eff, .eff, .held] (by kernel_rfl) (by kernel_rfl) (fun _ _ hs => cells_of hs (by first | exact .here _ | exact .there _ (.here _) | exact .there _ (.there _ (.here _)) | exact .there _ (.there _ (.there _ (.here _))) | exact .there _ (.there _ (.there _ (.there _ (.here _)))) | exact .there _ (.there _ (.there _ (.there _ (.there _ (.here _))))) | exact .there _ (.there _ (.there _ (.there _ (.there _ (.there _ (.here _)))))) | exact .there _ (.there _ (.there _ (.there _ (.there _ (.there _ (.there _ (.here _))))))))) ?_
      clear hs; intro w hs hC hw
      refine m_held hf rfl (fun w' hc => x_loadAgg ag45 (hf.eval rfl) (vs := vdF (0, 0, (l.length : Int))) rfl hc) ?_; clear hf a; intro a hf
      refine m_held hf rfl (fun w' _ => x_move (hf.eval rfl) w') ?_; clear hf a; intro a hf
      refine m_eff hf rfl (y_call (hf.eval rfl) (hf.evals rfl) Tryd.call56 ((rclone14_spec _ a1 c1 l (hs.oldB hr1) hl1).mono ?_))
      rintro e w1 ⟨g9, cg9, rfl, hj⟩
      replace hs := hs.join hj
      simp only [List.cons_append, List.nil_append] at hs
      refine ⟨_, rfl, ⟨cells_of hs (by first | exact .here _ | exact .there _ (.here _) | exact .there _ (.there _ (.here _)) | exact .there _ (.there _ (.there _ (.here _))) | exact .there _ (.there _ (.there _ (.there _ (.here _)))) | exact .there _ (.there _ (.there _ (.there _ (.there _ (.here _))))) | exact .there _ (.there _ (.there _ (.there _ (.there _ (.there _ (.here _)))))) | exact .there _ (.there _ (.there _ (.there _ (.there _ (.there _ (.there _ (.here _))))))) | exact .there _ (.there _ (.there _ (.there _ (.there _ (.there _ (.there _ (.there _ (.here _)))))))) | exact .there _ (.there _ (.there _ (.there _ (.there _ (.there _ (.there _ (.there _ (.there _ (.here _)))))))))), ?_⟩⟩; clear hf a; intro a hf
      replace hs := hs.take (A := cb b2 45 (vdF (0, 0, 0))) (by first | exact .here _ | exact .there _ (.here _) | exact .there _ (.there _ (.here _)) | exact .there _ (.there _ (.there _ (.here _))) | exact .there _ (.there _ (.there _ (.there _ (.here _)))) | exact .there _ (.there _ (.there _ (.there _ (.there _ (.here _))))) | exact .there _ (.there _ (.there _ (.there _ (.there _ (.there _ (.here _)))))) | exact .there _ (.there _ (.there _ (.there _ (.there _ (.there _ (.there _ (.here _))))))) | exact .there _ (.there _ (.there _ (.there _ (.there _ (.there _ (.there _ (.there _ (.here _)))))))) | exact .there _ (.there _ (.there _ (.there _ (.there _ (.there _ (.there _ (.there _ (.there _ (.here _))))))))) | exact .there _ (.there _ (.there _ (.there _ (.there _ (.there _ (.there _ (.there _ (.there _ (.there _ (.here _)))))))))) | exact .there _ (.there _ (.there _ (.there _ (.there _ (.there _ (.there _ (.there _ (.there _ (.there _ (.there _ (.here _))))))))))))
      refine m_eff0 hf rfl (y_storeAgg (cs := vdF (0, 0, (l.length : Int))) hs (n := 3) (by kernel_rfl) (hf.eval rfl) (hf.eval rfl) (by simp [Value.oneCell', vdF]) rfl rfl (.here _) ?_); clear hf hs a; intro w hs; refine ⟨cells_of hs (by first | exact .here _ | exact .there _ (.here _) | exact .there _ (.there _ (.here _)) | exact .there _ (.there _ (.there _ (.here _))) | exact .there _ (.there _ (.there _ (.there _ (.here _)))) | exact .there _ (.there _ (.there _ (.there _ (.there _ (.here _))))) | exact .there _ (.there _ (.there _ (.there _ (.there _ (.there _ (.here _)))))) | exact .there _ (.there _ (.there _ (.there _ (.there _ (.there _ (.there _ (.here _))))))) | exact .there _ (.there _ (.there _ (.there _ (.there _ (.there _ (.there _ (.there _ (.here _)))))))) | exact .there _ (.there _ (.there _ (.there _ (.there _ (.there _ (.there _ (.there _ (.there _ (.here _)))))))))), ?_⟩; intro a hf
      refine m_held hf rfl (fun w' _ => x_assign (hf.eval rfl) w') ?_; clear hf a; intro a hf
      refine m_nil ?_
      refine then_n ?_
      refine wp_ret ?_
      refine then_r ?_
      refine r_2c hf Tryd.results21 rfl rfl hs ag45 rfl (by first | exact .here _ | exact .there _ (.here _) | exact .there _ (.there _ (.here _)) | exact .there _ (.there _ (.there _ (.here _))) | exact .there _ (.there _ (.there _ (.there _ (.here _)))) | exact .there _ (.there _ (.there _ (.there _ (.there _ (.here _))))) | exact .there _ (.there _ (.there _ (.there _ (.there _ (.there _ (.here _)))))) | exact .there _ (.there _ (.there _ (.there _ (.there _ (.there _ (.there _ (.here _))))))) | exact .there _ (.there _ (.there _ (.there _ (.there _ (.there _ (.there _ (.there _ (.here _)))))))) | exact .there _ (.there _ (.there _ (.there _ (.there _ (.there _ (.there _ (.there _ (.there _ (.here _)))))))))) ?_
      have hv : lkV l = ((0, 0, (l.length : Int)), l) := by unfold lkV; rw [if_neg (by omega), if_pos hi1]
      rw [hv]
      replace hs := hs.take (A := slB 5 (.slice g9 (l).length cg9) (l)) (by first | exact .here _ | exact .there _ (.here _) | exact .there _ (.there _ (.here _)) | exact .there _ (.there _ (.there _ (.here _))) | exact .there _ (.there _ (.there _ (.there _ (.here _)))) | exact .there _ (.there _ (.there _ (.there _ (.there _ (.here _))))) | exact .there _ (.there _ (.there _ (.there _ (.there _ (.there _ (.here _)))))) | exact .there _ (.there _ (.there _ (.there _ (.there _ (.there _ (.there _ (.here _))))))) | exact .there _ (.there _ (.there _ (.there _ (.there _ (.there _ (.there _ (.there _ (.here _)))))))) | exact .there _ (.there _ (.there _ (.there _ (.there _ (.there _ (.there _ (.there _ (.there _ (.here _))))))))))
      exact ⟨_, _, rfl, St.keep [_] _ hs⟩
    · first | simp only [decide_eq_true_eq, decide_eq_false_iff_not, Bool.not_eq_true', Bool.not_eq_false'] at hi1 | skip
      obtain rfl := hsv hi1
      have hg := seGood hi1
      obtain ⟨g1, g2, g3, g4, g5⟩ := hg.flds
      have gs := hg.st
      have gu := hg.sum
      have gb := hg.body
      refine wp_skip ?_
      refine then_n ?_
      refine wp_seq ?_
      refine wp_seq ?_
      refine wp_region_lit ?_
      refine s_v hf (x_fieldAddr fo24_0 (hf.eval rfl)) ?_; clear hf a; intro a hf
      refine s_r hf (x_load sc3 (hf.eval rfl) (by first | exact hs.cell (.here _) rfl | exact hs.cell (.there _ (.here _)) rfl | exact hs.cell (.there _ (.there _ (.here _))) rfl | exact hs.cell (.there _ (.there _ (.there _ (.here _)))) rfl | exact hs.cell (.there _ (.there _ (.there _ (.there _ (.here _))))) rfl | exact hs.cell (.there _ (.there _ (.there _ (.there _ (.there _ (.here _)))))) rfl | exact hs.cell (.there _ (.there _ (.there _ (.there _ (.there _ (.there _ (.here _))))))) rfl | exact hs.cell (.there _ (.there _ (.there _ (.there _ (.there _ (.there _ (.there _ (.here _)))))))) rfl | exact hs.cell (.there _ (.there _ (.there _ (.there _ (.there _ (.there _ (.there _ (.there _ (.here _))))))))) rfl | exact hs.cell (.there _ (.there _ (.there _ (.there _ (.there _ (.there _ (.there _ (.there _ (.there _ (.here _)))))))))) rfl)) ?_; clear hf a; intro a hf
      refine s_nil ?_
      refine then_n ?_
      refine wp_block ?_
      refine wp_seq ?_
      refine wp_region_lit ?_
      refine s_v hf (x_bin (hf.eval rfl) (hf.eval rfl) (r_eq _ _ _ _)) ?_; clear hf a; intro a hf
      refine s_a hf rfl ?_; clear hf a; intro a hf
      refine s_nil ?_
      refine then_n ?_
      refine c_cond hf rfl (fun hi2 => ?_) (fun hi2 => ?_)
      · first | simp only [decide_eq_true_eq, decide_eq_false_iff_not, Bool.not_eq_true', Bool.not_eq_false'] at hi2 | skip
        refine wp_seq ?_
        replace hs := hs.take (A := cb b8 24 (slF (sdS l))) (by first | exact .here _ | exact .there _ (.here _) | exact .there _ (.there _ (.here _)) | exact .there _ (.there _ (.there _ (.here _))) | exact .there _ (.there _ (.there _ (.there _ (.here _)))) | exact .there _ (.there _ (.there _ (.there _ (.there _ (.here _))))) | exact .there _ (.there _ (.there _ (.there _ (.there _ (.there _ (.here _)))))) | exact .there _ (.there _ (.there _ (.there _ (.there _ (.there _ (.there _ (.here _))))))) | exact .there _ (.there _ (.there _ (.there _ (.there _ (.there _ (.there _ (.there _ (.here _)))))))) | exact .there _ (.there _ (.there _ (.there _ (.there _ (.there _ (.there _ (.there _ (.there _ (.here _))))))))) | exact .there _ (.there _ (.there _ (.there _ (.there _ (.there _ (.there _ (.there _ (.there _ (.there _ (.here _)))))))))) | exact .there _ (.there _ (.there _ (.there _ (.there _ (.there _ (.there _ (.there _ (.there _ (.there _ (.there _ (.here _))))))))))))
        refine c_draw hs (fun w' => ∀ (j : Nat) (v : Value), (slF (sdS l))[j]? = some v → w'.cell? ((⟨b8, 0, none⟩ : Addr).add j) = some v) [.held, .held, .held, .held, .held, .held, .held, .held, .held, .eff, .eff, .held] (by kernel_rfl) (by kernel_rfl) (fun _ _ hs => cells_of hs (by first | exact .here _ | exact .there _ (.here _) | exact .there _ (.there _ (.here _)) | exact .there _ (.there _ (.there _ (.here _))) | exact .there _ (.there _ (.there _ (.there _ (.here _)))) | exact .there _ (.there _ (.there _ (.there _ (.there _ (.here _))))) | exact .there _ (.there _ (.there _ (.there _ (.there _ (.there _ (.here _)))))) | exact .there _ (.there _ (.there _ (.there _ (.there _ (.there _ (.there _ (.here _))))))))) ?_
        clear hs; intro w hs hC hw
        refine m_held hf rfl (fun w' _ => x_fieldAddr fo24_1 (hf.eval rfl) w') ?_; clear hf a; intro a hf
        refine m_held hf rfl (fun w' hc => x_load sc3 (hf.eval rfl) (hc 1 _ rfl)) ?_; clear hf a; intro a hf
        refine m_held hf rfl (fun w' _ => x_fieldAddr fo24_2 (hf.eval rfl) w') ?_; clear hf a; intro a hf
        refine m_held hf rfl (fun w' hc => x_load sc3 (hf.eval rfl) (hc 2 _ rfl)) ?_; clear hf a; intro a hf
        refine m_held hf rfl (fun w' hc => x_build (v := .agg (vdF (2, (sdS l).2.1, (sdS l).2.2.1)).toArray) (hf.parts rfl) (fun w => by kernel_rfl) _) ?_; clear hf a; intro a hf
        refine m_held hf rfl (fun w' _ => x_move (hf.eval rfl) w') ?_; clear hf a; intro a hf
        refine m_held hf rfl (fun w' _ => x_fieldAddr fo24_2 (hf.eval rfl) w') ?_; clear hf a; intro a hf
        refine m_held hf rfl (fun w' hc => x_load sc3 (hf.eval rfl) (hc 2 _ rfl)) ?_; clear hf a; intro a hf
        refine m_held hf rfl (fun w' _ => x_slice_hi sl25 (hf.eval rfl) (hf.eval rfl)  (by omega) (by omega) w') ?_; clear hf a; intro a hf
        replace hf := hf.now (k := 58) (v' := .slice a1 (l.take (sdS l).2.2.1.toNat).length c1) rfl (by rw [tkl (by omega)] <;> exact slice_eq rfl (by omega) rfl)
        refine m_eff hf rfl (y_call (hf.eval rfl) (hf.evals rfl) Tryd.call56 ((rclone14_spec _ a1 c1 (l.take (sdS l).2.2.1.toNat) (hs.oldB (tk_rd hr1 (by omega))) (by rw [tkl (by omega)]; omega)).mono ?_))
        rintro e w1 ⟨g2, cg2, rfl, hj⟩
        replace hs := hs.join hj
        simp only [List.cons_append, List.nil_append] at hs
        refine ⟨_, rfl, ⟨cells_of hs (by first | exact .here _ | exact .there _ (.here _) | exact .there _ (.there _ (.here _)) | exact .there _ (.there _ (.there _ (.here _))) | exact .there _ (.there _ (.there _ (.there _ (.here _)))) | exact .there _ (.there _ (.there _ (.there _ (.there _ (.here _))))) | exact .there _ (.there _ (.there _ (.there _ (.there _ (.there _ (.here _)))))) | exact .there _ (.there _ (.there _ (.there _ (.there _ (.there _ (.there _ (.here _))))))) | exact .there _ (.there _ (.there _ (.there _ (.there _ (.there _ (.there _ (.there _ (.here _)))))))) | exact .there _ (.there _ (.there _ (.there _ (.there _ (.there _ (.there _ (.there _ (.there _ (.here _)))))))))), ?_⟩⟩; clear hf a; intro a hf
        replace hs := hs.take (A := cb b2 45 (vdF (0, 0, 0))) (by first | exact .here _ | exact .there _ (.here _) | exact .there _ (.there _ (.here _)) | exact .there _ (.there _ (.there _ (.here _))) | exact .there _ (.there _ (.there _ (.there _ (.here _)))) | exact .there _ (.there _ (.there _ (.there _ (.there _ (.here _))))) | exact .there _ (.there _ (.there _ (.there _ (.there _ (.there _ (.here _)))))) | exact .there _ (.there _ (.there _ (.there _ (.there _ (.there _ (.there _ (.here _))))))) | exact .there _ (.there _ (.there _ (.there _ (.there _ (.there _ (.there _ (.there _ (.here _)))))))) | exact .there _ (.there _ (.there _ (.there _ (.there _ (.there _ (.there _ (.there _ (.there _ (.here _))))))))) | exact .there _ (.there _ (.there _ (.there _ (.there _ (.there _ (.there _ (.there _ (.there _ (.there _ (.here _)))))))))) | exact .there _ (.there _ (.there _ (.there _ (.there _ (.there _ (.there _ (.there _ (.there _ (.there _ (.there _ (.here _))))))))))))
        refine m_eff0 hf rfl (y_storeAgg (cs := vdF (2, (sdS l).2.1, (sdS l).2.2.1)) hs (n := 3) (by kernel_rfl) (hf.eval rfl) (hf.eval rfl) (by simp [Value.oneCell', vdF]) rfl rfl (.here _) ?_); clear hf hs a; intro w hs; refine ⟨cells_of hs (by first | exact .here _ | exact .there _ (.here _) | exact .there _ (.there _ (.here _)) | exact .there _ (.there _ (.there _ (.here _))) | exact .there _ (.there _ (.there _ (.there _ (.here _)))) | exact .there _ (.there _ (.there _ (.there _ (.there _ (.here _))))) | exact .there _ (.there _ (.there _ (.there _ (.there _ (.there _ (.here _)))))) | exact .there _ (.there _ (.there _ (.there _ (.there _ (.there _ (.there _ (.here _))))))) | exact .there _ (.there _ (.there _ (.there _ (.there _ (.there _ (.there _ (.there _ (.here _)))))))) | exact .there _ (.there _ (.there _ (.there _ (.there _ (.there _ (.there _ (.there _ (.there _ (.here _)))))))))), ?_⟩; intro a hf
        refine m_held hf rfl (fun w' _ => x_assign (hf.eval rfl) w') ?_; clear hf a; intro a hf
        refine m_nil ?_
        refine then_n ?_
        refine wp_ret ?_
        refine blk_r (then_r ?_)
        refine r_2c hf Tryd.results21 rfl rfl hs ag45 rfl (by first | exact .here _ | exact .there _ (.here _) | exact .there _ (.there _ (.here _)) | exact .there _ (.there _ (.there _ (.here _))) | exact .there _ (.there _ (.there _ (.there _ (.here _)))) | exact .there _ (.there _ (.there _ (.there _ (.there _ (.here _))))) | exact .there _ (.there _ (.there _ (.there _ (.there _ (.there _ (.here _)))))) | exact .there _ (.there _ (.there _ (.there _ (.there _ (.there _ (.there _ (.here _))))))) | exact .there _ (.there _ (.there _ (.there _ (.there _ (.there _ (.there _ (.there _ (.here _)))))))) | exact .there _ (.there _ (.there _ (.there _ (.there _ (.there _ (.there _ (.there _ (.there _ (.here _)))))))))) ?_
        have hv : lkV l = ((2, (sdS l).2.1, (sdS l).2.2.1), l.take (sdS l).2.2.1.toNat) := by unfold lkV; rw [if_neg (show ¬ 1024 ≤ zt l by omega), if_neg (by rw [hi1]; simp), if_pos hi2]
        rw [hv]
        replace hs := hs.take (A := slB 5 (.slice g2 (l.take (sdS l).2.2.1.toNat).length cg2) (l.take (sdS l).2.2.1.toNat)) (by first | exact .here _ | exact .there _ (.here _) | exact .there _ (.there _ (.here _)) | exact .there _ (.there _ (.there _ (.here _))) | exact .there _ (.there _ (.there _ (.there _ (.here _)))) | exact .there _ (.there _ (.there _ (.there _ (.there _ (.here _))))) | exact .there _ (.there _ (.there _ (.there _ (.there _ (.there _ (.here _)))))) | exact .there _ (.there _ (.there _ (.there _ (.there _ (.there _ (.there _ (.here _))))))) | exact .there _ (.there _ (.there _ (.there _ (.there _ (.there _ (.there _ (.there _ (.here _)))))))) | exact .there _ (.there _ (.there _ (.there _ (.there _ (.there _ (.there _ (.there _ (.there _ (.here _))))))))))
        exact ⟨_, _, rfl, St.keep [_] _ hs⟩
      · first | simp only [decide_eq_true_eq, decide_eq_false_iff_not, Bool.not_eq_true', Bool.not_eq_false'] at hi2 | skip
        refine wp_seq ?_
        refine wp_region_lit ?_
        refine s_v hf (x_bin (hf.eval rfl) (hf.eval rfl) (r_eq _ _ _ _)) ?_; clear hf a; intro a hf
        refine s_a hf rfl ?_; clear hf a; intro a hf
        refine s_nil ?_
        refine then_n ?_
        refine c_cond hf rfl (fun hi3 => ?_) (fun hi3 => ?_)
        · first | simp only [decide_eq_true_eq, decide_eq_false_iff_not, Bool.not_eq_true', Bool.not_eq_false'] at hi3 | skip
          refine wp_seq ?_
          replace hs := hs.take (A := cb b8 24 (slF (sdS l))) (by first | exact .here _ | exact .there _ (.here _) | exact .there _ (.there _ (.here _)) | exact .there _ (.there _ (.there _ (.here _))) | exact .there _ (.there _ (.there _ (.there _ (.here _)))) | exact .there _ (.there _ (.there _ (.there _ (.there _ (.here _))))) | exact .there _ (.there _ (.there _ (.there _ (.there _ (.there _ (.here _)))))) | exact .there _ (.there _ (.there _ (.there _ (.there _ (.there _ (.there _ (.here _))))))) | exact .there _ (.there _ (.there _ (.there _ (.there _ (.there _ (.there _ (.there _ (.here _)))))))) | exact .there _ (.there _ (.there _ (.there _ (.there _ (.there _ (.there _ (.there _ (.there _ (.here _))))))))) | exact .there _ (.there _ (.there _ (.there _ (.there _ (.there _ (.there _ (.there _ (.there _ (.there _ (.here _)))))))))) | exact .there _ (.there _ (.there _ (.there _ (.there _ (.there _ (.there _ (.there _ (.there _ (.there _ (.there _ (.here _))))))))))))
          refine c_draw hs (fun w' => ∀ (j : Nat) (v : Value), (slF (sdS l))[j]? = some v → w'.cell? ((⟨b8, 0, none⟩ : Addr).add j) = some v) [.held, .held, .held, .held, .held, .held, .held, .held, .held, .eff, .eff, .held] (by kernel_rfl) (by kernel_rfl) (fun _ _ hs => cells_of hs (by first | exact .here _ | exact .there _ (.here _) | exact .there _ (.there _ (.here _)) | exact .there _ (.there _ (.there _ (.here _))) | exact .there _ (.there _ (.there _ (.there _ (.here _)))) | exact .there _ (.there _ (.there _ (.there _ (.there _ (.here _))))) | exact .there _ (.there _ (.there _ (.there _ (.there _ (.there _ (.here _)))))) | exact .there _ (.there _ (.there _ (.there _ (.there _ (.there _ (.there _ (.here _))))))))) ?_
          clear hs; intro w hs hC hw
          refine m_held hf rfl (fun w' _ => x_fieldAddr fo24_1 (hf.eval rfl) w') ?_; clear hf a; intro a hf
          refine m_held hf rfl (fun w' hc => x_load sc3 (hf.eval rfl) (hc 1 _ rfl)) ?_; clear hf a; intro a hf
          refine m_held hf rfl (fun w' _ => x_fieldAddr fo24_3 (hf.eval rfl) w') ?_; clear hf a; intro a hf
          refine m_held hf rfl (fun w' hc => x_load sc3 (hf.eval rfl) (hc 3 _ rfl)) ?_; clear hf a; intro a hf
          refine m_held hf rfl (fun w' hc => x_build (v := .agg (vdF (4, (sdS l).2.1, (sdS l).2.2.2.1)).toArray) (hf.parts rfl) (fun w => by kernel_rfl) _) ?_; clear hf a; intro a hf
          refine m_held hf rfl (fun w' _ => x_move (hf.eval rfl) w') ?_; clear hf a; intro a hf
          refine m_held hf rfl (fun w' _ => x_fieldAddr fo24_3 (hf.eval rfl) w') ?_; clear hf a; intro a hf
          refine m_held hf rfl (fun w' hc => x_load sc3 (hf.eval rfl) (hc 3 _ rfl)) ?_; clear hf a; intro a hf
          refine m_held hf rfl (fun w' _ => x_slice_hi sl25 (hf.eval rfl) (hf.eval rfl)  (by omega) (by omega) w') ?_; clear hf a; intro a hf
          replace hf := hf.now (k := 70) (v' := .slice a1 (l.take (sdS l).2.2.2.1.toNat).length c1) rfl (by rw [tkl (by omega)] <;> exact slice_eq rfl (by omega) rfl)
          refine m_eff hf rfl (y_call (hf.eval rfl) (hf.evals rfl) Tryd.call56 ((rclone14_spec _ a1 c1 (l.take (sdS l).2.2.2.1.toNat) (hs.oldB (tk_rd hr1 (by omega))) (by rw [tkl (by omega)]; omega)).mono ?_))
          rintro e w1 ⟨g4, cg4, rfl, hj⟩
          replace hs := hs.join hj
          simp only [List.cons_append, List.nil_append] at hs
          refine ⟨_, rfl, ⟨cells_of hs (by first | exact .here _ | exact .there _ (.here _) | exact .there _ (.there _ (.here _)) | exact .there _ (.there _ (.there _ (.here _))) | exact .there _ (.there _ (.there _ (.there _ (.here _)))) | exact .there _ (.there _ (.there _ (.there _ (.there _ (.here _))))) | exact .there _ (.there _ (.there _ (.there _ (.there _ (.there _ (.here _)))))) | exact .there _ (.there _ (.there _ (.there _ (.there _ (.there _ (.there _ (.here _))))))) | exact .there _ (.there _ (.there _ (.there _ (.there _ (.there _ (.there _ (.there _ (.here _)))))))) | exact .there _ (.there _ (.there _ (.there _ (.there _ (.there _ (.there _ (.there _ (.there _ (.here _)))))))))), ?_⟩⟩; clear hf a; intro a hf
          replace hs := hs.take (A := cb b2 45 (vdF (0, 0, 0))) (by first | exact .here _ | exact .there _ (.here _) | exact .there _ (.there _ (.here _)) | exact .there _ (.there _ (.there _ (.here _))) | exact .there _ (.there _ (.there _ (.there _ (.here _)))) | exact .there _ (.there _ (.there _ (.there _ (.there _ (.here _))))) | exact .there _ (.there _ (.there _ (.there _ (.there _ (.there _ (.here _)))))) | exact .there _ (.there _ (.there _ (.there _ (.there _ (.there _ (.there _ (.here _))))))) | exact .there _ (.there _ (.there _ (.there _ (.there _ (.there _ (.there _ (.there _ (.here _)))))))) | exact .there _ (.there _ (.there _ (.there _ (.there _ (.there _ (.there _ (.there _ (.there _ (.here _))))))))) | exact .there _ (.there _ (.there _ (.there _ (.there _ (.there _ (.there _ (.there _ (.there _ (.there _ (.here _)))))))))) | exact .there _ (.there _ (.there _ (.there _ (.there _ (.there _ (.there _ (.there _ (.there _ (.there _ (.there _ (.here _))))))))))))
          refine m_eff0 hf rfl (y_storeAgg (cs := vdF (4, (sdS l).2.1, (sdS l).2.2.2.1)) hs (n := 3) (by kernel_rfl) (hf.eval rfl) (hf.eval rfl) (by simp [Value.oneCell', vdF]) rfl rfl (.here _) ?_); clear hf hs a; intro w hs; refine ⟨cells_of hs (by first | exact .here _ | exact .there _ (.here _) | exact .there _ (.there _ (.here _)) | exact .there _ (.there _ (.there _ (.here _))) | exact .there _ (.there _ (.there _ (.there _ (.here _)))) | exact .there _ (.there _ (.there _ (.there _ (.there _ (.here _))))) | exact .there _ (.there _ (.there _ (.there _ (.there _ (.there _ (.here _)))))) | exact .there _ (.there _ (.there _ (.there _ (.there _ (.there _ (.there _ (.here _))))))) | exact .there _ (.there _ (.there _ (.there _ (.there _ (.there _ (.there _ (.there _ (.here _)))))))) | exact .there _ (.there _ (.there _ (.there _ (.there _ (.there _ (.there _ (.there _ (.there _ (.here _)))))))))), ?_⟩; intro a hf
          refine m_held hf rfl (fun w' _ => x_assign (hf.eval rfl) w') ?_; clear hf a; intro a hf
          refine m_nil ?_
          refine then_n ?_
          refine wp_ret ?_
          refine blk_r (then_r ?_)
          refine r_2c hf Tryd.results21 rfl rfl hs ag45 rfl (by first | exact .here _ | exact .there _ (.here _) | exact .there _ (.there _ (.here _)) | exact .there _ (.there _ (.there _ (.here _))) | exact .there _ (.there _ (.there _ (.there _ (.here _)))) | exact .there _ (.there _ (.there _ (.there _ (.there _ (.here _))))) | exact .there _ (.there _ (.there _ (.there _ (.there _ (.there _ (.here _)))))) | exact .there _ (.there _ (.there _ (.there _ (.there _ (.there _ (.there _ (.here _))))))) | exact .there _ (.there _ (.there _ (.there _ (.there _ (.there _ (.there _ (.there _ (.here _)))))))) | exact .there _ (.there _ (.there _ (.there _ (.there _ (.there _ (.there _ (.there _ (.there _ (.here _)))))))))) ?_
          have hv : lkV l = ((4, (sdS l).2.1, (sdS l).2.2.2.1), l.take (sdS l).2.2.2.1.toNat) := by unfold lkV; rw [if_neg (show ¬ 1024 ≤ zt l by omega), if_neg (by rw [hi1]; simp), if_neg hi2, if_pos hi3]
          rw [hv]
          replace hs := hs.take (A := slB 5 (.slice g4 (l.take (sdS l).2.2.2.1.toNat).length cg4) (l.take (sdS l).2.2.2.1.toNat)) (by first | exact .here _ | exact .there _ (.here _) | exact .there _ (.there _ (.here _)) | exact .there _ (.there _ (.there _ (.here _))) | exact .there _ (.there _ (.there _ (.there _ (.here _)))) | exact .there _ (.there _ (.there _ (.there _ (.there _ (.here _))))) | exact .there _ (.there _ (.there _ (.there _ (.there _ (.there _ (.here _)))))) | exact .there _ (.there _ (.there _ (.there _ (.there _ (.there _ (.there _ (.here _))))))) | exact .there _ (.there _ (.there _ (.there _ (.there _ (.there _ (.there _ (.there _ (.here _)))))))) | exact .there _ (.there _ (.there _ (.there _ (.there _ (.there _ (.there _ (.there _ (.there _ (.here _))))))))))
          exact ⟨_, _, rfl, St.keep [_] _ hs⟩
        · first | simp only [decide_eq_true_eq, decide_eq_false_iff_not, Bool.not_eq_true', Bool.not_eq_false'] at hi3 | skip
          refine wp_skip ?_
          refine blk_n ?_
          refine then_n ?_
          refine wp_seq ?_
          refine wp_region_lit ?_
          refine s_v hf (x_fieldAddr fo24_2 (hf.eval rfl)) ?_; clear hf a; intro a hf
          refine s_r hf (x_load sc3 (hf.eval rfl) (by first | exact hs.cell (.here _) rfl | exact hs.cell (.there _ (.here _)) rfl | exact hs.cell (.there _ (.there _ (.here _))) rfl | exact hs.cell (.there _ (.there _ (.there _ (.here _)))) rfl | exact hs.cell (.there _ (.there _ (.there _ (.there _ (.here _))))) rfl | exact hs.cell (.there _ (.there _ (.there _ (.there _ (.there _ (.here _)))))) rfl | exact hs.cell (.there _ (.there _ (.there _ (.there _ (.there _ (.there _ (.here _))))))) rfl | exact hs.cell (.there _ (.there _ (.there _ (.there _ (.there _ (.there _ (.there _ (.here _)))))))) rfl | exact hs.cell (.there _ (.there _ (.there _ (.there _ (.there _ (.there _ (.there _ (.there _ (.here _))))))))) rfl | exact hs.cell (.there _ (.there _ (.there _ (.there _ (.there _ (.there _ (.there _ (.there _ (.there _ (.here _)))))))))) rfl)) ?_; clear hf a; intro a hf
          refine s_v hf (x_fieldAddr fo24_3 (hf.eval rfl)) ?_; clear hf a; intro a hf
          refine s_r hf (x_load sc3 (hf.eval rfl) (by first | exact hs.cell (.here _) rfl | exact hs.cell (.there _ (.here _)) rfl | exact hs.cell (.there _ (.there _ (.here _))) rfl | exact hs.cell (.there _ (.there _ (.there _ (.here _)))) rfl | exact hs.cell (.there _ (.there _ (.there _ (.there _ (.here _))))) rfl | exact hs.cell (.there _ (.there _ (.there _ (.there _ (.there _ (.here _)))))) rfl | exact hs.cell (.there _ (.there _ (.there _ (.there _ (.there _ (.there _ (.here _))))))) rfl | exact hs.cell (.there _ (.there _ (.there _ (.there _ (.there _ (.there _ (.there _ (.here _)))))))) rfl | exact hs.cell (.there _ (.there _ (.there _ (.there _ (.there _ (.there _ (.there _ (.there _ (.here _))))))))) rfl | exact hs.cell (.there _ (.there _ (.there _ (.there _ (.there _ (.there _ (.there _ (.there _ (.there _ (.here _)))))))))) rfl)) ?_; clear hf a; intro a hf
          refine s_do hf rfl (y_call (hf.eval rfl) (hf.evals rfl) Tryd.call58 ((body_spec _ (sdS l).2.2.1 (sdS l).2.2.2.1 (by omega) (by omega) (by omega) (by omega)).mono ?_))
          rintro e w1 ⟨rfl, hk⟩
          replace hs := hs.ext hk
          refine ⟨_, rfl, ?_⟩; clear hf a; intro a hf
          refine s_a hf rfl ?_; clear hf a; intro a hf
          refine s_nil ?_
          refine then_n ?_
          refine wp_seq ?_
          refine wp_region_lit ?_
          refine s_m hf rfl ?_; clear hf a; intro a hf
          refine s_m hf rfl ?_; clear hf a; intro a hf
          refine s_m hf rfl ?_; clear hf a; intro a hf
          refine s_v hf (x_fieldAddr fo24_5 (hf.eval rfl)) ?_; clear hf a; intro a hf
          refine s_r hf (x_load sc3 (hf.eval rfl) (by first | exact hs.cell (.here _) rfl | exact hs.cell (.there _ (.here _)) rfl | exact hs.cell (.there _ (.there _ (.here _))) rfl | exact hs.cell (.there _ (.there _ (.there _ (.here _)))) rfl | exact hs.cell (.there _ (.there _ (.there _ (.there _ (.here _))))) rfl | exact hs.cell (.there _ (.there _ (.there _ (.there _ (.there _ (.here _)))))) rfl | exact hs.cell (.there _ (.there _ (.there _ (.there _ (.there _ (.there _ (.here _))))))) rfl | exact hs.cell (.there _ (.there _ (.there _ (.there _ (.there _ (.there _ (.there _ (.here _)))))))) rfl | exact hs.cell (.there _ (.there _ (.there _ (.there _ (.there _ (.there _ (.there _ (.there _ (.here _))))))))) rfl | exact hs.cell (.there _ (.there _ (.there _ (.there _ (.there _ (.there _ (.there _ (.there _ (.there _ (.here _)))))))))) rfl)) ?_; clear hf a; intro a hf
          refine s_v hf (x_bin (hf.eval rfl) (hf.eval rfl) (r_addi _ (by omega) (by omega))) ?_; clear hf a; intro a hf
          refine s_v hf (x_slice sl25 (hf.eval rfl) (hf.eval rfl) (hf.eval rfl)  (by omega) (by omega) (by omega)) ?_; clear hf a; intro a hf
          have hbl : (bodyS l).length = (sdS l).2.2.2.2.2.1.toNat := by unfold bodyS; rw [List.length_take, List.length_drop]; omega
          have hbr : RdB (hp w0) (.slice (subA a1 c1 (upZ (max (sdS l).2.2.1 (sdS l).2.2.2.1)).toNat 1) (bodyS l).length (c1 - (upZ (max (sdS l).2.2.1 (sdS l).2.2.2.1)).toNat)) (bodyS l) := by unfold bodyS; exact sub_rd hr1 (by omega)
          replace hf := hf.now (k := 83) (v' := .slice (subA a1 c1 (upZ (max (sdS l).2.2.1 (sdS l).2.2.2.1)).toNat 1) (bodyS l).length (c1 - (upZ (max (sdS l).2.2.1 (sdS l).2.2.2.1)).toNat)) rfl (by rw [hbl]; exact slice_eq rfl (by omega) rfl)
          refine s_a hf rfl ?_; clear hf a; intro a hf
          refine s_nil ?_
          refine then_n ?_
          refine wp_seq ?_
          refine wp_region_lit ?_
          replace hs := hs.take (A := cb b8 24 (slF (sdS l))) (by first | exact .here _ | exact .there _ (.here _) | exact .there _ (.there _ (.here _)) | exact .there _ (.there _ (.there _ (.here _))) | exact .there _ (.there _ (.there _ (.there _ (.here _)))) | exact .there _ (.there _ (.there _ (.there _ (.there _ (.here _))))) | exact .there _ (.there _ (.there _ (.there _ (.there _ (.there _ (.here _)))))) | exact .there _ (.there _ (.there _ (.there _ (.there _ (.there _ (.there _ (.here _))))))) | exact .there _ (.there _ (.there _ (.there _ (.there _ (.there _ (.there _ (.there _ (.here _)))))))) | exact .there _ (.there _ (.there _ (.there _ (.there _ (.there _ (.there _ (.there _ (.there _ (.here _))))))))) | exact .there _ (.there _ (.there _ (.there _ (.there _ (.there _ (.there _ (.there _ (.there _ (.there _ (.here _)))))))))) | exact .there _ (.there _ (.there _ (.there _ (.there _ (.there _ (.there _ (.there _ (.there _ (.there _ (.there _ (.here _))))))))))))
          refine s_r hf (x_loadBlk hs ag24 (hf.eval rfl) rfl (by first | exact .here _ | exact .there _ (.here _) | exact .there _ (.there _ (.here _)) | exact .there _ (.there _ (.there _ (.here _))) | exact .there _ (.there _ (.there _ (.there _ (.here _)))) | exact .there _ (.there _ (.there _ (.there _ (.there _ (.here _))))) | exact .there _ (.there _ (.there _ (.there _ (.there _ (.there _ (.here _)))))) | exact .there _ (.there _ (.there _ (.there _ (.there _ (.there _ (.there _ (.here _))))))) | exact .there _ (.there _ (.there _ (.there _ (.there _ (.there _ (.there _ (.there _ (.here _)))))))) | exact .there _ (.there _ (.there _ (.there _ (.there _ (.there _ (.there _ (.there _ (.there _ (.here _))))))))))) ?_; clear hf a; intro a hf
          refine s_m hf rfl ?_; clear hf a; intro a hf
          refine s_do hf rfl (y_call (hf.eval rfl) (hf.evals rfl) Tryd.call59 ((back_spec _ (sdS l) gu (by omega) (by omega) _ _ (bodyS l) (hs.oldB hbr) (by omega)).mono ?_))
          rintro e w1 ⟨vs, ns, rfl, hns, hj⟩
          replace hs := hs.join hj
          simp only [List.cons_append, List.nil_append] at hs
          refine ⟨_, rfl, ?_⟩; clear hf a; intro a hf
          refine s_m hf rfl ?_; clear hf a; intro a hf
          refine s_v hf (x_extract (hf.eval rfl) rfl) ?_; clear hf a; intro a hf
          refine s_v hf (x_extract (hf.eval rfl) rfl) ?_; clear hf a; intro a hf
          refine s_a hf rfl ?_; clear hf a; intro a hf
          refine s_a hf rfl ?_; clear hf a; intro a hf
          refine s_nil ?_
          refine then_n ?_
          refine wp_seq ?_
          refine wp_seq ?_
          refine wp_region_lit ?_
          refine s_m hf rfl ?_; clear hf a; intro a hf
          refine s_v hf (x_not (hf.eval rfl)) ?_; clear hf a; intro a hf
          refine s_nil ?_
          refine then_n ?_
          refine c_cond hf rfl (fun hi4 => ?_) (fun hi4 => ?_)
          · first | simp only [decide_eq_true_eq, decide_eq_false_iff_not, Bool.not_eq_true', Bool.not_eq_false'] at hi4 | skip
            refine wp_seq ?_
            replace hs := hs.take (A := cb b7 45 (vdF (0, 0, (l.length : Int)))) (by first | exact .here _ | exact .there _ (.here _) | exact .there _ (.there _ (.here _)) | exact .there _ (.there _ (.there _ (.here _))) | exact .there _ (.there _ (.there _ (.there _ (.here _)))) | exact .there _ (.there _ (.there _ (.there _ (.there _ (.here _))))) | exact .there _ (.there _ (.there _ (.there _ (.there _ (.there _ (.here _)))))) | exact .there _ (.there _ (.there _ (.there _ (.there _ (.there _ (.there _ (.here _))))))) | exact .there _ (.there _ (.there _ (.there _ (.there _ (.there _ (.there _ (.there _ (.here _)))))))) | exact .there _ (.there _ (.there _ (.there _ (.there _ (.there _ (.there _ (.there _ (.there _ (.here _))))))))) | exact .there _ (.there _ (.there _ (.there _ (.there _ (.there _ (.there _ (.there _ (.there _ (.there _ (.here _)))))))))) | exact .there _ (.there _ (.there _ (.there _ (.there _ (.there _ (.there _ (.there _ (.there _ (.there _ (.there _ (.here _))))))))))))
            refine c_draw hs (fun w' => ∀ (j : Nat) (v : Value), (vdF (0, 0, (l.length : Int)))[j]? = some v → w'.cell? ((⟨b7, 0, none⟩ : Addr).add j) = some v) [.held, .held, .eff, .eff, .held] (by kernel_rfl) (by kernel_rfl) (fun _ _ hs => cells_of hs (by first | exact .here _ | exact .there _ (.here _) | exact .there _ (.there _ (.here _)) | exact .there _ (.there _ (.there _ (.here _))) | exact .there _ (.there _ (.there _ (.there _ (.here _)))) | exact .there _ (.there _ (.there _ (.there _ (.there _ (.here _))))) | exact .there _ (.there _ (.there _ (.there _ (.there _ (.there _ (.here _)))))) | exact .there _ (.there _ (.there _ (.there _ (.there _ (.there _ (.there _ (.here _))))))))) ?_
            clear hs; intro w hs hC hw
            refine m_held hf rfl (fun w' hc => x_loadAgg ag45 (hf.eval rfl) (vs := vdF (0, 0, (l.length : Int))) rfl hc) ?_; clear hf a; intro a hf
            refine m_held hf rfl (fun w' _ => x_move (hf.eval rfl) w') ?_; clear hf a; intro a hf
            refine m_eff hf rfl (y_call (hf.eval rfl) (hf.evals rfl) Tryd.call56 ((rclone14_spec _ a1 c1 l (hs.oldB hr1) hl1).mono ?_))
            rintro e w1 ⟨g9, cg9, rfl, hj⟩
            replace hs := hs.join hj
            simp only [List.cons_append, List.nil_append] at hs
            refine ⟨_, rfl, ⟨cells_of hs (by first | exact .here _ | exact .there _ (.here _) | exact .there _ (.there _ (.here _)) | exact .there _ (.there _ (.there _ (.here _))) | exact .there _ (.there _ (.there _ (.there _ (.here _)))) | exact .there _ (.there _ (.there _ (.there _ (.there _ (.here _))))) | exact .there _ (.there _ (.there _ (.there _ (.there _ (.there _ (.here _)))))) | exact .there _ (.there _ (.there _ (.there _ (.there _ (.there _ (.there _ (.here _))))))) | exact .there _ (.there _ (.there _ (.there _ (.there _ (.there _ (.there _ (.there _ (.here _)))))))) | exact .there _ (.there _ (.there _ (.there _ (.there _ (.there _ (.there _ (.there _ (.there _ (.here _)))))))))), ?_⟩⟩; clear hf a; intro a hf
            replace hs := hs.take (A := cb b2 45 (vdF (0, 0, 0))) (by first | exact .here _ | exact .there _ (.here _) | exact .there _ (.there _ (.here _)) | exact .there _ (.there _ (.there _ (.here _))) | exact .there _ (.there _ (.there _ (.there _ (.here _)))) | exact .there _ (.there _ (.there _ (.there _ (.there _ (.here _))))) | exact .there _ (.there _ (.there _ (.there _ (.there _ (.there _ (.here _)))))) | exact .there _ (.there _ (.there _ (.there _ (.there _ (.there _ (.there _ (.here _))))))) | exact .there _ (.there _ (.there _ (.there _ (.there _ (.there _ (.there _ (.there _ (.here _)))))))) | exact .there _ (.there _ (.there _ (.there _ (.there _ (.there _ (.there _ (.there _ (.there _ (.here _))))))))) | exact .there _ (.there _ (.there _ (.there _ (.there _ (.there _ (.there _ (.there _ (.there _ (.there _ (.here _)))))))))) | exact .there _ (.there _ (.there _ (.there _ (.there _ (.there _ (.there _ (.there _ (.there _ (.there _ (.there _ (.here _))))))))))))
            refine m_eff0 hf rfl (y_storeAgg (cs := vdF (0, 0, (l.length : Int))) hs (n := 3) (by kernel_rfl) (hf.eval rfl) (hf.eval rfl) (by simp [Value.oneCell', vdF]) rfl rfl (.here _) ?_); clear hf hs a; intro w hs; refine ⟨cells_of hs (by first | exact .here _ | exact .there _ (.here _) | exact .there _ (.there _ (.here _)) | exact .there _ (.there _ (.there _ (.here _))) | exact .there _ (.there _ (.there _ (.there _ (.here _)))) | exact .there _ (.there _ (.there _ (.there _ (.there _ (.here _))))) | exact .there _ (.there _ (.there _ (.there _ (.there _ (.there _ (.here _)))))) | exact .there _ (.there _ (.there _ (.there _ (.there _ (.there _ (.there _ (.here _))))))) | exact .there _ (.there _ (.there _ (.there _ (.there _ (.there _ (.there _ (.there _ (.here _)))))))) | exact .there _ (.there _ (.there _ (.there _ (.there _ (.there _ (.there _ (.there _ (.there _ (.here _)))))))))), ?_⟩; intro a hf
            refine m_held hf rfl (fun w' _ => x_assign (hf.eval rfl) w') ?_; clear hf a; intro a hf
            refine m_nil ?_
            refine then_n ?_
            refine wp_ret ?_
            refine then_r ?_
            refine r_2c hf Tryd.results21 rfl rfl hs ag45 rfl (by first | exact .here _ | exact .there _ (.here _) | exact .there _ (.there _ (.here _)) | exact .there _ (.there _ (.there _ (.here _))) | exact .there _ (.there _ (.there _ (.there _ (.here _)))) | exact .there _ (.there _ (.there _ (.there _ (.there _ (.here _))))) | exact .there _ (.there _ (.there _ (.there _ (.there _ (.there _ (.here _)))))) | exact .there _ (.there _ (.there _ (.there _ (.there _ (.there _ (.there _ (.here _))))))) | exact .there _ (.there _ (.there _ (.there _ (.there _ (.there _ (.there _ (.there _ (.here _)))))))) | exact .there _ (.there _ (.there _ (.there _ (.there _ (.there _ (.there _ (.there _ (.there _ (.here _)))))))))) ?_
            have hv : lkV l = ((0, 0, (l.length : Int)), l) := by unfold lkV; rw [if_neg (show ¬ 1024 ≤ zt l by omega), if_neg (by rw [hi1]; simp), if_neg hi2, if_neg hi3, if_pos hi4]
            rw [hv]
            replace hs := hs.take (A := slB 5 (.slice g9 (l).length cg9) (l)) (by first | exact .here _ | exact .there _ (.here _) | exact .there _ (.there _ (.here _)) | exact .there _ (.there _ (.there _ (.here _))) | exact .there _ (.there _ (.there _ (.there _ (.here _)))) | exact .there _ (.there _ (.there _ (.there _ (.there _ (.here _))))) | exact .there _ (.there _ (.there _ (.there _ (.there _ (.there _ (.here _)))))) | exact .there _ (.there _ (.there _ (.there _ (.there _ (.there _ (.there _ (.here _))))))) | exact .there _ (.there _ (.there _ (.there _ (.there _ (.there _ (.there _ (.there _ (.here _)))))))) | exact .there _ (.there _ (.there _ (.there _ (.there _ (.there _ (.there _ (.there _ (.there _ (.here _))))))))))
            exact ⟨_, _, rfl, St.keep [_] _ hs⟩
          · first | simp only [decide_eq_true_eq, decide_eq_false_iff_not, Bool.not_eq_true', Bool.not_eq_false'] at hi4 | skip
            refine wp_skip ?_
            refine then_n ?_
            refine wp_seq ?_
            refine wp_region_lit ?_
            refine s_m hf rfl ?_; clear hf a; intro a hf
            refine s_v hf (x_fieldAddr fo24_2 (hf.eval rfl)) ?_; clear hf a; intro a hf
            refine s_r hf (x_load sc3 (hf.eval rfl) (by first | exact hs.cell (.here _) rfl | exact hs.cell (.there _ (.here _)) rfl | exact hs.cell (.there _ (.there _ (.here _))) rfl | exact hs.cell (.there _ (.there _ (.there _ (.here _)))) rfl | exact hs.cell (.there _ (.there _ (.there _ (.there _ (.here _))))) rfl | exact hs.cell (.there _ (.there _ (.there _ (.there _ (.there _ (.here _)))))) rfl | exact hs.cell (.there _ (.there _ (.there _ (.there _ (.there _ (.there _ (.here _))))))) rfl | exact hs.cell (.there _ (.there _ (.there _ (.there _ (.there _ (.there _ (.there _ (.here _)))))))) rfl | exact hs.cell (.there _ (.there _ (.there _ (.there _ (.there _ (.there _ (.there _ (.there _ (.here _))))))))) rfl | exact hs.cell (.there _ (.there _ (.there _ (.there _ (.there _ (.there _ (.there _ (.there _ (.there _ (.here _)))))))))) rfl)) ?_; clear hf a; intro a hf
            refine s_v hf (x_slice_hi sl25 (hf.eval rfl) (hf.eval rfl)  (by omega) (by omega)) ?_; clear hf a; intro a hf
            replace hf := hf.now (k := 98) (v' := .slice a1 (l.take (sdS l).2.2.1.toNat).length c1) rfl (by rw [tkl (by omega)] <;> exact slice_eq rfl (by omega) rfl)
            refine s_do hf rfl (y_call (hf.eval rfl) (hf.evals rfl) Tryd.call56 ((rclone14_spec _ a1 c1 (l.take (sdS l).2.2.1.toNat) (hs.oldB (tk_rd hr1 (by omega))) (by rw [tkl (by omega)]; omega)).mono ?_))
            rintro e w1 ⟨g7, cg7, rfl, hj⟩
            replace hs := hs.join hj
            simp only [List.cons_append, List.nil_append] at hs
            refine ⟨_, rfl, ?_⟩; clear hf a; intro a hf
            refine s_a hf rfl ?_; clear hf a; intro a hf
            refine s_nil ?_
            refine then_n ?_
            refine wp_seq ?_
            refine wp_region_lit ?_
            refine s_v hf (x_fieldAddr fo24_4 (hf.eval rfl)) ?_; clear hf a; intro a hf
            refine s_r hf (x_load sc3 (hf.eval rfl) (by first | exact hs.cell (.here _) rfl | exact hs.cell (.there _ (.here _)) rfl | exact hs.cell (.there _ (.there _ (.here _))) rfl | exact hs.cell (.there _ (.there _ (.there _ (.here _)))) rfl | exact hs.cell (.there _ (.there _ (.there _ (.there _ (.here _))))) rfl | exact hs.cell (.there _ (.there _ (.there _ (.there _ (.there _ (.here _)))))) rfl | exact hs.cell (.there _ (.there _ (.there _ (.there _ (.there _ (.there _ (.here _))))))) rfl | exact hs.cell (.there _ (.there _ (.there _ (.there _ (.there _ (.there _ (.there _ (.here _)))))))) rfl | exact hs.cell (.there _ (.there _ (.there _ (.there _ (.there _ (.there _ (.there _ (.there _ (.here _))))))))) rfl | exact hs.cell (.there _ (.there _ (.there _ (.there _ (.there _ (.there _ (.there _ (.there _ (.there _ (.here _)))))))))) rfl)) ?_; clear hf a; intro a hf
            obtain ⟨N, hN⟩ : ∃ N : Nat, (sdS l).2.2.2.2.1 = (N : Int) := ⟨(sdS l).2.2.2.2.1.toNat, by omega⟩
            have hbc := bk_cnt hi4
            have hNt : (sdS l).2.2.2.2.1.toNat = N := by omega
            have hns2 : ns = N := by rw [hns hi4, hNt]
            subst hns2
            replace hs := hs.take (A := sl 91 2 vs (spL (bodyS l) ns).length ((spL (bodyS l) ns).flatMap spF)) (by first | exact .here _ | exact .there _ (.here _) | exact .there _ (.there _ (.here _)) | exact .there _ (.there _ (.there _ (.here _))) | exact .there _ (.there _ (.there _ (.there _ (.here _)))) | exact .there _ (.there _ (.there _ (.there _ (.there _ (.here _))))) | exact .there _ (.there _ (.there _ (.there _ (.there _ (.there _ (.here _)))))) | exact .there _ (.there _ (.there _ (.there _ (.there _ (.there _ (.there _ (.here _))))))) | exact .there _ (.there _ (.there _ (.there _ (.there _ (.there _ (.there _ (.there _ (.here _)))))))) | exact .there _ (.there _ (.there _ (.there _ (.there _ (.there _ (.there _ (.there _ (.there _ (.here _))))))))) | exact .there _ (.there _ (.there _ (.there _ (.there _ (.there _ (.there _ (.there _ (.there _ (.there _ (.here _)))))))))) | exact .there _ (.there _ (.there _ (.there _ (.there _ (.there _ (.there _ (.there _ (.there _ (.there _ (.there _ (.here _))))))))))))
            obtain ⟨vs_, vc_, rfl⟩ := sl_shape hs
            refine s_v hf (x_bin (hf.eval rfl) (hf.eval rfl) (r_muli _ (by omega) (by omega))) ?_; clear hf a; intro a hf
            replace hf := hf.now (k := 102) (v' := .int .i64 ((8 * ns : Nat) : Int)) rfl (by rw [hN]; congr 1 <;> omega)
            refine s_a hf rfl ?_; clear hf a; intro a hf
            refine s_nil ?_
            refine then_n ?_
            refine wp_seq ?_
            refine wp_seq ?_
            refine wp_region_lit ?_
            refine s_a hf rfl ?_; clear hf a; intro a hf
            refine s_nil ?_
            refine then_n ?_
            refine wp_block ?_
            unfold slB at hs
            rw [tkl (show (sdS l).2.2.1.toNat ≤ l.length by omega)] at hs hf
            replace hs := hs.take (A := cb b2 45 (vdF (0, 0, 0))) (by first | exact .here _ | exact .there _ (.here _) | exact .there _ (.there _ (.here _)) | exact .there _ (.there _ (.there _ (.here _))) | exact .there _ (.there _ (.there _ (.there _ (.here _)))) | exact .there _ (.there _ (.there _ (.there _ (.there _ (.here _))))) | exact .there _ (.there _ (.there _ (.there _ (.there _ (.there _ (.here _)))))) | exact .there _ (.there _ (.there _ (.there _ (.there _ (.there _ (.there _ (.here _))))))) | exact .there _ (.there _ (.there _ (.there _ (.there _ (.there _ (.there _ (.there _ (.here _)))))))) | exact .there _ (.there _ (.there _ (.there _ (.there _ (.there _ (.there _ (.there _ (.there _ (.here _))))))))) | exact .there _ (.there _ (.there _ (.there _ (.there _ (.there _ (.there _ (.there _ (.there _ (.there _ (.here _)))))))))) | exact .there _ (.there _ (.there _ (.there _ (.there _ (.there _ (.there _ (.there _ (.there _ (.there _ (.there _ (.here _))))))))))))
            replace hs := hs.take (A := cb b8 24 (slF (sdS l))) (by first | exact .here _ | exact .there _ (.here _) | exact .there _ (.there _ (.here _)) | exact .there _ (.there _ (.there _ (.here _))) | exact .there _ (.there _ (.there _ (.there _ (.here _)))) | exact .there _ (.there _ (.there _ (.there _ (.there _ (.here _))))) | exact .there _ (.there _ (.there _ (.there _ (.there _ (.there _ (.here _)))))) | exact .there _ (.there _ (.there _ (.there _ (.there _ (.there _ (.there _ (.here _))))))) | exact .there _ (.there _ (.there _ (.there _ (.there _ (.there _ (.there _ (.there _ (.here _)))))))) | exact .there _ (.there _ (.there _ (.there _ (.there _ (.there _ (.there _ (.there _ (.there _ (.here _))))))))) | exact .there _ (.there _ (.there _ (.there _ (.there _ (.there _ (.there _ (.there _ (.there _ (.there _ (.here _)))))))))) | exact .there _ (.there _ (.there _ (.there _ (.there _ (.there _ (.there _ (.there _ (.there _ (.there _ (.there _ (.here _))))))))))))
            replace hs := hs.take (A := sl 91 2 (.slice vs_ (spL (bodyS l) ns).length vc_) (spL (bodyS l) ns).length ((spL (bodyS l) ns).flatMap spF)) (by first | exact .here _ | exact .there _ (.here _) | exact .there _ (.there _ (.here _)) | exact .there _ (.there _ (.there _ (.here _))) | exact .there _ (.there _ (.there _ (.there _ (.here _)))) | exact .there _ (.there _ (.there _ (.there _ (.there _ (.here _))))) | exact .there _ (.there _ (.there _ (.there _ (.there _ (.there _ (.here _)))))) | exact .there _ (.there _ (.there _ (.there _ (.there _ (.there _ (.there _ (.here _))))))) | exact .there _ (.there _ (.there _ (.there _ (.there _ (.there _ (.there _ (.there _ (.here _)))))))) | exact .there _ (.there _ (.there _ (.there _ (.there _ (.there _ (.there _ (.there _ (.there _ (.here _))))))))) | exact .there _ (.there _ (.there _ (.there _ (.there _ (.there _ (.there _ (.there _ (.there _ (.there _ (.here _)))))))))) | exact .there _ (.there _ (.there _ (.there _ (.there _ (.there _ (.there _ (.there _ (.there _ (.there _ (.there _ (.here _))))))))))))
            replace hs := hs.take (A := sl 5 1 (.slice g7 (sdS l).2.2.1.toNat cg7) (sdS l).2.2.1.toNat ((l.take (sdS l).2.2.1.toNat).map u8v)) (by first | exact .here _ | exact .there _ (.here _) | exact .there _ (.there _ (.here _)) | exact .there _ (.there _ (.there _ (.here _))) | exact .there _ (.there _ (.there _ (.there _ (.here _)))) | exact .there _ (.there _ (.there _ (.there _ (.there _ (.here _))))) | exact .there _ (.there _ (.there _ (.there _ (.there _ (.there _ (.here _)))))) | exact .there _ (.there _ (.there _ (.there _ (.there _ (.there _ (.there _ (.here _))))))) | exact .there _ (.there _ (.there _ (.there _ (.there _ (.there _ (.there _ (.there _ (.here _)))))))) | exact .there _ (.there _ (.there _ (.there _ (.there _ (.there _ (.there _ (.there _ (.there _ (.here _))))))))) | exact .there _ (.there _ (.there _ (.there _ (.there _ (.there _ (.there _ (.there _ (.there _ (.there _ (.here _)))))))))) | exact .there _ (.there _ (.there _ (.there _ (.there _ (.there _ (.there _ (.there _ (.there _ (.there _ (.there _ (.here _))))))))))))
            replace hs := St.keep [_, _, _, _] _ hs
            replace hf := hf.now (k := 14) (v' := .int .i64 ((8 * ns + totB (sdS l).2.2.1 (bodyS l) 0 : Nat) : Int)) rfl (by rw [totB0]; rfl)
            refine c_loop (L0 := [(2, _), (3, _), (8, _), (11, _), (12, _), (13, _)]) (fun M w m => ∃ i : Nat, M = [(14, .int .i64 ((8 * ns + (totB (sdS l).2.2.1 (bodyS l) i) : Nat) : Int)), (15, .int .i64 (i : Int))] ∧ ns - i = m ∧ i ≤ ns ∧ St ⟨w0, None_⟩ w [sl 5 1 (.slice g7 (sdS l).2.2.1.toNat cg7) (sdS l).2.2.1.toNat ((putPs (l.take (sdS l).2.2.1.toNat) (bkL (sdS l) (bodyS l) i)).map u8v), sl 91 2 (.slice vs_ (spL (bodyS l) ns).length vc_) (spL (bodyS l) ns).length ((spL (bodyS l) ns).flatMap spF), cb b8 24 (slF (sdS l)), cb b2 45 (vdF (0, 0, 0))]) (M0 := _) (⟨0, rfl, rfl, Nat.zero_le _, by rw [putPs0]; exact hs⟩) (hf.sub ⟨rfl, rfl, rfl, rfl, rfl, rfl, rfl, rfl, trivial⟩) ?_
            clear hf hs a
            rintro M m a w ⟨i, rfl, rfl, hi, hs⟩ hf
            have hsl : (spL (bodyS l) ns).length = ns := by unfold spL; simp
            refine wp_seq ?_
            refine wp_seq ?_
            refine wp_region_lit ?_
            refine s_m hf rfl ?_; clear hf a; intro a hf
            refine s_m hf rfl ?_; clear hf a; intro a hf
            refine s_v hf (x_len Tryd.underlying87 (hf.eval rfl)) ?_; clear hf a; intro a hf
            refine s_v hf (x_bin (hf.eval rfl) (hf.eval rfl) (r_lt _ _ _ _)) ?_; clear hf a; intro a hf
            refine s_nil ?_
            refine then_n ?_
            refine c_cond hf rfl (fun hi5 => ?_) (fun hi5 => ?_)
            · simp only [decide_eq_true_eq, decide_eq_false_iff_not, Bool.not_eq_true', Bool.not_eq_false', Bool.not_eq_true, Int.not_lt, Int.not_le] at hi5
              have hlt : i < ns := by omega
              obtain ⟨hb1, hb2, hb3, hb4⟩ := bk_span hi4 hN hlt
              obtain ⟨hq1, hq2⟩ := spL_at (body := bodyS l) hlt
              replace hs := hs.take (A := sl 91 2 (.slice vs_ (spL (bodyS l) ns).length vc_) (spL (bodyS l) ns).length ((spL (bodyS l) ns).flatMap spF)) (by first | exact .here _ | exact .there _ (.here _) | exact .there _ (.there _ (.here _)) | exact .there _ (.there _ (.there _ (.here _))) | exact .there _ (.there _ (.there _ (.there _ (.here _)))) | exact .there _ (.there _ (.there _ (.there _ (.there _ (.here _))))) | exact .there _ (.there _ (.there _ (.there _ (.there _ (.there _ (.here _)))))) | exact .there _ (.there _ (.there _ (.there _ (.there _ (.there _ (.there _ (.here _))))))) | exact .there _ (.there _ (.there _ (.there _ (.there _ (.there _ (.there _ (.there _ (.here _)))))))) | exact .there _ (.there _ (.there _ (.there _ (.there _ (.there _ (.there _ (.there _ (.there _ (.here _))))))))) | exact .there _ (.there _ (.there _ (.there _ (.there _ (.there _ (.there _ (.there _ (.there _ (.there _ (.here _)))))))))) | exact .there _ (.there _ (.there _ (.there _ (.there _ (.there _ (.there _ (.there _ (.there _ (.there _ (.there _ (.here _))))))))))))
              obtain ⟨vs_, rfl⟩ := sl_some hs (by omega)
              replace hs := hs.take (A := sl 5 1 (.slice g7 (sdS l).2.2.1.toNat cg7) (sdS l).2.2.1.toNat ((putPs (l.take (sdS l).2.2.1.toNat) (bkL (sdS l) (bodyS l) i)).map u8v)) (by first | exact .here _ | exact .there _ (.here _) | exact .there _ (.there _ (.here _)) | exact .there _ (.there _ (.there _ (.here _))) | exact .there _ (.there _ (.there _ (.there _ (.here _)))) | exact .there _ (.there _ (.there _ (.there _ (.there _ (.here _))))) | exact .there _ (.there _ (.there _ (.there _ (.there _ (.there _ (.here _)))))) | exact .there _ (.there _ (.there _ (.there _ (.there _ (.there _ (.there _ (.here _))))))) | exact .there _ (.there _ (.there _ (.there _ (.there _ (.there _ (.there _ (.there _ (.here _)))))))) | exact .there _ (.there _ (.there _ (.there _ (.there _ (.there _ (.there _ (.there _ (.there _ (.here _))))))))) | exact .there _ (.there _ (.there _ (.there _ (.there _ (.there _ (.there _ (.there _ (.there _ (.there _ (.here _)))))))))) | exact .there _ (.there _ (.there _ (.there _ (.there _ (.there _ (.there _ (.there _ (.there _ (.there _ (.there _ (.here _))))))))))))
              have hpl : (putPs (l.take (sdS l).2.2.1.toNat) (bkL (sdS l) (bodyS l) i)).length = (sdS l).2.2.1.toNat := by rw [putPs_len, tkl (by omega)]
              obtain ⟨g7, rfl⟩ := sl_some hs (by omega)
              obtain ⟨ba, hba⟩ : ∃ x, subA a1 c1 (upZ (max (sdS l).2.2.1 (sdS l).2.2.2.1)).toNat 1 = some x := by
                rcases hbr.2 with ⟨c9, e9, hn9⟩ | ⟨x9, c9, e9, _⟩
                · omega
                · injection e9 with e9; exact ⟨x9, e9⟩
              have hbr2 : RdB (hp w0) (.slice (some ba) (bodyS l).length (c1 - (upZ (max (sdS l).2.2.1 (sdS l).2.2.2.1)).toNat)) (bodyS l) := by rw [← hba]; exact hbr
              refine wp_skip ?_
              refine then_n ?_
              refine wp_seq ?_
              refine wp_block ?_
              refine wp_seq ?_
              refine wp_region_lit ?_
              refine s_m hf rfl ?_; clear hf a; intro a hf
              refine s_m hf rfl ?_; clear hf a; intro a hf
              refine s_v hf (x_indexAddr sl87 (hf.eval rfl) (hf.eval rfl) (by omega) (by omega)) ?_; clear hf a; intro a hf
              refine s_v hf (x_fieldAddrG fo91_0 (hf.eval rfl)) ?_; clear hf a; intro a hf
              refine s_r hf (x_loadF (k := 0) (i := (i : Int)) (f := spF) (l := spL (bodyS l) ns) (u := .int .i64 (((spA (bodyS l) i) : Nat) : Int)) sc3 (by intro _; rfl) (hs.rd (A := sl 91 2 (.slice (some vs_) (spL (bodyS l) ns).length vc_) (spL (bodyS l) ns).length ((spL (bodyS l) ns).flatMap spF)) (by first | exact .here _ | exact .there _ (.here _) | exact .there _ (.there _ (.here _)) | exact .there _ (.there _ (.there _ (.here _))) | exact .there _ (.there _ (.there _ (.there _ (.here _)))) | exact .there _ (.there _ (.there _ (.there _ (.there _ (.here _))))) | exact .there _ (.there _ (.there _ (.there _ (.there _ (.there _ (.here _)))))) | exact .there _ (.there _ (.there _ (.there _ (.there _ (.there _ (.there _ (.here _))))))) | exact .there _ (.there _ (.there _ (.there _ (.there _ (.there _ (.there _ (.there _ (.here _)))))))) | exact .there _ (.there _ (.there _ (.there _ (.there _ (.there _ (.there _ (.there _ (.there _ (.here _)))))))))) fun h hh => sl_rd hh) (hf.eval rfl) (by rw [Int.toNat_natCast]; exact hq1) (by show (spF (spL (bodyS l) ns)[i])[0]? = _; rw [hq2]; rfl)) ?_; clear hf a; intro a hf
              refine s_a hf rfl ?_; clear hf a; intro a hf
              refine s_nil ?_
              refine then_n ?_
              refine wp_block ?_
              refine c_loop (L0 := [(2, _), (3, _), (8, _), (11, _), (12, _), (13, _), (15, _), (103, _), (104, _), (105, _), (106, _), (109, _), (110, _), (111, _), (112, _), (113, _)]) (fun M w m => ∃ j : Nat, M = [(14, .int .i64 ((8 * ns + (totB (sdS l).2.2.1 (bodyS l) i) + j : Nat) : Int)), (16, .int .i64 (((spA (bodyS l) i) + j : Nat) : Int))] ∧ (spN (bodyS l) i) - j = m ∧ j ≤ (spN (bodyS l) i) ∧ St ⟨w0, None_⟩ w [sl 5 1 (.slice (some g7) (sdS l).2.2.1.toNat cg7) (sdS l).2.2.1.toNat ((putP (putPs (l.take (sdS l).2.2.1.toNat) (bkL (sdS l) (bodyS l) i)) ((spA (bodyS l) i), (((bodyS l).drop (8 * ns + totB (sdS l).2.2.1 (bodyS l) i)).take (spN (bodyS l) i)).take j)).map u8v), sl 91 2 (.slice (some vs_) (spL (bodyS l) ns).length vc_) (spL (bodyS l) ns).length ((spL (bodyS l) ns).flatMap spF), cb b8 24 (slF (sdS l)), cb b2 45 (vdF (0, 0, 0))]) (M0 := _) (⟨0, rfl, rfl, Nat.zero_le _, by rw [putP_zero]; exact hs⟩) (hf.sub ⟨rfl, rfl, rfl, rfl, rfl, rfl, rfl, rfl, rfl, rfl, rfl, rfl, rfl, rfl, rfl, rfl, rfl, rfl, trivial⟩) ?_
              clear hf hs a
              rintro M m a w ⟨j, rfl, rfl, hj, hs⟩ hf
              refine wp_seq ?_
              refine wp_seq ?_
              refine wp_region_lit ?_
              refine s_m hf rfl ?_; clear hf a; intro a hf
              refine s_m hf rfl ?_; clear hf a; intro a hf
              refine s_m hf rfl ?_; clear hf a; intro a hf
              refine s_v hf (x_indexAddr sl87 (hf.eval rfl) (hf.eval rfl) (by omega) (by omega)) ?_; clear hf a; intro a hf
              refine s_v hf (x_fieldAddrG fo91_1 (hf.eval rfl)) ?_; clear hf a; intro a hf
              refine s_r hf (x_loadF (k := 1) (i := (i : Int)) (f := spF) (l := spL (bodyS l) ns) (u := .int .i64 (((spA (bodyS l) i) + (spN (bodyS l) i) : Nat) : Int)) sc3 (by intro _; rfl) (hs.rd (A := sl 91 2 (.slice (some vs_) (spL (bodyS l) ns).length vc_) (spL (bodyS l) ns).length ((spL (bodyS l) ns).flatMap spF)) (by first | exact .here _ | exact .there _ (.here _) | exact .there _ (.there _ (.here _)) | exact .there _ (.there _ (.there _ (.here _))) | exact .there _ (.there _ (.there _ (.there _ (.here _)))) | exact .there _ (.there _ (.there _ (.there _ (.there _ (.here _))))) | exact .there _ (.there _ (.there _ (.there _ (.there _ (.there _ (.here _)))))) | exact .there _ (.there _ (.there _ (.there _ (.there _ (.there _ (.there _ (.here _))))))) | exact .there _ (.there _ (.there _ (.there _ (.there _ (.there _ (.there _ (.there _ (.here _)))))))) | exact .there _ (.there _ (.there _ (.there _ (.there _ (.there _ (.there _ (.there _ (.there _ (.here _)))))))))) fun h hh => sl_rd hh) (hf.eval rfl) (by rw [Int.toNat_natCast]; exact hq1) (by show (spF (spL (bodyS l) ns)[i])[1]? = _; rw [hq2]; rfl)) ?_; clear hf a; intro a hf
              refine s_v hf (x_bin (hf.eval rfl) (hf.eval rfl) (r_lt _ _ _ _)) ?_; clear hf a; intro a hf
              refine s_nil ?_
              refine then_n ?_
              refine c_cond hf rfl (fun hi6 => ?_) (fun hi6 => ?_)
              · first | simp only [decide_eq_true_eq, decide_eq_false_iff_not, Bool.not_eq_true', Bool.not_eq_false'] at hi6 | skip
                have hjl : j < (spN (bodyS l) i) := by omega
                obtain ⟨hd1, hd2, hd3⟩ := data_at (body := bodyS l) (i := 8 * ns + (totB (sdS l).2.2.1 (bodyS l) i)) (n := (spN (bodyS l) i)) (j := j) (by omega) hjl
                refine wp_skip ?_
                refine then_n ?_
                refine wp_seq ?_
                refine wp_block ?_
                refine wp_seq ?_
                refine wp_region_lit ?_
                refine s_m hf rfl ?_; clear hf a; intro a hf
                refine s_m hf rfl ?_; clear hf a; intro a hf
                refine s_m hf rfl ?_; clear hf a; intro a hf
                replace hf := hf.now (k := 125) (v' := .slice (some ba) (bodyS l).length (c1 - (upZ (max (sdS l).2.2.1 (sdS l).2.2.2.1)).toNat)) rfl (by rw [hba])
                refine s_m hf rfl ?_; clear hf a; intro a hf
                refine s_v hf (x_indexAddr sl25 (hf.eval rfl) (hf.eval rfl) (by omega) (by omega)) ?_; clear hf a; intro a hf
                refine s_r hf (x_loadB (i := ((8 * ns + (totB (sdS l).2.2.1 (bodyS l) i) + j : Nat) : Int)) sc5 (hs.oldB hbr2) (hf.eval rfl) (by rw [Int.toNat_natCast]; exact hd2)) ?_; clear hf a; intro a hf
                replace hf := hf.now (k := 128) (v' := u8v ((((bodyS l).drop (8 * ns + totB (sdS l).2.2.1 (bodyS l) i)).take (spN (bodyS l) i))[j]'hd1)) rfl (congrArg u8v (hd3 hd1).symm)
                refine s_v hf (x_indexAddr sl25 (hf.eval rfl) (hf.eval rfl) (by omega) (by omega)) ?_; clear hf a; intro a hf
                refine s_do0 hf rfl (y_storeSl (i := (spA (bodyS l) i) + j) hs sc5 (hf.eval rfl) (hf.eval rfl) rfl (.here _) (by omega) ?_); clear hf hs a; intro w hs a hf
                rw [← List.map_set, putP_step (by rw [hpl]; omega) hd1] at hs
                refine s_nil ?_
                refine then_n ?_
                refine wp_region_lit ?_
                refine s_m hf rfl ?_; clear hf a; intro a hf
                refine s_v hf (x_bin (hf.eval rfl) (hf.eval rfl) (r_addi _ (by omega) (by omega))) ?_; clear hf a; intro a hf
                replace hf := hf.now (k := 131) (v' := .int .i64 ((8 * ns + (totB (sdS l).2.2.1 (bodyS l) i) + (j + 1) : Nat) : Int)) rfl (int_succ _ _)
                refine s_a hf rfl ?_; clear hf a; intro a hf
                refine s_nil ?_
                refine blk_n ?_
                refine then_n ?_
                refine wp_region_lit ?_
                refine s_m hf rfl ?_; clear hf a; intro a hf
                refine s_v hf (x_bin (hf.eval rfl) (hf.eval rfl) (r_addi _ (by omega) (by omega))) ?_; clear hf a; intro a hf
                replace hf := hf.now (k := 122) (v' := .int .i64 (((spA (bodyS l) i) + (j + 1) : Nat) : Int)) rfl (int_succ _ _)
                refine s_a hf rfl ?_; clear hf a; intro a hf
                refine s_nil ?_
                exact ⟨_, _, ⟨j + 1, rfl, rfl, by omega, hs⟩, by omega, hf.sub ⟨rfl, rfl, rfl, rfl, rfl, rfl, rfl, rfl, rfl, rfl, rfl, rfl, rfl, rfl, rfl, rfl, rfl, rfl, trivial⟩⟩
              · first | simp only [decide_eq_true_eq, decide_eq_false_iff_not, Bool.not_eq_true', Bool.not_eq_false'] at hi6 | skip
                obtain rfl : j = (spN (bodyS l) i) := by omega
                rw [show (((bodyS l).drop (8 * ns + totB (sdS l).2.2.1 (bodyS l) i)).take (spN (bodyS l) i)).take (spN (bodyS l) i) = (((bodyS l).drop (8 * ns + totB (sdS l).2.2.1 (bodyS l) i)).take (spN (bodyS l) i)) from List.take_of_length_le (by rw [List.length_take]; omega)] at hs
                have hsn : putPs (l.take (sdS l).2.2.1.toNat) (bkL (sdS l) (bodyS l) (i + 1)) = putP (putPs (l.take (sdS l).2.2.1.toNat) (bkL (sdS l) (bodyS l) i)) ((spA (bodyS l) i), (((bodyS l).drop (8 * ns + totB (sdS l).2.2.1 (bodyS l) i)).take (spN (bodyS l) i))) := by rw [bkL_succ, putPs_snoc, hNt]
                rw [← hsn] at hs
                replace hf := hf.now (k := 14) (v' := .int .i64 ((8 * ns + totB (sdS l).2.2.1 (bodyS l) (i + 1) : Nat) : Int)) rfl (by rw [hb4, Nat.add_assoc])
                refine wp_exit ?_
                refine then_x ?_
                refine then_x ?_
                refine blk_x ?_
                refine blk_n ?_
                refine then_n ?_
                refine wp_region_lit ?_
                refine s_m hf rfl ?_; clear hf a; intro a hf
                refine s_v hf (x_bin (hf.eval rfl) (hf.eval rfl) (r_addi _ (by omega) (by omega))) ?_; clear hf a; intro a hf
                refine s_a hf rfl ?_; clear hf a; intro a hf
                refine s_nil ?_
                exact ⟨_, _, ⟨i + 1, rfl, rfl, by omega, hs⟩, by omega, hf.sub ⟨rfl, rfl, rfl, rfl, rfl, rfl, rfl, rfl, trivial⟩⟩
            · simp only [decide_eq_true_eq, decide_eq_false_iff_not, Bool.not_eq_true', Bool.not_eq_false', Bool.not_eq_true, Int.not_lt, Int.not_le] at hi5
              obtain rfl : i = ns := by omega
              refine wp_exit ?_
              refine then_x ?_
              refine then_x ?_
              refine blk_x ?_
              refine then_n ?_
              refine wp_seq ?_
              refine wp_region_lit ?_
              refine s_v hf (x_fieldAddr fo24_1 (hf.eval rfl)) ?_; clear hf a; intro a hf
              refine s_r hf (x_load sc3 (hf.eval rfl) (by first | exact hs.cell (.here _) rfl | exact hs.cell (.there _ (.here _)) rfl | exact hs.cell (.there _ (.there _ (.here _))) rfl | exact hs.cell (.there _ (.there _ (.there _ (.here _)))) rfl | exact hs.cell (.there _ (.there _ (.there _ (.there _ (.here _))))) rfl | exact hs.cell (.there _ (.there _ (.there _ (.there _ (.there _ (.here _)))))) rfl | exact hs.cell (.there _ (.there _ (.there _ (.there _ (.there _ (.there _ (.here _))))))) rfl | exact hs.cell (.there _ (.there _ (.there _ (.there _ (.there _ (.there _ (.there _ (.here _)))))))) rfl | exact hs.cell (.there _ (.there _ (.there _ (.there _ (.there _ (.there _ (.there _ (.there _ (.here _))))))))) rfl | exact hs.cell (.there _ (.there _ (.there _ (.there _ (.there _ (.there _ (.there _ (.there _ (.there _ (.here _)))))))))) rfl)) ?_; clear hf a; intro a hf
              refine s_v hf (x_fieldAddr fo24_2 (hf.eval rfl)) ?_; clear hf a; intro a hf
              refine s_r hf (x_load sc3 (hf.eval rfl) (by first | exact hs.cell (.here _) rfl | exact hs.cell (.there _ (.here _)) rfl | exact hs.cell (.there _ (.there _ (.here _))) rfl | exact hs.cell (.there _ (.there _ (.there _ (.here _)))) rfl | exact hs.cell (.there _ (.there _ (.there _ (.there _ (.here _))))) rfl | exact hs.cell (.there _ (.there _ (.there _ (.there _ (.there _ (.here _)))))) rfl | exact hs.cell (.there _ (.there _ (.there _ (.there _ (.there _ (.there _ (.here _))))))) rfl | exact hs.cell (.there _ (.there _ (.there _ (.there _ (.there _ (.there _ (.there _ (.here _)))))))) rfl | exact hs.cell (.there _ (.there _ (.there _ (.there _ (.there _ (.there _ (.there _ (.there _ (.here _))))))))) rfl | exact hs.cell (.there _ (.there _ (.there _ (.there _ (.there _ (.there _ (.there _ (.there _ (.there _ (.here _)))))))))) rfl)) ?_; clear hf a; intro a hf
              refine s_r hf (x_build (v := .agg (vdF (3, (sdS l).2.1, (sdS l).2.2.1)).toArray) (hf.parts rfl) (fun w => by kernel_rfl) _) ?_; clear hf a; intro a hf
              refine s_m hf rfl ?_; clear hf a; intro a hf
              replace hs := hs.take (A := cb b2 45 (vdF (0, 0, 0))) (by first | exact .here _ | exact .there _ (.here _) | exact .there _ (.there _ (.here _)) | exact .there _ (.there _ (.there _ (.here _))) | exact .there _ (.there _ (.there _ (.there _ (.here _)))) | exact .there _ (.there _ (.there _ (.there _ (.there _ (.here _))))) | exact .there _ (.there _ (.there _ (.there _ (.there _ (.there _ (.here _)))))) | exact .there _ (.there _ (.there _ (.there _ (.there _ (.there _ (.there _ (.here _))))))) | exact .there _ (.there _ (.there _ (.there _ (.there _ (.there _ (.there _ (.there _ (.here _)))))))) | exact .there _ (.there _ (.there _ (.there _ (.there _ (.there _ (.there _ (.there _ (.there _ (.here _))))))))) | exact .there _ (.there _ (.there _ (.there _ (.there _ (.there _ (.there _ (.there _ (.there _ (.there _ (.here _)))))))))) | exact .there _ (.there _ (.there _ (.there _ (.there _ (.there _ (.there _ (.there _ (.there _ (.there _ (.there _ (.here _))))))))))))
              refine s_do0 hf rfl (y_storeAgg (cs := vdF (3, (sdS l).2.1, (sdS l).2.2.1)) hs (n := 3) (by kernel_rfl) (hf.eval rfl) (hf.eval rfl) (by simp [Value.oneCell', vdF]) rfl rfl (.here _) ?_); clear hf hs a; intro w hs a hf
              refine s_a hf rfl ?_; clear hf a; intro a hf
              refine s_nil ?_
              refine then_n ?_
              refine wp_ret ?_
              refine r_2c hf Tryd.results21 rfl rfl hs ag45 rfl (by first | exact .here _ | exact .there _ (.here _) | exact .there _ (.there _ (.here _)) | exact .there _ (.there _ (.there _ (.here _))) | exact .there _ (.there _ (.there _ (.there _ (.here _)))) | exact .there _ (.there _ (.there _ (.there _ (.there _ (.here _))))) | exact .there _ (.there _ (.there _ (.there _ (.there _ (.there _ (.here _)))))) | exact .there _ (.there _ (.there _ (.there _ (.there _ (.there _ (.there _ (.here _))))))) | exact .there _ (.there _ (.there _ (.there _ (.there _ (.there _ (.there _ (.there _ (.here _)))))))) | exact .there _ (.there _ (.there _ (.there _ (.there _ (.there _ (.there _ (.there _ (.there _ (.here _)))))))))) ?_
              have hv : lkV l = ((3, (sdS l).2.1, (sdS l).2.2.1), lkB l) := by unfold lkV; rw [if_neg (show ¬ 1024 ≤ zt l by omega), if_neg (by rw [hi1]; simp), if_neg hi2, if_neg hi3, if_neg (by rw [hi4]; simp)]
              rw [hv]
              have hlk : (lkB l).length = (sdS l).2.2.1.toNat := by unfold lkB; rw [putPs_len, tkl (by omega)]
              have hlc : putPs (l.take (sdS l).2.2.1.toNat) (bkL (sdS l) (bodyS l) i) = lkB l := by unfold lkB; rw [hNt]
              rw [hlc] at hs
              replace hs := hs.take (A := sl 5 1 (.slice g7 (sdS l).2.2.1.toNat cg7) (sdS l).2.2.1.toNat ((lkB l).map u8v)) (by first | exact .here _ | exact .there _ (.here _) | exact .there _ (.there _ (.here _)) | exact .there _ (.there _ (.there _ (.here _))) | exact .there _ (.there _ (.there _ (.there _ (.here _)))) | exact .there _ (.there _ (.there _ (.there _ (.there _ (.here _))))) | exact .there _ (.there _ (.there _ (.there _ (.there _ (.there _ (.here _)))))) | exact .there _ (.there _ (.there _ (.there _ (.there _ (.there _ (.there _ (.here _))))))) | exact .there _ (.there _ (.there _ (.there _ (.there _ (.there _ (.there _ (.there _ (.here _)))))))) | exact .there _ (.there _ (.there _ (.there _ (.there _ (.there _ (.there _ (.there _ (.there _ (.here _))))))))) | exact .there _ (.there _ (.there _ (.there _ (.there _ (.there _ (.there _ (.there _ (.there _ (.there _ (.here _)))))))))) | exact .there _ (.there _ (.there _ (.there _ (.there _ (.there _ (.there _ (.there _ (.there _ (.there _ (.there _ (.here _))))))))))))
              refine ⟨g7, cg7, by rw [hlk], ?_⟩
              unfold slB
              rw [hlk]
              exact St.keep [_] _ hs

end Go.Proofs.YtehakfbfjpolfaaDoor
