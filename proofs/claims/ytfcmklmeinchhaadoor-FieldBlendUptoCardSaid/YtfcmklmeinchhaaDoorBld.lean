/- The statement FieldBlend. -/
import Derived.Test.YtfcmklmeinchhaaDoorVE
import Derived.Test.YtfcmklmeinchhaaDoorFds
import Derived.Test.YtfcmklmeinchhaaDoorProg
import Derived.Test.YtfcmklmeinchhaaDoorFacts
set_option maxRecDepth 100000
set_option linter.all false
namespace Go.Proofs.YtfcmklmeinchhaaDoor
open Go Vw
theorem fieldBlend_spec (w0 : World) (hT : Tab 0 (hp w0)) (a1 : Option Addr) (c1 : Nat) (l1 : List UInt8) (hr1 : RdB (hp w0) (.slice a1 l1.length c1) l1) (hl1 : l1.length ≤ 140737488351232) (a2 : Option Addr) (c2 : Nat) (l2 : List UInt8) (hr2 : RdB (hp w0) (.slice a2 l2.length c2) l2) (hl2 : l2.length ≤ 140737488351232) : Calls Tryd.prog 6 #[.slice a1 l1.length c1, .slice a2 l2.length c2] w0 fun e w' => e = .returned (.bool true) ∧ Kept w0 w' None_ := by
  have hs := St.start w0 None_
  refine c_enter (N := 69) Tryd.func6 rfl Tryd.ntmps6 (by simp) ?_
  intro a hf
  refine wp_seq ?_
  refine wp_region_lit ?_
  refine s_a hf rfl ?_; clear hf a; intro a hf
  refine s_nil ?_
  refine then_n ?_
  refine wp_seq ?_
  refine wp_region_lit ?_
  refine s_m hf rfl ?_; clear hf a; intro a hf
  refine s_v hf (x_len Tryd.underlying23 (hf.eval rfl)) ?_; clear hf a; intro a hf
  refine s_m hf rfl ?_; clear hf a; intro a hf
  refine s_v hf (x_len Tryd.underlying23 (hf.eval rfl)) ?_; clear hf a; intro a hf
  refine s_v hf (x_minI (hf.eval rfl) (hf.eval rfl)) ?_; clear hf a; intro a hf
  replace hf := hf.now (k := 20) (v' := .int .i64 ((min l1.length l2.length : Nat) : Int)) rfl (by congr 1; omega)
  refine s_a hf rfl ?_; clear hf a; intro a hf
  refine s_nil ?_
  refine then_n ?_
  refine wp_seq ?_
  refine wp_region_lit ?_
  refine s_m hf rfl ?_; clear hf a; intro a hf
  refine s_m hf rfl ?_; clear hf a; intro a hf
  have hcap := hr1.cap
  refine s_v hf (x_slice_hi sl23 (hf.eval rfl) (hf.eval rfl)  (by omega) (by omega)) ?_; clear hf a; intro a hf
  replace hf := hf.now (k := 23) (v' := .slice a1 (l1.take (min l1.length l2.length)).length c1) rfl (by congr 1; simp)
  have hq1 : RdB (hp w0) (.slice a1 (l1.take (min l1.length l2.length)).length c1) (l1.take (min l1.length l2.length)) := by
    have h0 := RdB.sub (i := 0) (j := min l1.length l2.length) (hs.oldB hr1) rfl (by omega) (by omega)
    have e : subA a1 c1 0 1 = a1 := by unfold subA; split <;> simp [Addr.add]
    rw [e] at h0
    have e2 : (l1.take (min l1.length l2.length)).length = min l1.length l2.length := by simp
    rw [e2]; simpa using h0
  refine s_do hf rfl (y_call (hf.eval rfl) (hf.evals rfl) Tryd.call18 ((copied_spec _ _ _ _ hq1 (by simp; omega)).mono ?_))
  rintro e w1 ⟨e1, f1, rfl, hj⟩
  replace hs := hs.join hj
  simp only [List.cons_append, List.nil_append] at hs
  refine ⟨_, rfl, ?_⟩; clear hf a; intro a hf
  refine s_a hf rfl ?_; clear hf a; intro a hf
  refine s_nil ?_
  refine then_n ?_
  refine wp_seq ?_
  refine wp_region_lit ?_
  refine s_m hf rfl ?_; clear hf a; intro a hf
  refine s_m hf rfl ?_; clear hf a; intro a hf
  have hcap := hr2.cap
  refine s_v hf (x_slice_hi sl23 (hf.eval rfl) (hf.eval rfl)  (by omega) (by omega)) ?_; clear hf a; intro a hf
  replace hf := hf.now (k := 27) (v' := .slice a2 (l2.take (min l1.length l2.length)).length c2) rfl (by congr 1; simp)
  have hq2 : RdB (hp w1) (.slice a2 (l2.take (min l1.length l2.length)).length c2) (l2.take (min l1.length l2.length)) := by
    have h0 := RdB.sub (i := 0) (j := min l1.length l2.length) (hs.oldB hr2) rfl (by omega) (by omega)
    have e : subA a2 c2 0 1 = a2 := by unfold subA; split <;> simp [Addr.add]
    rw [e] at h0
    have e2 : (l2.take (min l1.length l2.length)).length = min l1.length l2.length := by simp
    rw [e2]; simpa using h0
  refine s_do hf rfl (y_call (hf.eval rfl) (hf.evals rfl) Tryd.call18 ((copied_spec _ _ _ _ hq2 (by simp; omega)).mono ?_))
  rintro e w1 ⟨e2, f2, rfl, hj⟩
  replace hs := hs.join hj
  simp only [List.cons_append, List.nil_append] at hs
  generalize hX : l1.take (min l1.length l2.length) = X at hs
  generalize hY : l2.take (min l1.length l2.length) = Y at hs
  refine ⟨_, rfl, ?_⟩; clear hf a; intro a hf
  have hXn : X.length = min l1.length l2.length := by rw [← hX]; simp
  have hYn : Y.length = min l1.length l2.length := by rw [← hY]; simp
  try simp only [hX, hY] at hf
  clear hq1 hq2 hX hY
  generalize hn : min l1.length l2.length = n at hXn hYn hf
  have hnl : n ≤ 140737488351232 := by omega
  refine s_a hf rfl ?_; clear hf a; intro a hf
  refine s_nil ?_
  refine then_n ?_
  refine wp_seq ?_
  refine wp_region_lit ?_
  refine s_m hf rfl ?_; clear hf a; intro a hf
  refine s_do hf rfl (y_makeB (m := n) (c := n) hs sl23 (hf.eval rfl) (hf.eval rfl) rfl rfl (Nat.le_refl _) (by omega) ?_); clear hf hs a; intro b8 w hs a hf
  refine s_a hf rfl ?_; clear hf a; intro a hf
  refine s_nil ?_
  refine then_n ?_
  refine wp_seq ?_
  refine wp_region_lit ?_
  refine s_m hf rfl ?_; clear hf a; intro a hf
  refine s_do hf rfl (y_makeB (m := n) (c := n) hs sl23 (hf.eval rfl) (hf.eval rfl) rfl rfl (Nat.le_refl _) (by omega) ?_); clear hf hs a; intro b9 w hs a hf
  replace hs := hs.take (A := bb b8 5 (List.replicate n 0)) (by first | exact .here _ | exact .there _ (.here _) | exact .there _ (.there _ (.here _)) | exact .there _ (.there _ (.there _ (.here _))) | exact .there _ (.there _ (.there _ (.there _ (.here _)))) | exact .there _ (.there _ (.there _ (.there _ (.there _ (.here _))))) | exact .there _ (.there _ (.there _ (.there _ (.there _ (.there _ (.here _)))))) | exact .there _ (.there _ (.there _ (.there _ (.there _ (.there _ (.there _ (.here _))))))))
  refine s_a hf rfl ?_; clear hf a; intro a hf
  refine s_nil ?_
  refine then_n ?_
  refine wp_seq ?_
  refine wp_seq ?_
  refine wp_region_lit ?_
  refine s_a hf rfl ?_; clear hf a; intro a hf
  refine s_nil ?_
  refine then_n ?_
  refine wp_block ?_
  refine c_loop (L0 := [(4, _), (5, _), (6, _), (7, _), (8, _), (9, _)]) (fun M w m => ∃ i : Nat, M = [(10, .int .i64 (i : Int))] ∧ n - i = m ∧ i ≤ n ∧ St ⟨w0, None_⟩ w [bb b8 5 ((List.zipWith (· ^^^ ·) X Y).take i ++ List.replicate (n - i) 0), bb b9 5 (List.replicate n 0), slB 5 (.slice e2 Y.length f2) Y, slB 5 (.slice e1 X.length f1) X]) (M0 := [(10, .int .i64 (0 : Nat))]) (⟨0, rfl, rfl, Nat.zero_le _, by simpa using hs⟩) (hf.sub ⟨rfl, rfl, rfl, rfl, rfl, rfl, rfl, trivial⟩) ?_
  clear hf hs a
  rintro M m a w ⟨i, rfl, rfl, hi, hs⟩ hf
  refine wp_seq ?_
  refine wp_seq ?_
  refine wp_region_lit ?_
  refine s_m hf rfl ?_; clear hf a; intro a hf
  refine s_m hf rfl ?_; clear hf a; intro a hf
  refine s_v hf (x_bin (hf.eval rfl) (hf.eval rfl) (r_lt _ _ _ _)) ?_; clear hf a; intro a hf
  refine s_nil ?_
  refine then_n ?_
  refine c_cond hf rfl (fun hi0 => ?_) (fun hi0 => ?_)
  · simp only [decide_eq_true_eq, decide_eq_false_iff_not, Bool.not_eq_true', Bool.not_eq_false', Bool.not_eq_true, Int.not_lt, Int.not_le] at hi0
    have hlt : i < n := by omega
    have hrX : RdB (hp w) (.slice e1 X.length f1) X := hs.rdB (.there _ (.there _ (.there _ (.here _)))) fun h => slB_rd
    obtain ⟨e1, rfl⟩ := hrX.some (by omega)
    have hrY : RdB (hp w) (.slice e2 Y.length f2) Y := hs.rdB (.there _ (.there _ (.here _))) fun h => slB_rd
    obtain ⟨e2, rfl⟩ := hrY.some (by omega)
    clear hrX hrY
    refine wp_skip ?_
    refine then_n ?_
    refine wp_seq ?_
    refine wp_block ?_
    refine c_draw hs (fun _ => True) [.held, .held, .held, .held, .held, .read, .held, .held, .held, .read, .held, .held, .fin] (by kernel_rfl) (by kernel_rfl) (fun _ _ _ => trivial) ?_
    clear hs; intro w hs hC hw
    have hrX : RdB (hp w) (.slice (some e1) X.length f1) X := hs.rdB (.there _ (.there _ (.there _ (.here _)))) fun h => slB_rd
    have hrY : RdB (hp w) (.slice (some e2) Y.length f2) Y := hs.rdB (.there _ (.there _ (.here _))) fun h => slB_rd
    refine m_held hf rfl (fun w' _ => x_move (hf.eval rfl) w') ?_; clear hf a; intro a hf
    refine m_held hf rfl (fun w' _ => x_move (hf.eval rfl) w') ?_; clear hf a; intro a hf
    refine m_held hf rfl (fun w' _ => x_move (hf.eval rfl) w') ?_; clear hf a; intro a hf
    refine m_held hf rfl (fun w' _ => x_move (hf.eval rfl) w') ?_; clear hf a; intro a hf
    refine m_held hf rfl (fun w' _ => x_indexAddr sl23 (hf.eval rfl) (hf.eval rfl) (by omega) (by omega) w') ?_; clear hf a; intro a hf
    refine m_read hf rfl (x_loadB sc5 hrX (hf.eval rfl) (by omega)) ?_; clear hf a; intro a hf
    replace hf := hf.now (k := 43) (v' := u8v X[i]) rfl (rfl)
    refine m_held hf rfl (fun w' _ => x_move (hf.eval rfl) w') ?_; clear hf a; intro a hf
    refine m_held hf rfl (fun w' _ => x_move (hf.eval rfl) w') ?_; clear hf a; intro a hf
    refine m_held hf rfl (fun w' _ => x_indexAddr sl23 (hf.eval rfl) (hf.eval rfl) (by omega) (by omega) w') ?_; clear hf a; intro a hf
    refine m_read hf rfl (x_loadB sc5 hrY (hf.eval rfl) (by omega)) ?_; clear hf a; intro a hf
    replace hf := hf.now (k := 47) (v' := u8v Y[i]) rfl (rfl)
    refine m_held hf rfl (fun w' _ => x_bin (hf.eval rfl) (hf.eval rfl) (r_xor_u8 _ _ _) w') ?_; clear hf a; intro a hf
    refine m_held hf rfl (fun w' _ => x_indexAddr sl23 (hf.eval rfl) (hf.eval rfl) (by omega) (by omega) w') ?_; clear hf a; intro a hf
    replace hf := hf.now (k := 49) (v' := .pointer (some ⟨b8, i, none⟩)) rfl (by rw [addr0])
    refine m_fin0 hf rfl (y_storeB (u := X[i] ^^^ Y[i]) hs sc5 (hf.eval rfl) (hf.eval rfl) rfl (.here _) (by simp; omega) ?_); clear hf hs a; intro w hs; intro a hf
    refine blk_n ?_
    refine then_n ?_
    refine wp_region_lit ?_
    refine s_m hf rfl ?_; clear hf a; intro a hf
    refine s_v hf (x_bin (hf.eval rfl) (hf.eval rfl) (r_addi _ (by omega) (by omega))) ?_; clear hf a; intro a hf
    refine s_a hf rfl ?_; clear hf a; intro a hf
    refine s_nil ?_
    have hzn : (List.zipWith (· ^^^ ·) X Y).length = n := by simp; omega
    have hse := set_fill (List.zipWith (· ^^^ ·) X Y) hzn hlt
    rw [List.getElem_zipWith] at hse
    rw [hse] at hs
    exact ⟨_, _, ⟨i + 1, rfl, rfl, by omega, hs⟩, by omega, hf.sub ⟨rfl, rfl, rfl, rfl, rfl, rfl, rfl, trivial⟩⟩
  · simp only [decide_eq_true_eq, decide_eq_false_iff_not, Bool.not_eq_true', Bool.not_eq_false', Bool.not_eq_true, Int.not_lt, Int.not_le] at hi0
    refine wp_exit ?_
    refine then_x ?_
    refine then_x ?_
    refine blk_x ?_
    refine then_n ?_
    refine wp_seq ?_
    refine wp_region_lit ?_
    refine s_m hf rfl ?_; clear hf a; intro a hf
    obtain rfl : i = n := by omega
    have hzn : (List.zipWith (· ^^^ ·) X Y).length = i := by simp; omega
    have hz2 : (List.zipWith (· ^^^ ·) X Y).take i ++ List.replicate (i - i) 0 = List.zipWith (· ^^^ ·) X Y := by rw [Nat.sub_self, List.take_of_length_le (by omega)]; simp
    rw [hz2] at hs
    have hz3 : (List.replicate i 0 : List UInt8) = List.replicate X.length 0 := by rw [hXn]
    rw [hz3] at hs
    refine s_do hf rfl (y_call (hf.eval rfl) (hf.evals rfl) Tryd.call13 ((sum_spec _ (hT.kept hs.kept) _ _ (X) (hs.rdB (.there _ (.there _ (.there _ (.here _)))) fun h hb => slB_rd hb) (by first | omega | (simp; omega))).mono ?_))
    rintro e w1 ⟨rfl, hk⟩
    replace hs := hs.ext hk
    refine ⟨_, rfl, ?_⟩; clear hf a; intro a hf
    refine s_a hf rfl ?_; clear hf a; intro a hf
    refine s_nil ?_
    refine then_n ?_
    refine wp_seq ?_
    refine wp_region_lit ?_
    refine s_m hf rfl ?_; clear hf a; intro a hf
    refine s_do hf rfl (y_call (hf.eval rfl) (hf.evals rfl) Tryd.call13 ((sum_spec _ (hT.kept hs.kept) _ _ (Y) (hs.rdB (.there _ (.there _ (.here _))) fun h hb => slB_rd hb) (by first | omega | (simp; omega))).mono ?_))
    rintro e w1 ⟨rfl, hk⟩
    replace hs := hs.ext hk
    refine ⟨_, rfl, ?_⟩; clear hf a; intro a hf
    refine s_a hf rfl ?_; clear hf a; intro a hf
    refine s_nil ?_
    refine then_n ?_
    refine wp_seq ?_
    refine wp_region_lit ?_
    refine s_m hf rfl ?_; clear hf a; intro a hf
    replace hf := hf.now (k := 54) (v' := .slice (some ⟨b8, 0, none⟩) (List.zipWith (· ^^^ ·) X Y).length i) rfl (by rw [hzn])
    refine s_do hf rfl (y_call (hf.eval rfl) (hf.evals rfl) Tryd.call13 ((sum_spec _ (hT.kept hs.kept) _ _ (List.zipWith (· ^^^ ·) X Y) (hs.rdB (.here _) fun h hb => (by have hq0 := rdB_of_bb (T := 5) (l := List.zipWith (· ^^^ ·) X Y) hb (n := (List.zipWith (· ^^^ ·) X Y : List UInt8).length) (c := i) (Nat.le_refl _) (by simp; omega); rwa [List.take_length] at hq0)) (by first | omega | (simp; omega))).mono ?_))
    rintro e w1 ⟨rfl, hk⟩
    replace hs := hs.ext hk
    refine ⟨_, rfl, ?_⟩; clear hf a; intro a hf
    refine s_a hf rfl ?_; clear hf a; intro a hf
    refine s_nil ?_
    refine then_n ?_
    refine wp_seq ?_
    refine wp_region_lit ?_
    refine s_m hf rfl ?_; clear hf a; intro a hf
    replace hf := hf.now (k := 56) (v' := .slice (some ⟨b9, 0, none⟩) (List.replicate X.length 0 : List UInt8).length i) rfl (by congr 1; simp; omega)
    refine s_do hf rfl (y_call (hf.eval rfl) (hf.evals rfl) Tryd.call13 ((sum_spec _ (hT.kept hs.kept) _ _ (List.replicate X.length 0) (hs.rdB (.there _ (.here _)) fun h hb => (by have hq0 := rdB_of_bb (T := 5) (l := List.replicate X.length 0) hb (n := (List.replicate X.length 0 : List UInt8).length) (c := i) (Nat.le_refl _) (by simp; omega); rwa [List.take_length] at hq0)) (by first | omega | (simp; omega))).mono ?_))
    rintro e w1 ⟨rfl, hk⟩
    replace hs := hs.ext hk
    refine ⟨_, rfl, ?_⟩; clear hf a; intro a hf
    refine s_a hf rfl ?_; clear hf a; intro a hf
    refine s_nil ?_
    refine then_n ?_
    refine wp_seq ?_
    refine wp_region_lit ?_
    refine s_do hf rfl (y_call (hf.eval rfl) (hf.evals rfl) Tryd.call16 ((begun_spec _ (hT.kept hs.kept)).mono ?_))
    rintro e w1 ⟨rfl, hk⟩
    replace hs := hs.ext hk
    refine ⟨_, rfl, ?_⟩; clear hf a; intro a hf
    refine s_a hf rfl ?_; clear hf a; intro a hf
    refine s_nil ?_
    refine then_n ?_
    refine wp_seq ?_
    refine wp_region_lit ?_
    refine s_m hf rfl ?_; clear hf a; intro a hf
    refine s_m hf rfl ?_; clear hf a; intro a hf
    replace hf := hf.now (k := 60) (v' := .bool true) rfl (congrArg Value.bool rfl)
    refine s_do hf (wanted_of hf rfl rfl rfl) (.value (x_move (hf.eval rfl) _) ?_); clear hf a; intro a hf
    refine s_do hf (wanted_of hf rfl rfl rfl) (.value (x_move (hf.eval rfl) _) ?_); clear hf a; intro a hf
    refine s_do hf (wanted_of hf rfl rfl rfl) (.value (x_bin (hf.eval rfl) (hf.eval rfl) (r_xor_u32 _ (crcU_lt (by decide) _) (crcU_lt (by decide) _)) _) ?_); clear hf a; intro a hf
    refine s_do hf (wanted_of hf rfl rfl rfl) (.value (x_move (hf.eval rfl) _) ?_); clear hf a; intro a hf
    refine s_do hf (wanted_of hf rfl rfl rfl) (.value (x_bin (hf.eval rfl) (hf.eval rfl) (r_xor_u32 _ (Nat.xor_lt_two_pow (n := 32) (crcU_lt (by decide) _) (crcU_lt (by decide) _)) (crcU_lt (by decide) _)) _) ?_); clear hf a; intro a hf
    refine s_do hf (wanted_of hf rfl rfl rfl) (.value (x_move (hf.eval rfl) _) ?_); clear hf a; intro a hf
    refine s_do hf (wanted_of hf rfl rfl rfl) (.value (x_bin (hf.eval rfl) (hf.eval rfl) (r_eq _ _ _ _) _) ?_); clear hf a; intro a hf
    refine s_v hf (x_pick_t (hf.eval rfl) (hf.eval rfl)) ?_; clear hf a; intro a hf
    refine s_a hf rfl ?_; clear hf a; intro a hf
    refine s_nil ?_
    refine then_n ?_
    refine wp_ret ?_
    refine r_1 hf Tryd.results6 rfl ?_
    have hbl := crc_blend X Y (by omega)
    exact ⟨by rw [hbl]; simp, hs.kept⟩

end Go.Proofs.YtfcmklmeinchhaaDoor
