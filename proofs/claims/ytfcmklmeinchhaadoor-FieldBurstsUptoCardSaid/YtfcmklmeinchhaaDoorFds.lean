/- The statements on the sum: FieldUpdates, FieldSums, FieldBlend. -/
import Derived.Test.YtfcmklmeinchhaaDoorVE
import Derived.Test.YtfcmklmeinchhaaDoorHlp
import Derived.Test.YtfcmklmeinchhaaDoorSum
import Derived.Test.YtfcmklmeinchhaaDoorProg
import Derived.Test.YtfcmklmeinchhaaDoorFacts
set_option maxRecDepth 100000
set_option linter.all false
namespace Go.Proofs.YtfcmklmeinchhaaDoor
open Go Vw
theorem fieldUpdates_spec (w0 : World) (hT : Tab 0 (hp w0)) (sum : Nat) (hsum : sum < 4294967296) (a1 : Option Addr) (c1 : Nat) (data : List UInt8) (hr1 : RdB (hp w0) (.slice a1 data.length c1) data) (hl1 : data.length ≤ 140737488351232) : Calls Tryd.prog 3 #[.int .u32 ((sum : Nat) : Int), .slice a1 data.length c1] w0 fun e w' => e = .returned (.bool true) ∧ Kept w0 w' None_ := by
  have hs := St.start w0 None_
  refine c_enter (N := 29) Tryd.func3 rfl Tryd.ntmps3 (by simp) ?_
  intro a hf
  refine wp_seq ?_
  refine wp_region_lit ?_
  refine s_a hf rfl ?_; clear hf a; intro a hf
  refine s_nil ?_
  refine then_n ?_
  refine wp_seq ?_
  refine wp_region_lit ?_
  refine s_m hf rfl ?_; clear hf a; intro a hf
  refine s_do hf rfl (y_call (hf.eval rfl) (hf.evals rfl) Tryd.call9 ((framed_spec w0 _ _ data hr1 (by omega)).mono ?_))
  rintro e w1 ⟨b, c, rfl, hc, hs⟩
  refine ⟨_, rfl, ?_⟩; clear hf a; intro a hf
  refine s_a hf rfl ?_; clear hf a; intro a hf
  refine s_nil ?_
  refine then_n ?_
  refine wp_seq ?_
  refine wp_region_lit ?_
  refine s_m hf rfl ?_; clear hf a; intro a hf
  refine s_m hf rfl ?_; clear hf a; intro a hf
  refine s_v hf (x_len Tryd.underlying23 (hf.eval rfl)) ?_; clear hf a; intro a hf
  refine s_v hf (x_slice_hi sl23 (hf.eval rfl) (hf.eval rfl)  (by omega) (by omega)) ?_; clear hf a; intro a hf
  replace hf := hf.now (k := 14) (v' := .slice (some ⟨b, 0, none⟩) data.length c) rfl (rfl)
  have hrf : RdB (hp w1) (.slice (some ⟨b, 0, none⟩) data.length c) data := by
    have h0 := RdB.sub (i := 0) (j := data.length) (hs.rdB (.here _) fun h => slB_rd) (by simp) (by omega) (by simp)
    have e : subA (some ⟨b, 0, none⟩) c 0 1 = some ⟨b, 0, none⟩ := by unfold subA; split <;> simp [Addr.add]
    rw [e] at h0; simpa using h0
  refine s_a hf rfl ?_; clear hf a; intro a hf
  refine s_nil ?_
  refine then_n ?_
  refine wp_seq ?_
  refine wp_region_lit ?_
  refine s_m hf rfl ?_; clear hf a; intro a hf
  refine s_m hf rfl ?_; clear hf a; intro a hf
  refine s_do hf rfl (y_call (hf.eval rfl) (hf.evals rfl) Tryd.call10 ((update_spec _ (hT.kept hs.kept) sum hsum _ _ data hrf (by omega)).mono ?_))
  rintro e w1 ⟨rfl, hk⟩
  replace hs := hs.ext hk
  refine ⟨_, rfl, ?_⟩; clear hf a; intro a hf
  refine s_a hf rfl ?_; clear hf a; intro a hf
  refine s_nil ?_
  refine then_n ?_
  refine wp_seq ?_
  refine wp_region_lit ?_
  refine s_m hf rfl ?_; clear hf a; intro a hf
  refine s_m hf rfl ?_; clear hf a; intro a hf
  refine s_do hf rfl (y_call (hf.eval rfl) (hf.evals rfl) Tryd.call11 ((refUpdate_spec _ sum hsum _ _ data (hs.oldB hr1) (by omega)).mono ?_))
  rintro e w1 ⟨rfl, hk⟩
  replace hs := hs.ext hk
  refine ⟨_, rfl, ?_⟩; clear hf a; intro a hf
  refine s_a hf rfl ?_; clear hf a; intro a hf
  refine s_nil ?_
  refine then_n ?_
  refine wp_seq ?_
  refine wp_region_lit ?_
  refine s_m hf rfl ?_; clear hf a; intro a hf
  refine s_m hf rfl ?_; clear hf a; intro a hf
  refine s_v hf (x_bin (hf.eval rfl) (hf.eval rfl) (r_eq _ _ _ _)) ?_; clear hf a; intro a hf
  refine s_m hf rfl ?_; clear hf a; intro a hf
  replace hf := hf.now (k := 24) (v' := .bool true) rfl (congrArg Value.bool (by simp))
  refine s_do hf (wanted_of hf rfl rfl rfl) (.value (x_move (hf.eval rfl) _) ?_); clear hf a; intro a hf
  refine s_do hf (wanted_of hf rfl rfl rfl) (.value (x_move (hf.eval rfl) _) ?_); clear hf a; intro a hf
  refine s_do hf (wanted_of hf rfl rfl rfl) (y_call (hf.eval rfl) (hf.evals rfl) Tryd.call12 ((whole_spec _ _ _ _ _ _ data (hs.oldB hr1) rfl (hs.rdB (.here _) fun h => slB_rd) (by omega)).mono ?_))
  rintro e w1 ⟨rfl, hk⟩
  replace hs := hs.ext hk
  refine ⟨_, rfl, ?_⟩; clear hf a; intro a hf
  refine s_v hf (x_pick_t (hf.eval rfl) (hf.eval rfl)) ?_; clear hf a; intro a hf
  refine s_a hf rfl ?_; clear hf a; intro a hf
  refine s_nil ?_
  refine then_n ?_
  refine wp_ret ?_
  refine r_1 hf Tryd.results3 rfl ?_
  exact ⟨by simp, hs.kept⟩

theorem begun_spec (w0 : World) (hT : Tab 0 (hp w0)) : Calls Tryd.prog 16 #[] w0 fun e w' => e = .returned (.bool true) ∧ Kept w0 w' None_ := by
  have hs := St.start w0 None_
  refine c_enter (N := 8) Tryd.func16 rfl Tryd.ntmps16 (by simp) ?_
  intro a hf
  refine wp_seq ?_
  refine wp_region_lit ?_
  refine s_a hf rfl ?_; clear hf a; intro a hf
  refine s_nil ?_
  refine then_n ?_
  refine wp_seq ?_
  refine wp_region_lit ?_
  refine s_do hf rfl (y_lit (xs := [.const (.int .u8 49), .const (.int .u8 50), .const (.int .u8 51), .const (.int .u8 52), .const (.int .u8 53), .const (.int .u8 54), .const (.int .u8 55), .const (.int .u8 56), .const (.int .u8 57)]) hs sl23 (hf.evals rfl) rfl (by simp [Value.cells]) (by decide) ?_); clear hf hs a; intro b w hs a hf
  refine s_a hf rfl ?_; clear hf a; intro a hf
  refine s_nil ?_
  refine then_n ?_
  refine wp_seq ?_
  refine wp_region_lit ?_
  refine s_m hf rfl ?_; clear hf a; intro a hf
  refine s_do hf rfl (y_call (hf.eval rfl) (hf.evals rfl) Tryd.call13 ((sum_spec _ (hT.kept hs.kept) _ _ [49, 50, 51, 52, 53, 54, 55, 56, 57] (hs.rdB (.here _) fun h hb => rdB_of_bb (T := 5) (l := [49, 50, 51, 52, 53, 54, 55, 56, 57]) hb (by simp) (by simp)) (by simp)).mono ?_))
  rintro e w1 ⟨rfl, hk⟩
  replace hs := hs.ext hk
  refine ⟨_, rfl, ?_⟩; clear hf a; intro a hf
  refine s_a hf rfl ?_; clear hf a; intro a hf
  refine s_nil ?_
  refine then_n ?_
  refine wp_seq ?_
  refine wp_region_lit ?_
  refine s_m hf rfl ?_; clear hf a; intro a hf
  refine s_v hf (x_bin (hf.eval rfl) (hf.eval rfl) (r_eq _ _ _ _)) ?_; clear hf a; intro a hf
  refine s_a hf rfl ?_; clear hf a; intro a hf
  refine s_nil ?_
  refine then_n ?_
  refine wp_ret ?_
  refine r_1 hf Tryd.results16 rfl ?_
  have hd : crcU 0 [49, 50, 51, 52, 53, 54, 55, 56, 57] = 3421780262 := by decide +kernel
  exact ⟨by rw [hd]; simp, hs.kept⟩

theorem backward_spec (w0 : World) (a1 : Option Addr) (c1 : Nat) (l : List UInt8) (hr1 : RdB (hp w0) (.slice a1 l.length c1) l) (hl1 : l.length ≤ 140737488351232) : Calls Tryd.prog 15 #[.slice a1 l.length c1] w0 fun e w' => ∃ v, e = .returned v ∧ St ⟨w0, None_⟩ w' [slB 5 v l.reverse] := by
  have hs := (St.start w0 None_).emp (slB_nil 5)
  refine c_enter (N := 20) Tryd.func15 rfl Tryd.ntmps15 (by simp) ?_
  intro a hf
  refine wp_seq ?_
  refine wp_region_lit ?_
  refine s_a hf rfl ?_; clear hf a; intro a hf
  refine s_nil ?_
  refine then_n ?_
  refine wp_seq ?_
  refine wp_region_lit ?_
  refine s_a hf rfl ?_; clear hf a; intro a hf
  refine s_nil ?_
  refine then_n ?_
  refine wp_seq ?_
  refine wp_seq ?_
  refine wp_region_lit ?_
  refine s_m hf rfl ?_; clear hf a; intro a hf
  refine s_v hf (x_len Tryd.underlying23 (hf.eval rfl)) ?_; clear hf a; intro a hf
  refine s_v hf (x_bin (hf.eval rfl) (hf.eval rfl) (r_subi _ (by omega) (by omega))) ?_; clear hf a; intro a hf
  refine s_a hf rfl ?_; clear hf a; intro a hf
  refine s_nil ?_
  refine then_n ?_
  refine wp_block ?_
  refine c_loop (L0 := [(0, _), (2, _)]) (fun M w m => ∃ (j : Nat) (v : Value), M = [(3, v), (4, .int .i64 ((j : Int) - 1))] ∧ j = m ∧ j ≤ l.length ∧ St ⟨w0, None_⟩ w [slB 5 v (l.drop j).reverse]) (M0 := [(3, .slice none 0 0), (4, .int .i64 ((l.length : Int) - 1))]) (⟨l.length, _, rfl, rfl, Nat.le_refl _, by simpa using hs⟩) (hf.sub ⟨rfl, rfl, rfl, rfl, trivial⟩) ?_
  clear hf hs a
  rintro M m a w ⟨j, v, rfl, rfl, hj, hs⟩ hf
  refine wp_seq ?_
  refine wp_seq ?_
  refine wp_region_lit ?_
  refine s_m hf rfl ?_; clear hf a; intro a hf
  refine s_v hf (x_bin (hf.eval rfl) (hf.eval rfl) (r_ge _ _ _ _)) ?_; clear hf a; intro a hf
  refine s_nil ?_
  refine then_n ?_
  refine c_cond hf rfl (fun hi0 => ?_) (fun hi0 => ?_)
  · simp only [decide_eq_true_eq, decide_eq_false_iff_not, Bool.not_eq_true', Bool.not_eq_false', Bool.not_eq_true, Int.not_lt, Int.not_le] at hi0
    obtain ⟨j, rfl⟩ : ∃ i, j = i + 1 := ⟨j - 1, by omega⟩
    obtain ⟨a1, rfl⟩ := hr1.some (by omega)
    have hj2 : ((j + 1 : Nat) : Int) - 1 = j := by omega
    rw [hj2] at hf
    have hlt : j < l.length := by omega
    refine wp_skip ?_
    refine then_n ?_
    refine wp_seq ?_
    refine wp_block ?_
    refine wp_region_lit ?_
    refine s_m hf rfl ?_; clear hf a; intro a hf
    refine s_m hf rfl ?_; clear hf a; intro a hf
    refine s_m hf rfl ?_; clear hf a; intro a hf
    refine s_v hf (x_indexAddr sl23 (hf.eval rfl) (hf.eval rfl) (by omega) (by omega)) ?_; clear hf a; intro a hf
    refine s_r hf (x_loadB sc5 (hs.oldB hr1) (hf.eval rfl) (by omega)) ?_; clear hf a; intro a hf
    replace hf := hf.now (k := 16) (v' := u8v l[j]) rfl (rfl)
    refine s_do hf rfl (y_lit (xs := [.tmp 16]) hs sl23 (hf.evals rfl) rfl (by simp [Value.cells, u8v]) (by decide) ?_); clear hf hs a; intro b2 w hs a hf
    refine s_do hf rfl (y_appendB (s := [l[j]]) hs sl23 rfl (hf.eval rfl) (hf.eval rfl) (.there _ (.here _)) (hs.rdB (.here _) fun h hb => rdB_of_bb (T := 5) (l := [l[j]]) hb (by simp) (by simp)) (by simp; omega) ?_); clear hf hs a; intro v2 w hs hv a hf
    replace hs := hs.lose (.there _ (.here _))
    have he : (l.drop (j + 1)).reverse ++ [l[j]] = (l.drop j).reverse := by rw [List.drop_eq_getElem_cons hlt, List.reverse_cons]
    rw [he] at hs
    refine s_a hf rfl ?_; clear hf a; intro a hf
    refine s_nil ?_
    refine blk_n ?_
    refine then_n ?_
    refine wp_region_lit ?_
    refine s_m hf rfl ?_; clear hf a; intro a hf
    refine s_v hf (x_bin (hf.eval rfl) (hf.eval rfl) (r_subi _ (by omega) (by omega))) ?_; clear hf a; intro a hf
    refine s_a hf rfl ?_; clear hf a; intro a hf
    refine s_nil ?_
    exact ⟨_, _, ⟨j, _, rfl, rfl, by omega, hs⟩, by omega, hf.sub ⟨rfl, rfl, rfl, rfl, trivial⟩⟩
  · simp only [decide_eq_true_eq, decide_eq_false_iff_not, Bool.not_eq_true', Bool.not_eq_false', Bool.not_eq_true, Int.not_lt, Int.not_le] at hi0
    refine wp_exit ?_
    refine then_x ?_
    refine then_x ?_
    refine blk_x ?_
    refine then_n ?_
    refine wp_seq ?_
    refine wp_region_lit ?_
    refine s_m hf rfl ?_; clear hf a; intro a hf
    refine s_a hf rfl ?_; clear hf a; intro a hf
    refine s_nil ?_
    refine then_n ?_
    refine wp_ret ?_
    refine r_1 hf Tryd.results15 rfl ?_
    obtain rfl : j = 0 := by omega
    exact ⟨_, rfl, by simpa using hs⟩

theorem fieldSums_spec (w0 : World) (hT : Tab 0 (hp w0)) (a1 : Option Addr) (c1 : Nat) (data : List UInt8) (hr1 : RdB (hp w0) (.slice a1 data.length c1) data) (hl1 : data.length ≤ 140737488351232) : Calls Tryd.prog 4 #[.slice a1 data.length c1] w0 fun e w' => e = .returned (.bool true) ∧ Kept w0 w' None_ := by
  have hs := St.start w0 None_
  refine c_enter (N := 44) Tryd.func4 rfl Tryd.ntmps4 (by simp) ?_
  intro a hf
  refine wp_seq ?_
  refine wp_region_lit ?_
  refine s_a hf rfl ?_; clear hf a; intro a hf
  refine s_nil ?_
  refine then_n ?_
  refine wp_seq ?_
  refine wp_region_lit ?_
  refine s_m hf rfl ?_; clear hf a; intro a hf
  refine s_do hf rfl (y_call (hf.eval rfl) (hf.evals rfl) Tryd.call9 ((framed_spec w0 _ _ data hr1 (by omega)).mono ?_))
  rintro e w1 ⟨b, c, rfl, hc, hs⟩
  refine ⟨_, rfl, ?_⟩; clear hf a; intro a hf
  refine s_a hf rfl ?_; clear hf a; intro a hf
  refine s_nil ?_
  refine then_n ?_
  refine wp_seq ?_
  refine wp_region_lit ?_
  refine s_m hf rfl ?_; clear hf a; intro a hf
  refine s_m hf rfl ?_; clear hf a; intro a hf
  refine s_v hf (x_len Tryd.underlying23 (hf.eval rfl)) ?_; clear hf a; intro a hf
  refine s_v hf (x_slice_hi sl23 (hf.eval rfl) (hf.eval rfl)  (by omega) (by omega)) ?_; clear hf a; intro a hf
  replace hf := hf.now (k := 14) (v' := .slice (some ⟨b, 0, none⟩) data.length c) rfl (rfl)
  have hrf : RdB (hp w1) (.slice (some ⟨b, 0, none⟩) data.length c) data := by
    have h0 := RdB.sub (i := 0) (j := data.length) (hs.rdB (.here _) fun h => slB_rd) (by simp) (by omega) (by simp)
    have e : subA (some ⟨b, 0, none⟩) c 0 1 = some ⟨b, 0, none⟩ := by unfold subA; split <;> simp [Addr.add]
    rw [e] at h0; simpa using h0
  refine s_a hf rfl ?_; clear hf a; intro a hf
  refine s_nil ?_
  refine then_n ?_
  refine wp_seq ?_
  refine wp_region_lit ?_
  refine s_m hf rfl ?_; clear hf a; intro a hf
  refine s_do hf rfl (y_call (hf.eval rfl) (hf.evals rfl) Tryd.call13 ((sum_spec _ (hT.kept hs.kept) _ _ data hrf (by omega)).mono ?_))
  rintro e w1 ⟨rfl, hk⟩
  replace hs := hs.ext hk
  refine ⟨_, rfl, ?_⟩; clear hf a; intro a hf
  refine s_a hf rfl ?_; clear hf a; intro a hf
  refine s_nil ?_
  refine then_n ?_
  refine wp_seq ?_
  refine wp_region_lit ?_
  refine s_m hf rfl ?_; clear hf a; intro a hf
  refine s_do hf rfl (y_call (hf.eval rfl) (hf.evals rfl) Tryd.call14 ((refSum_spec _ _ _ data (hs.oldB hr1) (by omega)).mono ?_))
  rintro e w1 ⟨rfl, hk⟩
  replace hs := hs.ext hk
  refine ⟨_, rfl, ?_⟩; clear hf a; intro a hf
  refine s_a hf rfl ?_; clear hf a; intro a hf
  refine s_nil ?_
  refine then_n ?_
  refine wp_seq ?_
  refine wp_seq ?_
  refine wp_region_lit ?_
  refine s_m hf rfl ?_; clear hf a; intro a hf
  refine s_m hf rfl ?_; clear hf a; intro a hf
  refine s_v hf (x_bin (hf.eval rfl) (hf.eval rfl) (r_ne _ _ _ _)) ?_; clear hf a; intro a hf
  refine s_m hf rfl ?_; clear hf a; intro a hf
  replace hf := hf.now (k := 22) (v' := .bool false) rfl (congrArg Value.bool (by simp))
  refine s_do hf (wanted_of hf rfl rfl rfl) (.value (x_move (hf.eval rfl) _) ?_); clear hf a; intro a hf
  refine s_do hf (wanted_of hf rfl rfl rfl) (.value (x_move (hf.eval rfl) _) ?_); clear hf a; intro a hf
  refine s_do hf (wanted_of hf rfl rfl rfl) (y_call (hf.eval rfl) (hf.evals rfl) Tryd.call12 ((whole_spec _ _ _ _ _ _ data (hs.oldB hr1) rfl (hs.rdB (.here _) fun h => slB_rd) (by omega)).mono ?_))
  rintro e w1 ⟨rfl, hk⟩
  replace hs := hs.ext hk
  refine ⟨_, rfl, ?_⟩; clear hf a; intro a hf
  refine s_do hf (wanted_of hf rfl rfl rfl) (.value (x_not (hf.eval rfl) _) ?_); clear hf a; intro a hf
  refine s_v hf (x_pick_f (hf.eval rfl) (hf.eval rfl)) ?_; clear hf a; intro a hf
  refine s_nil ?_
  refine then_n ?_
  refine c_cond_f hf rfl rfl ?_
  refine wp_skip ?_
  refine then_n ?_
  refine wp_seq ?_
  refine wp_region_lit ?_
  refine s_m hf rfl ?_; clear hf a; intro a hf
  refine s_do hf rfl (y_call (hf.eval rfl) (hf.evals rfl) Tryd.call15 ((backward_spec _ _ _ data (hs.oldB hr1) (by omega)).mono ?_))
  rintro e w1 ⟨v, rfl, hj⟩
  replace hs := hs.join hj
  simp only [List.cons_append, List.nil_append] at hs
  obtain ⟨a7, c7, rfl, hc7⟩ := slB_shape hs
  rw [List.length_reverse] at hc7
  rw [List.length_reverse] at hs ⊢
  have hro : RdB (hp w1) (.slice a7 data.length c7) data.reverse := hs.rdB (.here _) fun h => slB_rd
  refine ⟨_, rfl, ?_⟩; clear hf a; intro a hf
  refine s_a hf rfl ?_; clear hf a; intro a hf
  refine s_nil ?_
  refine then_n ?_
  refine wp_seq ?_
  refine wp_region_lit ?_
  refine s_m hf rfl ?_; clear hf a; intro a hf
  refine s_m hf rfl ?_; clear hf a; intro a hf
  refine s_do hf rfl (y_copySl (s := data.reverse) hs sl23 (hf.eval rfl) (hf.eval rfl) (.there _ (.here _)) hro (by simp) (by omega) (by simp) ?_); clear hf hs a; intro w hs a hf
  have he : data.reverse ++ (data ++ [0xC0, 0xC1, 0xC2, 0xC3]).drop data.reverse.length = data.reverse ++ [0xC0, 0xC1, 0xC2, 0xC3] := by simp
  rw [he] at hs
  replace hs := hs.take (.there _ (.here _))
  have hro : RdB (hp w) (.slice a7 data.reverse.length c7) data.reverse := by rw [List.length_reverse]; exact hs.rdB (.here _) fun h => slB_rd
  have hrf : RdB (hp w) (.slice (some ⟨b, 0, none⟩) data.reverse.length c) data.reverse := by
    have h0 := RdB.sub (i := 0) (j := data.length) (hs.rdB (.there _ (.here _)) fun h => slB_rd) (by simp) (by omega) (by simp)
    have e : subA (some ⟨b, 0, none⟩) c 0 1 = some ⟨b, 0, none⟩ := by unfold subA; split <;> simp [Addr.add]
    rw [e] at h0; simpa using h0
  replace hf := hf.now (k := 4) (v' := .slice (some ⟨b, 0, none⟩) data.reverse.length c) rfl (by rw [List.length_reverse])
  replace hf := hf.now (k := 7) (v' := .slice a7 data.reverse.length c7) rfl (by rw [List.length_reverse])
  refine s_nil ?_
  refine then_n ?_
  refine wp_seq ?_
  refine wp_region_lit ?_
  refine s_m hf rfl ?_; clear hf a; intro a hf
  refine s_do hf rfl (y_call (hf.eval rfl) (hf.evals rfl) Tryd.call13 ((sum_spec _ (hT.kept hs.kept) _ _ data.reverse hrf (by simp; omega)).mono ?_))
  rintro e w1 ⟨rfl, hk⟩
  replace hs := hs.ext hk
  replace hro : RdB _ _ _ := RdC.mono hk.hle hro
  refine ⟨_, rfl, ?_⟩; clear hf a; intro a hf
  refine s_a hf rfl ?_; clear hf a; intro a hf
  refine s_nil ?_
  refine then_n ?_
  refine wp_seq ?_
  refine wp_region_lit ?_
  refine s_m hf rfl ?_; clear hf a; intro a hf
  refine s_m hf rfl ?_; clear hf a; intro a hf
  refine s_do hf rfl (y_call (hf.eval rfl) (hf.evals rfl) Tryd.call14 ((refSum_spec _ _ _ data.reverse hro (by simp; omega)).mono ?_))
  rintro e w1 ⟨rfl, hk⟩
  replace hs := hs.ext hk
  replace hro : RdB _ _ _ := RdC.mono hk.hle hro
  refine ⟨_, rfl, ?_⟩; clear hf a; intro a hf
  refine s_v hf (x_bin (hf.eval rfl) (hf.eval rfl) (r_eq _ _ _ _)) ?_; clear hf a; intro a hf
  refine s_m hf rfl ?_; clear hf a; intro a hf
  replace hf := hf.now (k := 39) (v' := .bool true) rfl (congrArg Value.bool (by simp))
  refine s_do hf (wanted_of hf rfl rfl rfl) (.value (x_move (hf.eval rfl) _) ?_); clear hf a; intro a hf
  refine s_do hf (wanted_of hf rfl rfl rfl) (.value (x_move (hf.eval rfl) _) ?_); clear hf a; intro a hf
  replace hf := hf.now (k := 40) (v' := .slice (some ⟨b, 0, none⟩) (data.reverse.length + 4) c) rfl (by rw [List.length_reverse])
  refine s_do hf (wanted_of hf rfl rfl rfl) (y_call (hf.eval rfl) (hf.evals rfl) Tryd.call12 ((whole_spec _ _ _ _ _ _ data.reverse hro rfl (by have := hs.rdB (.there _ (.here _)) fun h => slB_rd; simpa using this) (by simp; omega)).mono ?_))
  rintro e w1 ⟨rfl, hk⟩
  replace hs := hs.ext hk
  refine ⟨_, rfl, ?_⟩; clear hf a; intro a hf
  refine s_v hf (x_pick_t (hf.eval rfl) (hf.eval rfl)) ?_; clear hf a; intro a hf
  refine s_a hf rfl ?_; clear hf a; intro a hf
  refine s_nil ?_
  refine then_n ?_
  refine wp_ret ?_
  refine r_1 hf Tryd.results4 rfl ?_
  exact ⟨by simp, hs.kept⟩

end Go.Proofs.YtfcmklmeinchhaaDoor
