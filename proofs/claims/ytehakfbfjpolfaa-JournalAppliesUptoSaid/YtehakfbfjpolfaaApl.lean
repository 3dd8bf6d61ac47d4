/- The statement JournalApplies. -/
import Derived.Test.YtehakfbfjpolfaaVT
import Derived.Test.YtehakfbfjpolfaaJq
import Derived.Test.YtehakfbfjpolfaaAp
import Derived.Test.YtehakfbfjpolfaaProg
import Derived.Test.YtehakfbfjpolfaaFacts
set_option maxRecDepth 100000
set_option linter.all false
namespace Go.Proofs.Ytehakfbfjpolfaa
open Go Vw
theorem app_dk : ∀ {us ws : List Wr} (l : List UInt8), us.map dkW = ws.map dkW → appW l us = appW l ws
  | [], [], _, _ => rfl
  | [], _ :: _, _, h => by simp at h
  | _ :: _, [], _, h => by simp at h
  | x :: us, y :: ws, l, h => by
    simp only [List.map_cons, List.cons.injEq, dkW, Prod.mk.injEq] at h
    obtain ⟨⟨h1, h2⟩, h3⟩ := h
    show appW (putP l (x.1.toNat, x.2.2.2)) us = appW (putP l (y.1.toNat, y.2.2.2)) ws
    rw [h1, h2]
    exact app_dk _ h3
theorem aplE_dk {us ws : List Wr} (cl : Nat) (size : Int) (h : us.map dkW = ws.map dkW) : aplE cl size us = aplE cl size ws := by
  unfold aplE; rw [rgt_key size us ws 0 (dk_key h)]
theorem aplR_dk {us ws : List Wr} (content : List UInt8) (size : Int) (h : us.map dkW = ws.map dkW) : aplR content size us = aplR content size ws := by
  unfold aplR; rw [aplE_dk _ _ h, app_dk _ h]
theorem dk_len {us ws : List Wr} (h : us.map dkW = ws.map dkW) {N : Nat} (hN : ∀ z ∈ ws, z.2.2.2.length ≤ N) : ∀ z ∈ us, z.2.2.2.length ≤ N := fun z hz => by
  have h1 : dkW z ∈ us.map dkW := List.mem_map_of_mem hz
  rw [h] at h1
  obtain ⟨y, hy, e⟩ := List.mem_map.1 h1
  have h2 : (dkW y).2 = (dkW z).2 := congrArg Prod.snd e
  replace h2 : y.2.2.2 = z.2.2.2 := h2
  rw [← h2]; exact hN y hy
theorem pre4 {h : Heaplet} {b c : Nat} {l m : List UInt8} {n : Nat} (hn : n = l.length + m.length) (hr : RdB h (.slice (some ⟨b, 0, none⟩) n c) (l ++ m)) : RdB h (.slice (some ⟨b, 0, none⟩) l.length c) l := by
  subst hn
  have h0 := RdB.sub (i := 0) (j := l.length) hr (by simp) (by omega) (by simp)
  have e : subA (some (⟨b, 0, none⟩ : Addr)) c 0 1 = some ⟨b, 0, none⟩ := by unfold subA; split <;> simp [Addr.add]
  rw [e] at h0
  simpa using h0

theorem rgt_pos (size : Int) : ∀ (l : List Wr) (e : Int), rgt size l e = true → ∀ z ∈ l, 0 < wL z
  | [], _, _, z, hz => absurd hz (by simp)
  | x :: l, e, h, z, hz => by
    unfold rgt at h
    split at h
    · cases h
    · rename_i hb
      rcases List.mem_cons.1 hz with rfl | hz
      · have : 0 ≤ wL z := Int.natCast_nonneg _
        omega
      · exact rgt_pos size l _ h z hz

theorem apply_spec (w0 : World) (a1 : Option Addr) (c1 : Nat) (content : List UInt8) (hr1 : RdB (hp w0) (.slice a1 content.length c1) content) (hl1 : content.length ≤ 140737488351232) (size : Int) (aw : Option Addr) (cw : Nat) (ws : List Wr) (hrw : RdS wF 2 (hp w0) (.slice aw ws.length cw) ws) (hlw : ws.length ≤ 1048576) (hgd : ∀ z ∈ ws, RdB (hp w0) (.slice z.2.1 z.2.2.2.length z.2.2.1) z.2.2.2 ∧ z.2.2.2.length ≤ 1048576) (V : List UInt8) (hV : V = aplR content size ws) (E : Int) (hE : E = aplE content.length size ws) : Calls Try.prog 8 #[.slice a1 content.length c1, .int .i64 size, .slice aw ws.length cw] w0 fun e w' => ∃ a c, e = .returned (.tuple #[.slice a V.length c, .int .i64 E]) ∧ St ⟨w0, None_⟩ w' [slB 5 (.slice a V.length c) V] := by
  have hs := St.start w0 None_
  refine c_enter (N := 44) Try.func8 rfl Try.ntmps8 (by simp) ?_
  intro a hf
  refine wp_seq ?_
  refine wp_region_lit ?_
  refine s_a hf rfl ?_; clear hf a; intro a hf
  refine s_a hf rfl ?_; clear hf a; intro a hf
  refine s_nil ?_
  refine then_n ?_
  refine wp_seq ?_
  refine wp_seq ?_
  refine wp_region_lit ?_
  refine s_m hf rfl ?_; clear hf a; intro a hf
  refine s_v hf (x_len Try.underlying22 (hf.eval rfl)) ?_; clear hf a; intro a hf
  refine s_do hf rfl (y_call (hf.eval rfl) (hf.evals rfl) Try.call19 ((sized_spec _ _).mono ?_))
  rintro e w1 ⟨rfl, hw9⟩
  rw [hw9]
  clear hw9 w1
  refine ⟨_, rfl, ?_⟩; clear hf a; intro a hf
  refine s_v hf (x_not (hf.eval rfl)) ?_; clear hf a; intro a hf
  refine s_m hf rfl ?_; clear hf a; intro a hf
  refine s_bool hf (k := 15) rfl (fun hg1_4 hf' => ?_) (fun hg1_4 hf' => ?_)
  · clear hf
    have hf := hf'
    clear hf'
    simp only [decide_eq_true_eq, decide_eq_false_iff_not, Bool.not_eq_true', Bool.not_eq_false'] at hg1_4
    refine s_pass hf rfl rfl ?_; clear hf a; intro a hf
    refine s_pass hf rfl rfl ?_; clear hf a; intro a hf
    refine s_pass hf rfl rfl ?_; clear hf a; intro a hf
    refine s_v hf (x_pick_t (hf.eval rfl) (hf.eval rfl)) ?_; clear hf a; intro a hf
    refine s_nil ?_
    refine then_n ?_
    refine c_cond_t hf rfl rfl ?_
    refine wp_seq ?_
    refine wp_region_lit ?_
    refine s_a hf rfl ?_; clear hf a; intro a hf
    refine s_a hf rfl ?_; clear hf a; intro a hf
    refine s_nil ?_
    refine then_n ?_
    refine wp_ret ?_
    refine then_r ?_
    refine r_2 hf Try.results8 rfl rfl ?_
    have hE0 : E = 1 := by rw [hE]; unfold aplE; rw [if_pos (by omega)]
    have hV0 : V = [] := by rw [hV]; unfold aplR; rw [if_neg (by rw [← hE, hE0]; decide)]
    rw [hE0, hV0]
    exact ⟨none, 0, rfl, hs.emp (slB_nil _)⟩
  · clear hf
    have hf := hf'
    clear hf'
    simp only [decide_eq_true_eq, decide_eq_false_iff_not, Bool.not_eq_true', Bool.not_eq_false'] at hg1_4
    refine s_do hf (wanted_of hf rfl rfl rfl) (.value (x_move (hf.eval rfl) _) ?_); clear hf a; intro a hf
    refine s_do hf (wanted_of hf rfl rfl rfl) (y_call (hf.eval rfl) (hf.evals rfl) Try.call19 ((sized_spec _ _).mono ?_))
    rintro e w1 ⟨rfl, hw9⟩
    rw [hw9]
    clear hw9 w1
    refine ⟨_, rfl, ?_⟩; clear hf a; intro a hf
    refine s_do hf (wanted_of hf rfl rfl rfl) (.value (x_not (hf.eval rfl) _) ?_); clear hf a; intro a hf
    refine s_v hf (x_pick_f (hf.eval rfl) (hf.eval rfl)) ?_; clear hf a; intro a hf
    refine s_nil ?_
    refine then_n ?_
    refine c_cond hf rfl (fun hi0 => ?_) (fun hi0 => ?_)
    · first | simp only [decide_eq_true_eq, decide_eq_false_iff_not, Bool.not_eq_true', Bool.not_eq_false'] at hi0 | skip
      refine wp_seq ?_
      refine wp_region_lit ?_
      refine s_a hf rfl ?_; clear hf a; intro a hf
      refine s_a hf rfl ?_; clear hf a; intro a hf
      refine s_nil ?_
      refine then_n ?_
      refine wp_ret ?_
      refine then_r ?_
      refine r_2 hf Try.results8 rfl rfl ?_
      have hE0 : E = 1 := by rw [hE]; unfold aplE; rw [if_pos (by omega)]
      have hV0 : V = [] := by rw [hV]; unfold aplR; rw [if_neg (by rw [← hE, hE0]; decide)]
      rw [hE0, hV0]
      exact ⟨none, 0, rfl, hs.emp (slB_nil _)⟩
    · first | simp only [decide_eq_true_eq, decide_eq_false_iff_not, Bool.not_eq_true', Bool.not_eq_false'] at hi0 | skip
      have hsz : 0 ≤ size ∧ size ≤ 16777216 := hi0
      refine wp_skip ?_
      refine then_n ?_
      refine wp_seq ?_
      refine wp_seq ?_
      refine wp_region_lit ?_
      refine s_m hf rfl ?_; clear hf a; intro a hf
      refine s_m hf rfl ?_; clear hf a; intro a hf
      refine s_do hf rfl (y_call (hf.eval rfl) (hf.evals rfl) Try.call20 ((right_spec _ size hsz.1 hsz.2 _ _ ws (hs.old hrw) hlw).mono ?_))
      rintro e w1 ⟨rfl, hk⟩
      replace hs := hs.ext hk
      refine ⟨_, rfl, ?_⟩; clear hf a; intro a hf
      refine s_v hf (x_not (hf.eval rfl)) ?_; clear hf a; intro a hf
      refine s_nil ?_
      refine then_n ?_
      refine c_cond hf rfl (fun hi1 => ?_) (fun hi1 => ?_)
      · simp only [Bool.not_eq_true', Bool.not_eq_false'] at hi1
        refine wp_seq ?_
        refine wp_region_lit ?_
        refine s_a hf rfl ?_; clear hf a; intro a hf
        refine s_a hf rfl ?_; clear hf a; intro a hf
        refine s_nil ?_
        refine then_n ?_
        refine wp_ret ?_
        refine then_r ?_
        refine r_2 hf Try.results8 rfl rfl ?_
        have hE0 : E = 143 := by rw [hE]; unfold aplE; rw [if_neg (by omega), if_pos (by assumption)]
        have hV0 : V = [] := by rw [hV]; unfold aplR; rw [if_neg (by rw [← hE, hE0]; decide)]
        rw [hE0, hV0]
        exact ⟨none, 0, rfl, hs.emp (slB_nil _)⟩
      · simp only [Bool.not_eq_true', Bool.not_eq_false'] at hi1
        have hrt : rgt size ws 0 = true := hi1
        obtain ⟨n, rfl⟩ := Int.eq_ofNat_of_zero_le (show 0 ≤ size by omega)
        have hok : ∀ z ∈ ws, 0 ≤ z.1 ∧ z.1 + wL z ≤ (n : Int) ∧ 0 < wL z := fun z hz => by have h8 := rgt_all (n : Int) ws 0 (by omega) hrt z hz; exact ⟨h8.1, h8.2, rgt_pos (n : Int) ws 0 hrt z hz⟩
        refine wp_skip ?_
        refine then_n ?_
        refine wp_seq ?_
        refine wp_region_lit ?_
        refine s_m hf rfl ?_; clear hf a; intro a hf
        refine s_do hf rfl (y_makeB (m := n) (c := n) hs sl22 (hf.eval rfl) (hf.eval rfl) rfl rfl (by omega) (by omega) ?_); clear hf hs a; intro b w hs a hf
        refine s_a hf rfl ?_; clear hf a; intro a hf
        refine s_nil ?_
        refine then_n ?_
        refine wp_seq ?_
        refine wp_region_lit ?_
        refine s_m hf rfl ?_; clear hf a; intro a hf
        refine s_m hf rfl ?_; clear hf a; intro a hf
        refine s_do hf rfl (y_copyB (o := 0) (cur' := baseW content n) hs sl22 (hf.eval rfl) (hf.eval rfl) (fun _ => rfl) (hs.oldB hr1) rfl (.here _) (base_spl content n) (by simp) ?_); clear hf hs a; intro w hs a hf
        replace hs := St.ofBb (n := n) hs (baseW_len content n) (by omega)
        refine s_nil ?_
        refine then_n ?_
        refine wp_seq ?_
        refine wp_seq ?_
        refine wp_region_lit ?_
        refine s_m hf rfl ?_; clear hf a; intro a hf
        refine s_v hf (x_len Try.underlying23 (hf.eval rfl)) ?_; clear hf a; intro a hf
        refine s_m hf rfl ?_; clear hf a; intro a hf
        refine s_nil ?_
        refine then_n ?_
        refine wp_block ?_
        refine c_loop (L0 := [(6, _), (7, _), (8, _), (29, _), (30, _)]) (fun M w m => ∃ i : Nat, M = [(31, .int .i64 (i : Int))] ∧ ws.length - i = m ∧ i ≤ ws.length ∧ St ⟨w0, None_⟩ w [slB 5 (.slice (some ⟨b, 0, none⟩) n n) (appW (baseW content n) (ws.take i))]) (M0 := _) (⟨0, rfl, rfl, Nat.zero_le _, hs⟩) (hf.sub ⟨rfl, rfl, rfl, rfl, rfl, rfl, trivial⟩) ?_
        clear hf hs a
        rintro M m a w ⟨i, rfl, rfl, hi, hs⟩ hf
        refine wp_seq ?_
        refine wp_region_lit ?_
        refine s_v hf (x_bin (hf.eval rfl) (hf.eval rfl) (r_lt _ _ _ _)) ?_; clear hf a; intro a hf
        refine s_nil ?_
        refine then_n ?_
        refine wp_seq ?_
        refine c_cond hf rfl (fun hi2 => ?_) (fun hi2 => ?_)
        · simp only [decide_eq_true_eq, decide_eq_false_iff_not, Bool.not_eq_true', Bool.not_eq_false', Bool.not_eq_true, Int.not_lt, Int.not_le] at hi2
          have hlt : i < ws.length := by omega
          obtain ⟨aw, rfl⟩ := hrw.some (by omega)
          have hgi := hgd _ (List.getElem_mem hlt)
          obtain ⟨hzi1, hzi2, hzi3⟩ := hok _ (List.getElem_mem hlt)
          have hwl0 : wL ws[i] = (ws[i].2.2.2.length : Int) := rfl
          refine wp_skip ?_
          refine then_n ?_
          refine wp_seq ?_
          refine wp_block ?_
          refine wp_seq ?_
          refine wp_region_lit ?_
          refine s_v hf (x_indexAddr sl23 (hf.eval rfl) (hf.eval rfl) (by omega) (by omega)) ?_; clear hf a; intro a hf
          refine s_r hf (x_loadS (f := wF) ag46 (fun _ => rfl) (hs.old hrw) (hf.eval rfl) (by simpa using hlt)) ?_; clear hf a; intro a hf
          refine s_do hf rfl (y_alloc hs Try.zeroValue46 ?_); clear hf hs a; intro b7 w hs a hf
          change St _ _ (cb b7 46 [.int .i64 0, .slice none 0 0] :: _) at hs
          refine s_do0 hf rfl (y_storeAgg (cs := wF ws[i]) hs (n := 2) (by kernel_rfl) (hf.eval rfl) (hf.eval rfl) (by simp [Value.oneCell', wF]) rfl rfl (.here _) ?_); clear hf hs a; intro w hs a hf
          have hwl : wL ws[i] = (ws[i].2.2.2.length : Int) := rfl
          refine s_nil ?_
          refine then_n ?_
          refine c_draw hs (fun _ => True) [.held, .held, .read, .held, .held, .read, .fin] (by kernel_rfl) (by kernel_rfl) (fun _ _ _ => trivial) ?_
          clear hs; intro w hs hC hw
          refine m_held hf rfl (fun w' _ => x_move (hf.eval rfl) w') ?_; clear hf a; intro a hf
          refine m_held hf rfl (fun w' _ => x_fieldAddr fo46_0 (hf.eval rfl) w') ?_; clear hf a; intro a hf
          refine m_read hf rfl (x_load sc3 (hf.eval rfl) (by first | exact hs.cell (.here _) rfl | exact hs.cell (.there _ (.here _)) rfl | exact hs.cell (.there _ (.there _ (.here _))) rfl | exact hs.cell (.there _ (.there _ (.there _ (.here _)))) rfl | exact hs.cell (.there _ (.there _ (.there _ (.there _ (.here _))))) rfl | exact hs.cell (.there _ (.there _ (.there _ (.there _ (.there _ (.here _)))))) rfl)) ?_; clear hf a; intro a hf
          refine m_held hf rfl (fun w' _ => x_slice_lo sl22 (hf.eval rfl) (hf.eval rfl)  (by omega) (by omega)  w') ?_; clear hf a; intro a hf
          refine m_held hf rfl (fun w' _ => x_fieldAddr fo46_1 (hf.eval rfl) w') ?_; clear hf a; intro a hf
          refine m_read hf rfl (x_load sc22 (hf.eval rfl) (by first | exact hs.cell (.here _) rfl | exact hs.cell (.there _ (.here _)) rfl | exact hs.cell (.there _ (.there _ (.here _))) rfl | exact hs.cell (.there _ (.there _ (.there _ (.here _)))) rfl | exact hs.cell (.there _ (.there _ (.there _ (.there _ (.here _))))) rfl | exact hs.cell (.there _ (.there _ (.there _ (.there _ (.there _ (.here _)))))) rfl)) ?_; clear hf a; intro a hf
          refine m_fin hf rfl (y_copyAt (T := 5) (n := n) (o := ws[i].1.toNat) (s := ws[i].2.2.2) hs sl22 (hf.eval rfl) rfl (hf.eval rfl) (.there _ (.here _)) (hs.oldB hgi.1) (by omega) (by rw [appW_len, baseW_len]) ?_); clear hf hs a; intro w hs; intro a hf
          rw [show min ws[i].2.2.2.length (n - ws[i].1.toNat) = ws[i].2.2.2.length by omega, List.take_length] at hs
          have hap := appW_succ (l := baseW content n) hlt
          rw [putP_fit (by rw [appW_len, baseW_len]; omega) (by omega)] at hap
          rw [← hap] at hs
          replace hs := hs.lose (.there _ (.here _))
          refine blk_n ?_
          refine then_n ?_
          refine wp_region_lit ?_
          refine s_v hf (x_bin (hf.eval rfl) (hf.eval rfl) (r_addi _ (by omega) (by omega))) ?_; clear hf a; intro a hf
          refine s_m hf rfl ?_; clear hf a; intro a hf
          refine s_nil ?_
          exact ⟨_, _, ⟨i + 1, rfl, rfl, by omega, hs⟩, by omega, hf.sub ⟨rfl, rfl, rfl, rfl, rfl, rfl, trivial⟩⟩
        · simp only [decide_eq_true_eq, decide_eq_false_iff_not, Bool.not_eq_true', Bool.not_eq_false', Bool.not_eq_true, Int.not_lt, Int.not_le] at hi2
          refine wp_exit ?_
          refine then_x ?_
          refine then_x ?_
          refine blk_x ?_
          refine then_n ?_
          refine wp_seq ?_
          refine wp_region_lit ?_
          refine s_m hf rfl ?_; clear hf a; intro a hf
          refine s_a hf rfl ?_; clear hf a; intro a hf
          refine s_a hf rfl ?_; clear hf a; intro a hf
          refine s_nil ?_
          refine then_n ?_
          refine wp_ret ?_
          refine r_2 hf Try.results8 rfl rfl ?_
          obtain rfl : i = ws.length := by omega
          rw [List.take_length] at hs
          have hE0 : E = 0 := by rw [hE]; unfold aplE; rw [if_neg (by omega), if_neg (by rw [hrt]; simp)]
          have hV0 : V = appW (baseW content n) ws := by rw [hV]; unfold aplR; rw [if_pos (by rw [← hE, hE0]), Int.toNat_natCast]
          have hVl : V.length = n := by rw [hV0, appW_len, baseW_len]
          rw [hE0, hVl]
          rw [← hV0] at hs
          exact ⟨_, _, rfl, hs⟩

theorem rapply_spec (w0 : World) (a1 : Option Addr) (c1 : Nat) (content : List UInt8) (hr1 : RdB (hp w0) (.slice a1 content.length c1) content) (hl1 : content.length ≤ 140737488351232) (size : Int) (aw : Option Addr) (cw : Nat) (ws : List Wr) (hrw : RdS wF 2 (hp w0) (.slice aw ws.length cw) ws) (hlw : ws.length ≤ 1048576) (hgd : ∀ z ∈ ws, RdB (hp w0) (.slice z.2.1 z.2.2.2.length z.2.2.1) z.2.2.2 ∧ z.2.2.2.length ≤ 1048576) (V : List UInt8) (hV : V = aplR content size ws) (E : Int) (hE : E = aplE content.length size ws) : Calls Try.prog 9 #[.slice a1 content.length c1, .int .i64 size, .slice aw ws.length cw] w0 fun e w' => ∃ a c, e = .returned (.tuple #[.slice a V.length c, .int .i64 E]) ∧ St ⟨w0, None_⟩ w' [slB 5 (.slice a V.length c) V] := by
  have hs := St.start w0 None_
  refine c_enter (N := 80) Try.func9 rfl Try.ntmps9 (by simp) ?_
  intro a hf
  refine wp_seq ?_
  refine wp_region_lit ?_
  refine s_a hf rfl ?_; clear hf a; intro a hf
  refine s_a hf rfl ?_; clear hf a; intro a hf
  refine s_nil ?_
  refine then_n ?_
  refine wp_seq ?_
  refine wp_seq ?_
  refine wp_region_lit ?_
  refine s_m hf rfl ?_; clear hf a; intro a hf
  refine s_v hf (x_len Try.underlying22 (hf.eval rfl)) ?_; clear hf a; intro a hf
  refine s_v hf (x_bin (hf.eval rfl) (hf.eval rfl) (r_gt _ _ _ _)) ?_; clear hf a; intro a hf
  refine s_m hf rfl ?_; clear hf a; intro a hf
  refine s_bool hf (k := 16) rfl (fun hg1_3 hf' => ?_) (fun hg1_3 hf' => ?_)
  · clear hf
    have hf := hf'
    clear hf'
    simp only [decide_eq_true_eq, decide_eq_false_iff_not, Bool.not_eq_true', Bool.not_eq_false'] at hg1_3
    refine s_pass hf rfl rfl ?_; clear hf a; intro a hf
    refine s_pass hf rfl rfl ?_; clear hf a; intro a hf
    refine s_pass hf rfl rfl ?_; clear hf a; intro a hf
    refine s_v hf (x_pick_t (hf.eval rfl) (hf.eval rfl)) ?_; clear hf a; intro a hf
    refine s_nil ?_
    refine then_n ?_
    refine c_cond_t hf rfl rfl ?_
    refine wp_seq ?_
    refine wp_region_lit ?_
    refine s_a hf rfl ?_; clear hf a; intro a hf
    refine s_a hf rfl ?_; clear hf a; intro a hf
    refine s_nil ?_
    refine then_n ?_
    refine wp_ret ?_
    refine then_r ?_
    refine r_2 hf Try.results9 rfl rfl ?_
    have hE0 : E = 1 := by rw [hE]; unfold aplE; rw [if_pos (by omega)]
    have hV0 : V = [] := by rw [hV]; unfold aplR; rw [if_neg (by rw [← hE, hE0]; decide)]
    rw [hE0, hV0]
    exact ⟨none, 0, rfl, hs.emp (slB_nil _)⟩
  · clear hf
    have hf := hf'
    clear hf'
    simp only [decide_eq_true_eq, decide_eq_false_iff_not, Bool.not_eq_true', Bool.not_eq_false'] at hg1_3
    refine s_do hf (wanted_of hf rfl rfl rfl) (.value (x_move (hf.eval rfl) _) ?_); clear hf a; intro a hf
    refine s_do hf (wanted_of hf rfl rfl rfl) (y_call (hf.eval rfl) (hf.evals rfl) Try.call21 ((inSize_spec _ _).mono ?_))
    rintro e w1 ⟨rfl, hw9⟩
    rw [hw9]
    clear hw9 w1
    refine ⟨_, rfl, ?_⟩; clear hf a; intro a hf
    refine s_do hf (wanted_of hf rfl rfl rfl) (.value (x_not (hf.eval rfl) _) ?_); clear hf a; intro a hf
    refine s_v hf (x_pick_f (hf.eval rfl) (hf.eval rfl)) ?_; clear hf a; intro a hf
    refine s_nil ?_
    refine then_n ?_
    refine c_cond hf rfl (fun hi0 => ?_) (fun hi0 => ?_)
    · first | simp only [decide_eq_true_eq, decide_eq_false_iff_not, Bool.not_eq_true', Bool.not_eq_false'] at hi0 | skip
      refine wp_seq ?_
      refine wp_region_lit ?_
      refine s_a hf rfl ?_; clear hf a; intro a hf
      refine s_a hf rfl ?_; clear hf a; intro a hf
      refine s_nil ?_
      refine then_n ?_
      refine wp_ret ?_
      refine then_r ?_
      refine r_2 hf Try.results9 rfl rfl ?_
      have hE0 : E = 1 := by rw [hE]; unfold aplE; rw [if_pos (by omega)]
      have hV0 : V = [] := by rw [hV]; unfold aplR; rw [if_neg (by rw [← hE, hE0]; decide)]
      rw [hE0, hV0]
      exact ⟨none, 0, rfl, hs.emp (slB_nil _)⟩
    · first | simp only [decide_eq_true_eq, decide_eq_false_iff_not, Bool.not_eq_true', Bool.not_eq_false'] at hi0 | skip
      have hsz : 0 ≤ size ∧ size ≤ 16777216 := hi0
      refine wp_skip ?_
      refine then_n ?_
      refine wp_seq ?_
      refine wp_region_lit ?_
      refine s_m hf rfl ?_; clear hf a; intro a hf
      refine s_m hf rfl ?_; clear hf a; intro a hf
      refine s_do hf rfl (y_call (hf.eval rfl) (hf.evals rfl) Try.call22 ((rright_spec _ size hsz.1 hsz.2 _ _ ws (hs.old hrw) hlw).mono ?_))
      rintro e w1 ⟨rfl, hk⟩
      replace hs := hs.ext hk
      refine ⟨_, rfl, ?_⟩; clear hf a; intro a hf
      refine s_a hf rfl ?_; clear hf a; intro a hf
      refine s_nil ?_
      refine then_n ?_
      refine wp_seq ?_
      refine wp_seq ?_
      refine wp_region_lit ?_
      refine s_m hf rfl ?_; clear hf a; intro a hf
      refine s_v hf (x_not (hf.eval rfl)) ?_; clear hf a; intro a hf
      refine s_nil ?_
      refine then_n ?_
      refine c_cond hf rfl (fun hi1 => ?_) (fun hi1 => ?_)
      · simp only [Bool.not_eq_true', Bool.not_eq_false'] at hi1
        refine wp_seq ?_
        refine wp_region_lit ?_
        refine s_a hf rfl ?_; clear hf a; intro a hf
        refine s_a hf rfl ?_; clear hf a; intro a hf
        refine s_nil ?_
        refine then_n ?_
        refine wp_ret ?_
        refine then_r ?_
        refine r_2 hf Try.results9 rfl rfl ?_
        have hE0 : E = 143 := by rw [hE]; unfold aplE; rw [if_neg (by omega), if_pos (by assumption)]
        have hV0 : V = [] := by rw [hV]; unfold aplR; rw [if_neg (by rw [← hE, hE0]; decide)]
        rw [hE0, hV0]
        exact ⟨none, 0, rfl, hs.emp (slB_nil _)⟩
      · simp only [Bool.not_eq_true', Bool.not_eq_false'] at hi1
        have hrt : rgt size ws 0 = true := hi1
        obtain ⟨n, rfl⟩ := Int.eq_ofNat_of_zero_le (show 0 ≤ size by omega)
        have hok : ∀ z ∈ ws, 0 ≤ z.1 ∧ z.1 + wL z ≤ (n : Int) ∧ 0 < wL z := fun z hz => by have h8 := rgt_all (n : Int) ws 0 (by omega) hrt z hz; exact ⟨h8.1, h8.2, rgt_pos (n : Int) ws 0 hrt z hz⟩
        refine wp_skip ?_
        refine then_n ?_
        refine wp_seq ?_
        refine wp_region_lit ?_
        refine s_m hf rfl ?_; clear hf a; intro a hf
        refine s_do hf rfl (y_makeB (m := n) (c := n) hs sl22 (hf.eval rfl) (hf.eval rfl) rfl rfl (by omega) (by omega) ?_); clear hf hs a; intro b w hs a hf
        refine s_a hf rfl ?_; clear hf a; intro a hf
        refine s_nil ?_
        refine then_n ?_
        refine wp_seq ?_
        refine wp_seq ?_
        refine wp_region_lit ?_
        refine s_a hf rfl ?_; clear hf a; intro a hf
        refine s_nil ?_
        refine then_n ?_
        refine wp_block ?_
        refine c_loop (L0 := [(0, _), (1, _), (2, _), (6, _), (7, _), (9, _)]) (fun M w m => ∃ i : Nat, M = [(10, .int .i64 (i : Int))] ∧ n - i = m ∧ i ≤ n ∧ i ≤ content.length ∧ St ⟨w0, None_⟩ w [bb b 5 (content.take i ++ List.replicate (n - i) 0)]) (M0 := _) (⟨0, rfl, rfl, Nat.zero_le _, Nat.zero_le _, by simpa using hs⟩) (hf.sub ⟨rfl, rfl, rfl, rfl, rfl, rfl, rfl, trivial⟩) ?_
        clear hf hs a
        rintro M m a w ⟨i, rfl, rfl, hi, hi9, hs⟩ hf
        refine wp_seq ?_
        refine wp_seq ?_
        refine wp_region_lit ?_
        refine s_m hf rfl ?_; clear hf a; intro a hf
        refine s_m hf rfl ?_; clear hf a; intro a hf
        refine s_v hf (x_bin (hf.eval rfl) (hf.eval rfl) (r_lt _ _ _ _)) ?_; clear hf a; intro a hf
        refine s_m hf rfl ?_; clear hf a; intro a hf
        refine s_bool hf (k := 31) rfl (fun hg8_3 hf' => ?_) (fun hg8_3 hf' => ?_)
        · clear hf
          have hf := hf'
          clear hf'
          simp only [decide_eq_true_eq, decide_eq_false_iff_not, Bool.not_eq_true', Bool.not_eq_false'] at hg8_3
          refine s_do hf (wanted_of hf rfl rfl rfl) (.value (x_move (hf.eval rfl) _) ?_); clear hf a; intro a hf
          refine s_do hf (wanted_of hf rfl rfl rfl) (.value (x_move (hf.eval rfl) _) ?_); clear hf a; intro a hf
          refine s_do hf (wanted_of hf rfl rfl rfl) (.value (x_len Try.underlying22 (hf.eval rfl) _) ?_); clear hf a; intro a hf
          refine s_do hf (wanted_of hf rfl rfl rfl) (.value (x_bin (hf.eval rfl) (hf.eval rfl) (r_lt _ _ _ _) _) ?_); clear hf a; intro a hf
          refine s_v hf (x_pick_t (hf.eval rfl) (hf.eval rfl)) ?_; clear hf a; intro a hf
          refine s_nil ?_
          refine then_n ?_
          refine c_cond hf rfl (fun hi2 => ?_) (fun hi2 => ?_)
          · first | simp only [decide_eq_true_eq, decide_eq_false_iff_not] at hi2 | skip
            have hlt : i < content.length := by omega
            obtain ⟨a1, rfl⟩ := hr1.some (by omega)
            refine wp_skip ?_
            refine then_n ?_
            refine wp_seq ?_
            refine wp_block ?_
            refine wp_region_lit ?_
            refine s_m hf rfl ?_; clear hf a; intro a hf
            refine s_m hf rfl ?_; clear hf a; intro a hf
            refine s_m hf rfl ?_; clear hf a; intro a hf
            refine s_m hf rfl ?_; clear hf a; intro a hf
            refine s_v hf (x_indexAddr sl22 (hf.eval rfl) (hf.eval rfl) (by omega) (by omega)) ?_; clear hf a; intro a hf
            refine s_r hf (x_loadB (i := (i : Int)) sc5 (hs.oldB hr1) (hf.eval rfl) (by simpa using hlt)) ?_; clear hf a; intro a hf
            replace hf := hf.now (k := 44) (v' := u8v content[i]) rfl (rfl)
            refine s_v hf (x_indexAddr sl22 (hf.eval rfl) (hf.eval rfl) (by omega) (by omega)) ?_; clear hf a; intro a hf
            replace hf := hf.now (k := 45) (v' := .pointer (some ⟨b, i, none⟩)) rfl (by rw [at_addN])
            refine s_do0 hf rfl (y_storeB (k := i) (u := content[i]) hs sc5 (hf.eval rfl) (hf.eval rfl) rfl (.here _) (by simp; omega) ?_); clear hf hs a; intro w hs a hf
            rw [base_step (by omega) hlt] at hs
            refine s_nil ?_
            refine blk_n ?_
            refine then_n ?_
            refine wp_region_lit ?_
            refine s_m hf rfl ?_; clear hf a; intro a hf
            refine s_v hf (x_bin (hf.eval rfl) (hf.eval rfl) (r_addi _ (by omega) (by omega))) ?_; clear hf a; intro a hf
            refine s_a hf rfl ?_; clear hf a; intro a hf
            refine s_nil ?_
            exact ⟨_, _, ⟨i + 1, rfl, rfl, by omega, by omega, hs⟩, by omega, hf.sub ⟨rfl, rfl, rfl, rfl, rfl, rfl, rfl, trivial⟩⟩
          · first | simp only [decide_eq_true_eq, decide_eq_false_iff_not] at hi2 | skip
            first | rw [base_end (n := n) (content := content) (i := i) (by omega) (by omega) (by omega)] at hs | skip
            refine wp_exit ?_
            refine then_x ?_
            refine then_x ?_
            refine blk_x ?_
            refine then_n ?_
            refine wp_seq ?_
            refine wp_seq ?_
            refine wp_region_lit ?_
            refine s_a hf rfl ?_; clear hf a; intro a hf
            refine s_nil ?_
            refine then_n ?_
            refine wp_block ?_
            refine c_loop (L0 := [(0, _), (1, _), (2, _), (6, _), (7, _), (9, _), (10, _), (28, _), (29, _), (30, _), (31, _), (32, _), (33, _), (34, _), (35, _), (36, _)]) (fun M w m => ∃ i : Nat, M = [(11, .int .i64 (i : Int))] ∧ ws.length - i = m ∧ i ≤ ws.length ∧ St ⟨w0, None_⟩ w [bb b 5 (appW (baseW content n) (ws.take i))]) (M0 := [(11, .int .i64 0)]) (⟨0, rfl, rfl, Nat.zero_le _, hs⟩) (hf.sub ⟨rfl, rfl, rfl, rfl, rfl, rfl, rfl, rfl, rfl, rfl, rfl, rfl, rfl, rfl, rfl, rfl, rfl, trivial⟩) ?_
            clear hf hs a
            rintro M m a w ⟨i, rfl, rfl, hi, hs⟩ hf
            refine wp_seq ?_
            refine wp_seq ?_
            refine wp_region_lit ?_
            refine s_m hf rfl ?_; clear hf a; intro a hf
            refine s_m hf rfl ?_; clear hf a; intro a hf
            refine s_v hf (x_len Try.underlying23 (hf.eval rfl)) ?_; clear hf a; intro a hf
            refine s_v hf (x_bin (hf.eval rfl) (hf.eval rfl) (r_lt _ _ _ _)) ?_; clear hf a; intro a hf
            refine s_nil ?_
            refine then_n ?_
            refine c_cond hf rfl (fun hi3 => ?_) (fun hi3 => ?_)
            · simp only [decide_eq_true_eq, decide_eq_false_iff_not, Bool.not_eq_true', Bool.not_eq_false', Bool.not_eq_true, Int.not_lt, Int.not_le] at hi3
              have hlt : i < ws.length := by omega
              obtain ⟨aw, rfl⟩ := hrw.some (by omega)
              obtain ⟨ab, ao2, rfl⟩ := rdS_plain (sz := 2) (fun _ => rfl) (by decide) hrw (by omega)
              have hgi := hgd _ (List.getElem_mem hlt)
              obtain ⟨hzi1, hzi2, hzi3⟩ := hok _ (List.getElem_mem hlt)
              have hwl0 : wL ws[i] = (ws[i].2.2.2.length : Int) := rfl
              have hal : (appW (baseW content n) (ws.take i)).length = n := by rw [appW_len, baseW_len]
              refine wp_skip ?_
              refine then_n ?_
              refine wp_seq ?_
              refine wp_block ?_
              refine wp_seq ?_
              refine wp_region_lit ?_
              refine s_a hf rfl ?_; clear hf a; intro a hf
              refine s_nil ?_
              refine then_n ?_
              refine wp_block ?_
              refine c_loop (L0 := [(0, _), (1, _), (2, _), (6, _), (7, _), (9, _), (10, _), (11, _), (28, _), (29, _), (30, _), (31, _), (32, _), (33, _), (34, _), (35, _), (36, _), (46, _), (47, _), (48, _), (49, _)]) (fun M w m => ∃ k : Nat, M = [(12, .int .i64 (k : Int))] ∧ ws[i].2.2.2.length - k = m ∧ k ≤ ws[i].2.2.2.length ∧ St ⟨w0, None_⟩ w [bb b 5 (putP (appW (baseW content n) (ws.take i)) (ws[i].1.toNat, ws[i].2.2.2.take k))]) (M0 := [(12, .int .i64 0)]) (⟨0, rfl, rfl, Nat.zero_le _, by rw [putP_zero]; exact hs⟩) (hf.sub ⟨rfl, rfl, rfl, rfl, rfl, rfl, rfl, rfl, rfl, rfl, rfl, rfl, rfl, rfl, rfl, rfl, rfl, rfl, rfl, rfl, rfl, rfl, trivial⟩) ?_
              clear hf hs a
              rintro M m a w ⟨k, rfl, rfl, hk, hs⟩ hf
              refine wp_seq ?_
              refine wp_seq ?_
              refine wp_region_lit ?_
              refine s_m hf rfl ?_; clear hf a; intro a hf
              refine s_m hf rfl ?_; clear hf a; intro a hf
              refine s_m hf rfl ?_; clear hf a; intro a hf
              refine s_v hf (x_indexAddr sl23 (hf.eval rfl) (hf.eval rfl) (by omega) (by omega)) ?_; clear hf a; intro a hf
              replace hf := hf.now (k := 55) (v' := .pointer (some ⟨ab, ao2 + i * 2, none⟩)) rfl (by rw [addr_add]; rfl)
              refine s_v hf (x_fieldAddr fo46_1 (hf.eval rfl)) ?_; clear hf a; intro a hf
              refine s_r hf (x_load sc22 (hf.eval rfl) (rdS_cellAt (f := wF) (sz := 2) (fun _ => rfl) (hs.old hrw) (k := 1) hlt rfl)) ?_; clear hf a; intro a hf
              refine s_v hf (x_len Try.underlying22 (hf.eval rfl)) ?_; clear hf a; intro a hf
              refine s_v hf (x_bin (hf.eval rfl) (hf.eval rfl) (r_lt _ _ _ _)) ?_; clear hf a; intro a hf
              refine s_nil ?_
              refine then_n ?_
              refine c_cond hf rfl (fun hi4 => ?_) (fun hi4 => ?_)
              · simp only [decide_eq_true_eq, decide_eq_false_iff_not, Bool.not_eq_true', Bool.not_eq_false', Bool.not_eq_true, Int.not_lt, Int.not_le] at hi4
                have hkl : k < ws[i].2.2.2.length := by omega
                obtain ⟨da, hda⟩ : ∃ x, ws[i].2.1 = some x := by
                  rcases hgi.1.2 with ⟨c9, e9, hn9⟩ | ⟨x9, c9, e9, _⟩
                  · omega
                  · injection e9 with e9; exact ⟨x9, e9⟩
                have hgk : RdB (hp w0) (.slice (some da) ws[i].2.2.2.length ws[i].2.2.1) ws[i].2.2.2 := by rw [← hda]; exact hgi.1
                refine wp_skip ?_
                refine then_n ?_
                refine wp_seq ?_
                refine wp_block ?_
                refine c_draw hs (fun _ => True) [.held, .held, .held, .held, .held, .read, .held, .held, .held, .held, .held, .held, .read, .held, .held, .read, .held, .fin] (by kernel_rfl) (by kernel_rfl) (fun _ _ _ => trivial) ?_
                clear hs; intro w hs hC hw
                refine m_held hf rfl (fun w' _ => x_move (hf.eval rfl) w') ?_; clear hf a; intro a hf
                refine m_held hf rfl (fun w' _ => x_move (hf.eval rfl) w') ?_; clear hf a; intro a hf
                refine m_held hf rfl (fun w' _ => x_move (hf.eval rfl) w') ?_; clear hf a; intro a hf
                refine m_held hf rfl (fun w' _ => x_indexAddr sl23 (hf.eval rfl) (hf.eval rfl) (by omega) (by omega) w') ?_; clear hf a; intro a hf
                replace hf := hf.now (k := 65) (v' := .pointer (some ⟨ab, ao2 + i * 2, none⟩)) rfl (by rw [addr_add]; rfl)
                refine m_held hf rfl (fun w' _ => x_fieldAddr fo46_0 (hf.eval rfl) w') ?_; clear hf a; intro a hf
                refine m_read hf rfl (x_load sc3 (hf.eval rfl) (rdS_cellAt (f := wF) (sz := 2) (fun _ => rfl) (hs.old hrw) (k := 0) hlt rfl)) ?_; clear hf a; intro a hf
                refine m_held hf rfl (fun w' _ => x_move (hf.eval rfl) w') ?_; clear hf a; intro a hf
                refine m_held hf rfl (fun w' _ => x_bin (hf.eval rfl) (hf.eval rfl) (r_addi _ (by omega) (by omega)) w') ?_; clear hf a; intro a hf
                replace hf := hf.now (k := 69) (v' := .int .i64 ((ws[i].1.toNat + k : Nat) : Int)) rfl (by congr 1; omega)
                refine m_held hf rfl (fun w' _ => x_move (hf.eval rfl) w') ?_; clear hf a; intro a hf
                refine m_held hf rfl (fun w' _ => x_move (hf.eval rfl) w') ?_; clear hf a; intro a hf
                refine m_held hf rfl (fun w' _ => x_indexAddr sl23 (hf.eval rfl) (hf.eval rfl) (by omega) (by omega) w') ?_; clear hf a; intro a hf
                replace hf := hf.now (k := 72) (v' := .pointer (some ⟨ab, ao2 + i * 2, none⟩)) rfl (by rw [addr_add]; rfl)
                refine m_held hf rfl (fun w' _ => x_fieldAddr fo46_1 (hf.eval rfl) w') ?_; clear hf a; intro a hf
                refine m_read hf rfl (x_load sc22 (hf.eval rfl) (rdS_cellAt (f := wF) (sz := 2) (fun _ => rfl) (hs.old hrw) (k := 1) hlt rfl)) ?_; clear hf a; intro a hf
                replace hf := hf.now (k := 74) (v' := .slice (some da) ws[i].2.2.2.length ws[i].2.2.1) rfl (by rw [← hda])
                refine m_held hf rfl (fun w' _ => x_move (hf.eval rfl) w') ?_; clear hf a; intro a hf
                refine m_held hf rfl (fun w' _ => x_indexAddr sl22 (hf.eval rfl) (hf.eval rfl) (by omega) (by omega) w') ?_; clear hf a; intro a hf
                refine m_read hf rfl (x_loadB (i := (k : Int)) sc5 (hs.oldB hgk) (hf.eval rfl) (by simpa using hkl)) ?_; clear hf a; intro a hf
                replace hf := hf.now (k := 77) (v' := u8v ws[i].2.2.2[k]) rfl (rfl)
                refine m_held hf rfl (fun w' _ => x_indexAddr sl22 (hf.eval rfl) (hf.eval rfl) (by omega) (by omega) w') ?_; clear hf a; intro a hf
                replace hf := hf.now (k := 78) (v' := .pointer (some ⟨b, ws[i].1.toNat + k, none⟩)) rfl (by rw [at_addN])
                refine m_fin0 hf rfl (y_storeB (k := ws[i].1.toNat + k) (u := ws[i].2.2.2[k]) hs sc5 (hf.eval rfl) (hf.eval rfl) rfl (.here _) (by rw [putP_len, hal]; omega) ?_); clear hf hs a; intro w hs; intro a hf
                rw [putP_step (by rw [hal]; omega) hkl] at hs
                refine blk_n ?_
                refine then_n ?_
                refine wp_region_lit ?_
                refine s_m hf rfl ?_; clear hf a; intro a hf
                refine s_v hf (x_bin (hf.eval rfl) (hf.eval rfl) (r_addi _ (by omega) (by omega))) ?_; clear hf a; intro a hf
                refine s_a hf rfl ?_; clear hf a; intro a hf
                refine s_nil ?_
                exact ⟨_, _, ⟨k + 1, rfl, rfl, by omega, hs⟩, by omega, hf.sub ⟨rfl, rfl, rfl, rfl, rfl, rfl, rfl, rfl, rfl, rfl, rfl, rfl, rfl, rfl, rfl, rfl, rfl, rfl, rfl, rfl, rfl, rfl, trivial⟩⟩
              · simp only [decide_eq_true_eq, decide_eq_false_iff_not, Bool.not_eq_true', Bool.not_eq_false', Bool.not_eq_true, Int.not_lt, Int.not_le] at hi4
                rw [show List.take k ws[i].2.2.2 = ws[i].2.2.2 from List.take_of_length_le (by omega), ← appW_succ hlt] at hs
                refine wp_exit ?_
                refine then_x ?_
                refine then_x ?_
                refine blk_x ?_
                refine blk_n ?_
                refine then_n ?_
                refine wp_region_lit ?_
                refine s_m hf rfl ?_; clear hf a; intro a hf
                refine s_v hf (x_bin (hf.eval rfl) (hf.eval rfl) (r_addi _ (by omega) (by omega))) ?_; clear hf a; intro a hf
                refine s_a hf rfl ?_; clear hf a; intro a hf
                refine s_nil ?_
                exact ⟨_, _, ⟨i + 1, rfl, rfl, by omega, hs⟩, by omega, hf.sub ⟨rfl, rfl, rfl, rfl, rfl, rfl, rfl, rfl, rfl, rfl, rfl, rfl, rfl, rfl, rfl, rfl, rfl, trivial⟩⟩
            · simp only [decide_eq_true_eq, decide_eq_false_iff_not, Bool.not_eq_true', Bool.not_eq_false', Bool.not_eq_true, Int.not_lt, Int.not_le] at hi3
              refine wp_exit ?_
              refine then_x ?_
              refine then_x ?_
              refine blk_x ?_
              refine then_n ?_
              refine wp_seq ?_
              refine wp_region_lit ?_
              refine s_m hf rfl ?_; clear hf a; intro a hf
              refine s_a hf rfl ?_; clear hf a; intro a hf
              refine s_a hf rfl ?_; clear hf a; intro a hf
              refine s_nil ?_
              refine then_n ?_
              refine wp_ret ?_
              refine r_2 hf Try.results9 rfl rfl ?_
              obtain rfl : i = ws.length := by omega
              rw [List.take_length] at hs
              have hE0 : E = 0 := by rw [hE]; unfold aplE; rw [if_neg (by omega), if_neg (by rw [hrt]; simp)]
              have hV0 : V = appW (baseW content n) ws := by rw [hV]; unfold aplR; rw [if_pos (by rw [← hE, hE0]), Int.toNat_natCast]
              have hVl : V.length = n := by rw [hV0, appW_len, baseW_len]
              rw [hE0, hVl]
              rw [← hV0] at hs
              exact ⟨_, _, rfl, St.ofBb hs hVl (by omega)⟩
        · clear hf
          have hf := hf'
          clear hf'
          simp only [decide_eq_true_eq, decide_eq_false_iff_not, Bool.not_eq_true', Bool.not_eq_false'] at hg8_3
          rw [base_end (n := n) (content := content) (i := i) (by omega) (by omega) (by omega)] at hs
          refine s_pass hf rfl rfl ?_; clear hf a; intro a hf
          refine s_pass hf rfl rfl ?_; clear hf a; intro a hf
          refine s_pass hf rfl rfl ?_; clear hf a; intro a hf
          refine s_pass hf rfl rfl ?_; clear hf a; intro a hf
          refine s_v hf (x_pick_f (hf.eval rfl) (hf.eval rfl)) ?_; clear hf a; intro a hf
          refine s_nil ?_
          refine then_n ?_
          refine c_cond_f hf rfl rfl ?_
          first | rw [base_end (n := n) (content := content) (i := i) (by omega) (by omega) (by omega)] at hs | skip
          refine wp_exit ?_
          refine then_x ?_
          refine then_x ?_
          refine blk_x ?_
          refine then_n ?_
          refine wp_seq ?_
          refine wp_seq ?_
          refine wp_region_lit ?_
          refine s_a hf rfl ?_; clear hf a; intro a hf
          refine s_nil ?_
          refine then_n ?_
          refine wp_block ?_
          refine c_loop (L0 := [(0, _), (1, _), (2, _), (6, _), (7, _), (9, _), (10, _), (28, _), (29, _), (30, _), (31, _), (32, _), (33, _), (34, _), (35, _), (36, _)]) (fun M w m => ∃ i : Nat, M = [(11, .int .i64 (i : Int))] ∧ ws.length - i = m ∧ i ≤ ws.length ∧ St ⟨w0, None_⟩ w [bb b 5 (appW (baseW content n) (ws.take i))]) (M0 := [(11, .int .i64 0)]) (⟨0, rfl, rfl, Nat.zero_le _, hs⟩) (hf.sub ⟨rfl, rfl, rfl, rfl, rfl, rfl, rfl, rfl, rfl, rfl, rfl, rfl, rfl, rfl, rfl, rfl, rfl, trivial⟩) ?_
          clear hf hs a
          rintro M m a w ⟨i, rfl, rfl, hi, hs⟩ hf
          refine wp_seq ?_
          refine wp_seq ?_
          refine wp_region_lit ?_
          refine s_m hf rfl ?_; clear hf a; intro a hf
          refine s_m hf rfl ?_; clear hf a; intro a hf
          refine s_v hf (x_len Try.underlying23 (hf.eval rfl)) ?_; clear hf a; intro a hf
          refine s_v hf (x_bin (hf.eval rfl) (hf.eval rfl) (r_lt _ _ _ _)) ?_; clear hf a; intro a hf
          refine s_nil ?_
          refine then_n ?_
          refine c_cond hf rfl (fun hi3 => ?_) (fun hi3 => ?_)
          · simp only [decide_eq_true_eq, decide_eq_false_iff_not, Bool.not_eq_true', Bool.not_eq_false', Bool.not_eq_true, Int.not_lt, Int.not_le] at hi3
            have hlt : i < ws.length := by omega
            obtain ⟨aw, rfl⟩ := hrw.some (by omega)
            obtain ⟨ab, ao2, rfl⟩ := rdS_plain (sz := 2) (fun _ => rfl) (by decide) hrw (by omega)
            have hgi := hgd _ (List.getElem_mem hlt)
            obtain ⟨hzi1, hzi2, hzi3⟩ := hok _ (List.getElem_mem hlt)
            have hwl0 : wL ws[i] = (ws[i].2.2.2.length : Int) := rfl
            have hal : (appW (baseW content n) (ws.take i)).length = n := by rw [appW_len, baseW_len]
            refine wp_skip ?_
            refine then_n ?_
            refine wp_seq ?_
            refine wp_block ?_
            refine wp_seq ?_
            refine wp_region_lit ?_
            refine s_a hf rfl ?_; clear hf a; intro a hf
            refine s_nil ?_
            refine then_n ?_
            refine wp_block ?_
            refine c_loop (L0 := [(0, _), (1, _), (2, _), (6, _), (7, _), (9, _), (10, _), (11, _), (28, _), (29, _), (30, _), (31, _), (32, _), (33, _), (34, _), (35, _), (36, _), (46, _), (47, _), (48, _), (49, _)]) (fun M w m => ∃ k : Nat, M = [(12, .int .i64 (k : Int))] ∧ ws[i].2.2.2.length - k = m ∧ k ≤ ws[i].2.2.2.length ∧ St ⟨w0, None_⟩ w [bb b 5 (putP (appW (baseW content n) (ws.take i)) (ws[i].1.toNat, ws[i].2.2.2.take k))]) (M0 := [(12, .int .i64 0)]) (⟨0, rfl, rfl, Nat.zero_le _, by rw [putP_zero]; exact hs⟩) (hf.sub ⟨rfl, rfl, rfl, rfl, rfl, rfl, rfl, rfl, rfl, rfl, rfl, rfl, rfl, rfl, rfl, rfl, rfl, rfl, rfl, rfl, rfl, rfl, trivial⟩) ?_
            clear hf hs a
            rintro M m a w ⟨k, rfl, rfl, hk, hs⟩ hf
            refine wp_seq ?_
            refine wp_seq ?_
            refine wp_region_lit ?_
            refine s_m hf rfl ?_; clear hf a; intro a hf
            refine s_m hf rfl ?_; clear hf a; intro a hf
            refine s_m hf rfl ?_; clear hf a; intro a hf
            refine s_v hf (x_indexAddr sl23 (hf.eval rfl) (hf.eval rfl) (by omega) (by omega)) ?_; clear hf a; intro a hf
            replace hf := hf.now (k := 55) (v' := .pointer (some ⟨ab, ao2 + i * 2, none⟩)) rfl (by rw [addr_add]; rfl)
            refine s_v hf (x_fieldAddr fo46_1 (hf.eval rfl)) ?_; clear hf a; intro a hf
            refine s_r hf (x_load sc22 (hf.eval rfl) (rdS_cellAt (f := wF) (sz := 2) (fun _ => rfl) (hs.old hrw) (k := 1) hlt rfl)) ?_; clear hf a; intro a hf
            refine s_v hf (x_len Try.underlying22 (hf.eval rfl)) ?_; clear hf a; intro a hf
            refine s_v hf (x_bin (hf.eval rfl) (hf.eval rfl) (r_lt _ _ _ _)) ?_; clear hf a; intro a hf
            refine s_nil ?_
            refine then_n ?_
            refine c_cond hf rfl (fun hi4 => ?_) (fun hi4 => ?_)
            · simp only [decide_eq_true_eq, decide_eq_false_iff_not, Bool.not_eq_true', Bool.not_eq_false', Bool.not_eq_true, Int.not_lt, Int.not_le] at hi4
              have hkl : k < ws[i].2.2.2.length := by omega
              obtain ⟨da, hda⟩ : ∃ x, ws[i].2.1 = some x := by
                rcases hgi.1.2 with ⟨c9, e9, hn9⟩ | ⟨x9, c9, e9, _⟩
                · omega
                · injection e9 with e9; exact ⟨x9, e9⟩
              have hgk : RdB (hp w0) (.slice (some da) ws[i].2.2.2.length ws[i].2.2.1) ws[i].2.2.2 := by rw [← hda]; exact hgi.1
              refine wp_skip ?_
              refine then_n ?_
              refine wp_seq ?_
              refine wp_block ?_
              refine c_draw hs (fun _ => True) [.held, .held, .held, .held, .held, .read, .held, .held, .held, .held, .held, .held, .read, .held, .held, .read, .held, .fin] (by kernel_rfl) (by kernel_rfl) (fun _ _ _ => trivial) ?_
              clear hs; intro w hs hC hw
              refine m_held hf rfl (fun w' _ => x_move (hf.eval rfl) w') ?_; clear hf a; intro a hf
              refine m_held hf rfl (fun w' _ => x_move (hf.eval rfl) w') ?_; clear hf a; intro a hf
              refine m_held hf rfl (fun w' _ => x_move (hf.eval rfl) w') ?_; clear hf a; intro a hf
              refine m_held hf rfl (fun w' _ => x_indexAddr sl23 (hf.eval rfl) (hf.eval rfl) (by omega) (by omega) w') ?_; clear hf a; intro a hf
              replace hf := hf.now (k := 65) (v' := .pointer (some ⟨ab, ao2 + i * 2, none⟩)) rfl (by rw [addr_add]; rfl)
              refine m_held hf rfl (fun w' _ => x_fieldAddr fo46_0 (hf.eval rfl) w') ?_; clear hf a; intro a hf
              refine m_read hf rfl (x_load sc3 (hf.eval rfl) (rdS_cellAt (f := wF) (sz := 2) (fun _ => rfl) (hs.old hrw) (k := 0) hlt rfl)) ?_; clear hf a; intro a hf
              refine m_held hf rfl (fun w' _ => x_move (hf.eval rfl) w') ?_; clear hf a; intro a hf
              refine m_held hf rfl (fun w' _ => x_bin (hf.eval rfl) (hf.eval rfl) (r_addi _ (by omega) (by omega)) w') ?_; clear hf a; intro a hf
              replace hf := hf.now (k := 69) (v' := .int .i64 ((ws[i].1.toNat + k : Nat) : Int)) rfl (by congr 1; omega)
              refine m_held hf rfl (fun w' _ => x_move (hf.eval rfl) w') ?_; clear hf a; intro a hf
              refine m_held hf rfl (fun w' _ => x_move (hf.eval rfl) w') ?_; clear hf a; intro a hf
              refine m_held hf rfl (fun w' _ => x_indexAddr sl23 (hf.eval rfl) (hf.eval rfl) (by omega) (by omega) w') ?_; clear hf a; intro a hf
              replace hf := hf.now (k := 72) (v' := .pointer (some ⟨ab, ao2 + i * 2, none⟩)) rfl (by rw [addr_add]; rfl)
              refine m_held hf rfl (fun w' _ => x_fieldAddr fo46_1 (hf.eval rfl) w') ?_; clear hf a; intro a hf
              refine m_read hf rfl (x_load sc22 (hf.eval rfl) (rdS_cellAt (f := wF) (sz := 2) (fun _ => rfl) (hs.old hrw) (k := 1) hlt rfl)) ?_; clear hf a; intro a hf
              replace hf := hf.now (k := 74) (v' := .slice (some da) ws[i].2.2.2.length ws[i].2.2.1) rfl (by rw [← hda])
              refine m_held hf rfl (fun w' _ => x_move (hf.eval rfl) w') ?_; clear hf a; intro a hf
              refine m_held hf rfl (fun w' _ => x_indexAddr sl22 (hf.eval rfl) (hf.eval rfl) (by omega) (by omega) w') ?_; clear hf a; intro a hf
              refine m_read hf rfl (x_loadB (i := (k : Int)) sc5 (hs.oldB hgk) (hf.eval rfl) (by simpa using hkl)) ?_; clear hf a; intro a hf
              replace hf := hf.now (k := 77) (v' := u8v ws[i].2.2.2[k]) rfl (rfl)
              refine m_held hf rfl (fun w' _ => x_indexAddr sl22 (hf.eval rfl) (hf.eval rfl) (by omega) (by omega) w') ?_; clear hf a; intro a hf
              replace hf := hf.now (k := 78) (v' := .pointer (some ⟨b, ws[i].1.toNat + k, none⟩)) rfl (by rw [at_addN])
              refine m_fin0 hf rfl (y_storeB (k := ws[i].1.toNat + k) (u := ws[i].2.2.2[k]) hs sc5 (hf.eval rfl) (hf.eval rfl) rfl (.here _) (by rw [putP_len, hal]; omega) ?_); clear hf hs a; intro w hs; intro a hf
              rw [putP_step (by rw [hal]; omega) hkl] at hs
              refine blk_n ?_
              refine then_n ?_
              refine wp_region_lit ?_
              refine s_m hf rfl ?_; clear hf a; intro a hf
              refine s_v hf (x_bin (hf.eval rfl) (hf.eval rfl) (r_addi _ (by omega) (by omega))) ?_; clear hf a; intro a hf
              refine s_a hf rfl ?_; clear hf a; intro a hf
              refine s_nil ?_
              exact ⟨_, _, ⟨k + 1, rfl, rfl, by omega, hs⟩, by omega, hf.sub ⟨rfl, rfl, rfl, rfl, rfl, rfl, rfl, rfl, rfl, rfl, rfl, rfl, rfl, rfl, rfl, rfl, rfl, rfl, rfl, rfl, rfl, rfl, trivial⟩⟩
            · simp only [decide_eq_true_eq, decide_eq_false_iff_not, Bool.not_eq_true', Bool.not_eq_false', Bool.not_eq_true, Int.not_lt, Int.not_le] at hi4
              rw [show List.take k ws[i].2.2.2 = ws[i].2.2.2 from List.take_of_length_le (by omega), ← appW_succ hlt] at hs
              refine wp_exit ?_
              refine then_x ?_
              refine then_x ?_
              refine blk_x ?_
              refine blk_n ?_
              refine then_n ?_
              refine wp_region_lit ?_
              refine s_m hf rfl ?_; clear hf a; intro a hf
              refine s_v hf (x_bin (hf.eval rfl) (hf.eval rfl) (r_addi _ (by omega) (by omega))) ?_; clear hf a; intro a hf
              refine s_a hf rfl ?_; clear hf a; intro a hf
              refine s_nil ?_
              exact ⟨_, _, ⟨i + 1, rfl, rfl, by omega, hs⟩, by omega, hf.sub ⟨rfl, rfl, rfl, rfl, rfl, rfl, rfl, rfl, rfl, rfl, rfl, rfl, rfl, rfl, rfl, rfl, rfl, trivial⟩⟩
          · simp only [decide_eq_true_eq, decide_eq_false_iff_not, Bool.not_eq_true', Bool.not_eq_false', Bool.not_eq_true, Int.not_lt, Int.not_le] at hi3
            refine wp_exit ?_
            refine then_x ?_
            refine then_x ?_
            refine blk_x ?_
            refine then_n ?_
            refine wp_seq ?_
            refine wp_region_lit ?_
            refine s_m hf rfl ?_; clear hf a; intro a hf
            refine s_a hf rfl ?_; clear hf a; intro a hf
            refine s_a hf rfl ?_; clear hf a; intro a hf
            refine s_nil ?_
            refine then_n ?_
            refine wp_ret ?_
            refine r_2 hf Try.results9 rfl rfl ?_
            obtain rfl : i = ws.length := by omega
            rw [List.take_length] at hs
            have hE0 : E = 0 := by rw [hE]; unfold aplE; rw [if_neg (by omega), if_neg (by rw [hrt]; simp)]
            have hV0 : V = appW (baseW content n) ws := by rw [hV]; unfold aplR; rw [if_pos (by rw [← hE, hE0]), Int.toNat_natCast]
            have hVl : V.length = n := by rw [hV0, appW_len, baseW_len]
            rw [hE0, hVl]
            rw [← hV0] at hs
            exact ⟨_, _, rfl, St.ofBb hs hVl (by omega)⟩

theorem framedWrites_own (w0 : World) (aw : Option Addr) (cw : Nat) (ws : List Wr) (hrw : RdS wF 2 (hp w0) (.slice aw ws.length cw) ws) (hlw : ws.length ≤ 1048576) (hgd : ∀ z ∈ ws, RdB (hp w0) (.slice z.2.1 z.2.2.2.length z.2.2.1) z.2.2.2 ∧ z.2.2.2.length ≤ 1048576) : Calls Try.prog 7 #[.slice aw ws.length cw] w0 fun e w' => ∃ (a : Option Addr) (c : Nat) (a2 : Option Addr) (c2 : Nat) (us : List Wr), e = .returned (.tuple #[.slice a us.length c, .slice a2 us.length c2]) ∧ us.length = ws.length ∧ us.map dkW = ws.map dkW ∧ St ⟨w0, None_⟩ w' [sl 46 2 (.slice a us.length c) us.length (us.flatMap wF), sl 22 1 (.slice a2 us.length c2) us.length (us.flatMap fA), rowG us.reverse] := by
  have hs := (((St.start w0 None_).emp (A := rowG []) (fun h => trivial)).emp (A := sl 22 1 (.slice none 0 0) 0 []) (fun h => ⟨rfl, .inl ⟨rfl, rfl⟩⟩)).emp (A := sl 46 2 (.slice none 0 0) 0 []) (fun h => ⟨rfl, .inl ⟨rfl, rfl⟩⟩)
  refine c_enter (N := 43) Try.func7 rfl Try.ntmps7 (by simp) ?_
  intro a hf
  refine wp_seq ?_
  refine wp_region_lit ?_
  refine s_a hf rfl ?_; clear hf a; intro a hf
  refine s_a hf rfl ?_; clear hf a; intro a hf
  refine s_nil ?_
  refine then_n ?_
  refine wp_seq ?_
  refine wp_region_lit ?_
  refine s_a hf rfl ?_; clear hf a; intro a hf
  refine s_nil ?_
  refine then_n ?_
  refine wp_seq ?_
  refine wp_region_lit ?_
  refine s_a hf rfl ?_; clear hf a; intro a hf
  refine s_nil ?_
  refine then_n ?_
  refine wp_seq ?_
  refine wp_seq ?_
  refine wp_region_lit ?_
  refine s_a hf rfl ?_; clear hf a; intro a hf
  refine s_nil ?_
  refine then_n ?_
  refine wp_block ?_
  refine c_loop (L0 := [(0, _), (2, _), (3, _)]) (fun M w m => ∃ (i : Nat) (v v2 : Value) (us : List Wr), M = [(4, v), (5, v2), (6, .int .i64 (i : Int))] ∧ ws.length - i = m ∧ i ≤ ws.length ∧ us.length = i ∧ us.map dkW = (ws.take i).map dkW ∧ St ⟨w0, None_⟩ w [sl 46 2 v us.length (us.flatMap wF), sl 22 1 v2 us.length (us.flatMap fA), rowG us.reverse]) (M0 := [(4, .slice none 0 0), (5, .slice none 0 0), (6, .int .i64 0)]) (⟨0, _, _, [], rfl, rfl, Nat.zero_le _, rfl, rfl, hs⟩) (hf.sub ⟨rfl, rfl, rfl, rfl, rfl, rfl, trivial⟩) ?_
  clear hf hs a
  rintro M m a w ⟨i, v, v2, us, rfl, rfl, hi, hul, huk, hs⟩ hf
  refine wp_seq ?_
  refine wp_seq ?_
  refine wp_region_lit ?_
  refine s_m hf rfl ?_; clear hf a; intro a hf
  refine s_m hf rfl ?_; clear hf a; intro a hf
  refine s_v hf (x_len Try.underlying23 (hf.eval rfl)) ?_; clear hf a; intro a hf
  refine s_v hf (x_bin (hf.eval rfl) (hf.eval rfl) (r_lt _ _ _ _)) ?_; clear hf a; intro a hf
  refine s_nil ?_
  refine then_n ?_
  refine c_cond hf rfl (fun hi0 => ?_) (fun hi0 => ?_)
  · simp only [decide_eq_true_eq, decide_eq_false_iff_not, Bool.not_eq_true', Bool.not_eq_false', Bool.not_eq_true, Int.not_lt, Int.not_le] at hi0
    have hlt : i < ws.length := by omega
    obtain ⟨aw, rfl⟩ := hrw.some (by omega)
    obtain ⟨ab, ao2, rfl⟩ := rdS_plain (sz := 2) (fun _ => rfl) (by decide) hrw (by omega)
    have hg := hgd _ (List.getElem_mem hlt)
    refine wp_skip ?_
    refine then_n ?_
    refine wp_seq ?_
    refine wp_block ?_
    refine wp_seq ?_
    refine wp_region_lit ?_
    refine s_m hf rfl ?_; clear hf a; intro a hf
    refine s_m hf rfl ?_; clear hf a; intro a hf
    refine s_v hf (x_indexAddr sl23 (hf.eval rfl) (hf.eval rfl) (by omega) (by omega)) ?_; clear hf a; intro a hf
    replace hf := hf.now (k := 16) (v' := .pointer (some ⟨ab, ao2 + i * 2, none⟩)) rfl (by rw [addr_add]; rfl)
    refine s_v hf (x_fieldAddr fo46_1 (hf.eval rfl)) ?_; clear hf a; intro a hf
    refine s_r hf (x_load sc22 (hf.eval rfl) (rdS_cellAt (f := wF) (sz := 2) (fun _ => rfl) (hs.old hrw) (k := 1) hlt rfl)) ?_; clear hf a; intro a hf
    refine s_do hf rfl (y_call (hf.eval rfl) (hf.evals rfl) Try.call6 ((framed_spec _ _ _ ws[i].2.2.2 (hs.oldB hg.1) (by omega)).mono ?_))
    rintro e w1 ⟨b9, c9, rfl, hc9, hj⟩
    replace hs := hs.join hj
    simp only [List.cons_append, List.nil_append] at hs
    refine ⟨_, rfl, ?_⟩; clear hf a; intro a hf
    refine s_a hf rfl ?_; clear hf a; intro a hf
    refine s_nil ?_
    refine then_n ?_
    refine wp_seq ?_
    refine c_draw hs (fun w' => Kept w0 w' None_) [.held, .held, .held, .held, .held, .held, .held, .held, .held, .held, .held, .held, .held, .held, .held, .eff, .eff, .held] (by kernel_rfl) (by kernel_rfl) (fun w' _ hs => hs.kept) ?_
    clear hs; intro w hs hC hw
    refine m_held hf rfl (fun w' _ => x_move (hf.eval rfl) w') ?_; clear hf a; intro a hf
    refine m_held hf rfl (fun w' _ => x_move (hf.eval rfl) w') ?_; clear hf a; intro a hf
    refine m_held hf rfl (fun w' _ => x_move (hf.eval rfl) w') ?_; clear hf a; intro a hf
    refine m_held hf rfl (fun w' _ => x_indexAddr sl23 (hf.eval rfl) (hf.eval rfl) (by omega) (by omega) w') ?_; clear hf a; intro a hf
    replace hf := hf.now (k := 23) (v' := .pointer (some ⟨ab, ao2 + i * 2, none⟩)) rfl (by rw [addr_add]; rfl)
    refine m_held hf rfl (fun w' _ => x_fieldAddr fo46_0 (hf.eval rfl) w') ?_; clear hf a; intro a hf
    refine m_held hf rfl (fun w' hc => x_load sc3 (hf.eval rfl) (rdS_cellAt (f := wF) (sz := 2) (fun _ => rfl) (RdC.mono hc.hle hrw) (k := 0) hlt rfl)) ?_; clear hf a; intro a hf
    refine m_held hf rfl (fun w' _ => x_move (hf.eval rfl) w') ?_; clear hf a; intro a hf
    refine m_held hf rfl (fun w' _ => x_move (hf.eval rfl) w') ?_; clear hf a; intro a hf
    refine m_held hf rfl (fun w' _ => x_move (hf.eval rfl) w') ?_; clear hf a; intro a hf
    refine m_held hf rfl (fun w' _ => x_indexAddr sl23 (hf.eval rfl) (hf.eval rfl) (by omega) (by omega) w') ?_; clear hf a; intro a hf
    replace hf := hf.now (k := 29) (v' := .pointer (some ⟨ab, ao2 + i * 2, none⟩)) rfl (by rw [addr_add]; rfl)
    refine m_held hf rfl (fun w' _ => x_fieldAddr fo46_1 (hf.eval rfl) w') ?_; clear hf a; intro a hf
    refine m_held hf rfl (fun w' hc => x_load sc22 (hf.eval rfl) (rdS_cellAt (f := wF) (sz := 2) (fun _ => rfl) (RdC.mono hc.hle hrw) (k := 1) hlt rfl)) ?_; clear hf a; intro a hf
    refine m_held hf rfl (fun w' _ => x_len Try.underlying22 (hf.eval rfl) w') ?_; clear hf a; intro a hf
    refine m_held hf rfl (fun w' _ => x_slice_hi sl22 (hf.eval rfl) (hf.eval rfl)  (by omega) (by omega) w') ?_; clear hf a; intro a hf
    replace hf := hf.now (k := 33) (v' := .slice (some ⟨b9, 0, none⟩) ws[i].2.2.2.length c9) rfl (rfl)
    refine m_held hf rfl (fun w' hc => x_build (v := .agg #[.int .i64 ws[i].1, .slice (some ⟨b9, 0, none⟩) ws[i].2.2.2.length c9]) (hf.parts rfl) (fun w => by kernel_rfl) _) ?_; clear hf a; intro a hf
    refine m_eff hf rfl (y_lit (xs := [.tmp 34]) hs sl23 (hf.evals rfl) rfl (by simp [Value.cells]) (by decide) ?_); clear hf hs a; intro b2 w hs; refine ⟨hs.kept, ?_⟩; intro a hf
    refine m_eff hf rfl (y_append (n := us.length) (m := 1) (ys := [.int .i64 ws[i].1, .slice (some ⟨b9, 0, none⟩) ws[i].2.2.2.length c9]) hs sl23 (hf.eval rfl) (hf.eval rfl) (.there _ (.there _ (.here _))) (hs.rd (.here _) fun h hb => rd_rows hb rfl) (by simp [Value.oneCell']) (by omega) (by rw [maxLen_eq]; omega) ?_); clear hf hs a; intro v5 w hs hv; refine ⟨hs.kept, ?_⟩; intro a hf
    replace hs := hs.lose (.there _ (.here _))
    refine m_held hf rfl (fun w' _ => x_assign (hf.eval rfl) w') ?_; clear hf a; intro a hf
    refine m_nil ?_
    refine then_n ?_
    refine wp_region_lit ?_
    refine s_m hf rfl ?_; clear hf a; intro a hf
    refine s_m hf rfl ?_; clear hf a; intro a hf
    refine s_do hf rfl (y_lit (xs := [.tmp 38]) hs sl25 (hf.evals rfl) rfl (by simp [Value.cells]) (by decide) ?_); clear hf hs a; intro b2 w hs a hf
    refine s_do hf rfl (y_append (n := us.length) (m := 1) (ys := [.slice (some ⟨b9, 0, none⟩) (ws[i].2.2.2.length + 4) c9]) hs sl25 (hf.eval rfl) (hf.eval rfl) (.there _ (.there _ (.there _ (.here _)))) (hs.rd (.here _) fun h hb => rd_row hb rfl) (by simp [Value.oneCell']) (by omega) (by rw [maxLen_eq]; omega) ?_); clear hf hs a; intro v6 w hs hv a hf
    replace hs := hs.lose (.there _ (.here _))
    have hs5 : St ⟨w0, None_⟩ w [sl 46 2 v5 (us ++ [((ws[i].1, some (⟨b9, 0, none⟩ : Addr), c9, ws[i].2.2.2) : Wr)]).length ((us ++ [((ws[i].1, some (⟨b9, 0, none⟩ : Addr), c9, ws[i].2.2.2) : Wr)]).flatMap wF), sl 22 1 v6 (us ++ [((ws[i].1, some (⟨b9, 0, none⟩ : Addr), c9, ws[i].2.2.2) : Wr)]).length ((us ++ [((ws[i].1, some (⟨b9, 0, none⟩ : Addr), c9, ws[i].2.2.2) : Wr)]).flatMap fA), rowG (us ++ [((ws[i].1, some (⟨b9, 0, none⟩ : Addr), c9, ws[i].2.2.2) : Wr)]).reverse] := by
      rw [List.reverse_concat, List.length_append, List.flatMap_append, List.flatMap_append]
      exact ((((hs.take (.there _ (.there _ (.there _ (.here _))))).take (.there _ (.there _ (.there _ (.here _))))).unstar).take (.there _ (.here _))).take (.there _ (.there _ (.here _)))
    refine s_a hf rfl ?_; clear hf a; intro a hf
    refine s_nil ?_
    refine blk_n ?_
    refine then_n ?_
    refine wp_region_lit ?_
    refine s_m hf rfl ?_; clear hf a; intro a hf
    refine s_v hf (x_bin (hf.eval rfl) (hf.eval rfl) (r_addi _ (by omega) (by omega))) ?_; clear hf a; intro a hf
    refine s_a hf rfl ?_; clear hf a; intro a hf
    refine s_nil ?_
    exact ⟨_, _, ⟨i + 1, _, _, us ++ [((ws[i].1, some (⟨b9, 0, none⟩ : Addr), c9, ws[i].2.2.2) : Wr)], rfl, rfl, by omega, by simp; omega, by rw [List.take_succ_eq_append_getElem hlt, List.map_append, List.map_append, huk]; rfl, hs5⟩, by omega, hf.sub ⟨rfl, rfl, rfl, rfl, rfl, rfl, trivial⟩⟩
  · simp only [decide_eq_true_eq, decide_eq_false_iff_not, Bool.not_eq_true', Bool.not_eq_false', Bool.not_eq_true, Int.not_lt, Int.not_le] at hi0
    refine wp_exit ?_
    refine then_x ?_
    refine then_x ?_
    refine blk_x ?_
    refine then_n ?_
    refine wp_seq ?_
    refine wp_region_lit ?_
    refine s_m hf rfl ?_; clear hf a; intro a hf
    refine s_m hf rfl ?_; clear hf a; intro a hf
    refine s_a hf rfl ?_; clear hf a; intro a hf
    refine s_a hf rfl ?_; clear hf a; intro a hf
    refine s_nil ?_
    refine then_n ?_
    refine wp_ret ?_
    refine r_2 hf Try.results7 rfl rfl ?_
    have hi9 : i = ws.length := by omega
    obtain ⟨a5, c5, rfl⟩ := sl_shape hs
    obtain ⟨a6, c6, rfl⟩ := sl_shape (hs.take (.there _ (.here _)))
    exact ⟨a5, c5, a6, c6, us, rfl, by omega, by rw [huk, hi9, List.take_length], hs⟩

theorem applies_spec (w0 : World) (a1 : Option Addr) (c1 : Nat) (content : List UInt8) (hr1 : RdB (hp w0) (.slice a1 content.length c1) content) (hl1 : content.length ≤ 140737488351232) (size : Int) (aw : Option Addr) (cw : Nat) (ws : List Wr) (hrw : RdS wF 2 (hp w0) (.slice aw ws.length cw) ws) (hlw : ws.length ≤ 1048576) (hgd : ∀ z ∈ ws, RdB (hp w0) (.slice z.2.1 z.2.2.2.length z.2.2.1) z.2.2.2 ∧ z.2.2.2.length ≤ 1048576) : Calls Try.prog 3 #[.slice a1 content.length c1, .int .i64 size, .slice aw ws.length cw] w0 fun e w' => e = .returned (.bool true) ∧ Kept w0 w' None_ := by
  have hs := St.start w0 None_
  obtain ⟨V, hV⟩ : ∃ V, V = aplR content size ws := ⟨_, rfl⟩
  obtain ⟨E, hE⟩ : ∃ E, E = aplE content.length size ws := ⟨_, rfl⟩
  have hVl : V.length ≤ 16777216 := by rw [hV]; exact aplR_len _ _ _
  refine c_enter (N := 86) Try.func3 rfl Try.ntmps3 (by simp) ?_
  intro a hf
  refine wp_seq ?_
  refine wp_region_lit ?_
  refine s_a hf rfl ?_; clear hf a; intro a hf
  refine s_nil ?_
  refine then_n ?_
  refine wp_seq ?_
  refine wp_region_lit ?_
  refine s_m hf rfl ?_; clear hf a; intro a hf
  refine s_do hf rfl (y_call (hf.eval rfl) (hf.evals rfl) Try.call6 ((framed_spec w0 _ _ content hr1 hl1).mono ?_))
  rintro e w1 ⟨b1, cf, rfl, hcf, hj⟩
  replace hs := hs.join hj
  simp only [List.cons_append, List.nil_append] at hs
  refine ⟨_, rfl, ?_⟩; clear hf a; intro a hf
  refine s_a hf rfl ?_; clear hf a; intro a hf
  refine s_nil ?_
  refine then_n ?_
  refine wp_seq ?_
  refine wp_region_lit ?_
  refine s_m hf rfl ?_; clear hf a; intro a hf
  refine s_m hf rfl ?_; clear hf a; intro a hf
  refine s_v hf (x_len Try.underlying22 (hf.eval rfl)) ?_; clear hf a; intro a hf
  refine s_v hf (x_slice_hi sl22 (hf.eval rfl) (hf.eval rfl)  (by omega) (by omega)) ?_; clear hf a; intro a hf
  replace hf := hf.now (k := 23) (v' := .slice (some ⟨b1, 0, none⟩) content.length cf) rfl (rfl)
  refine s_a hf rfl ?_; clear hf a; intro a hf
  refine s_nil ?_
  refine then_n ?_
  refine wp_seq ?_
  refine wp_region_lit ?_
  refine s_m hf rfl ?_; clear hf a; intro a hf
  refine s_do hf rfl (y_call (hf.eval rfl) (hf.evals rfl) Try.call7 ((framedWrites_own _ _ _ ws (hs.old hrw) hlw (fun z hz => ⟨hs.oldB (hgd z hz).1, (hgd z hz).2⟩)).mono ?_))
  rintro e w1 ⟨a5, c5, a6, c6, us, rfl, hul, huk, hj⟩
  replace hs := hs.join hj
  simp only [List.cons_append, List.nil_append] at hs
  refine ⟨_, rfl, ?_⟩; clear hf a; intro a hf
  refine s_m hf rfl ?_; clear hf a; intro a hf
  refine s_v hf (x_extract (hf.eval rfl) rfl) ?_; clear hf a; intro a hf
  refine s_v hf (x_extract (hf.eval rfl) rfl) ?_; clear hf a; intro a hf
  refine s_a hf rfl ?_; clear hf a; intro a hf
  refine s_a hf rfl ?_; clear hf a; intro a hf
  refine s_nil ?_
  refine then_n ?_
  refine wp_seq ?_
  refine wp_region_lit ?_
  refine s_m hf rfl ?_; clear hf a; intro a hf
  refine s_m hf rfl ?_; clear hf a; intro a hf
  refine s_m hf rfl ?_; clear hf a; intro a hf
  replace hs := hs.take (A := slB 5 (.slice (some ⟨b1, 0, none⟩) (content.length + 4) cf) (content ++ [0xC0, 0xC1, 0xC2, 0xC3])) (by first | exact .here _ | exact .there _ (.here _) | exact .there _ (.there _ (.here _)) | exact .there _ (.there _ (.there _ (.here _))) | exact .there _ (.there _ (.there _ (.there _ (.here _)))) | exact .there _ (.there _ (.there _ (.there _ (.there _ (.here _))))) | exact .there _ (.there _ (.there _ (.there _ (.there _ (.there _ (.here _)))))) | exact .there _ (.there _ (.there _ (.there _ (.there _ (.there _ (.there _ (.here _))))))) | exact .there _ (.there _ (.there _ (.there _ (.there _ (.there _ (.there _ (.there _ (.here _)))))))) | exact .there _ (.there _ (.there _ (.there _ (.there _ (.there _ (.there _ (.there _ (.there _ (.here _))))))))) | exact .there _ (.there _ (.there _ (.there _ (.there _ (.there _ (.there _ (.there _ (.there _ (.there _ (.here _)))))))))) | exact .there _ (.there _ (.there _ (.there _ (.there _ (.there _ (.there _ (.there _ (.there _ (.there _ (.there _ (.here _))))))))))))
  have hru : RdS wF 2 (hp _) (.slice a5 us.length c5) us := hs.rd (A := sl 46 2 (.slice a5 us.length c5) us.length (us.flatMap wF)) (by first | exact .here _ | exact .there _ (.here _) | exact .there _ (.there _ (.here _)) | exact .there _ (.there _ (.there _ (.here _))) | exact .there _ (.there _ (.there _ (.there _ (.here _)))) | exact .there _ (.there _ (.there _ (.there _ (.there _ (.here _))))) | exact .there _ (.there _ (.there _ (.there _ (.there _ (.there _ (.here _)))))) | exact .there _ (.there _ (.there _ (.there _ (.there _ (.there _ (.there _ (.here _))))))) | exact .there _ (.there _ (.there _ (.there _ (.there _ (.there _ (.there _ (.there _ (.here _)))))))) | exact .there _ (.there _ (.there _ (.there _ (.there _ (.there _ (.there _ (.there _ (.there _ (.here _))))))))) | exact .there _ (.there _ (.there _ (.there _ (.there _ (.there _ (.there _ (.there _ (.there _ (.there _ (.here _)))))))))) | exact .there _ (.there _ (.there _ (.there _ (.there _ (.there _ (.there _ (.there _ (.there _ (.there _ (.there _ (.here _))))))))))) | exact .there _ (.there _ (.there _ (.there _ (.there _ (.there _ (.there _ (.there _ (.there _ (.there _ (.there _ (.there _ (.here _)))))))))))) | exact .there _ (.there _ (.there _ (.there _ (.there _ (.there _ (.there _ (.there _ (.there _ (.there _ (.there _ (.there _ (.there _ (.here _)))))))))))))) (fun h hh => sl_rd hh)
  have hra : RdS fA 1 (hp _) (.slice a6 us.length c6) us := hs.rd (A := sl 22 1 (.slice a6 us.length c6) us.length (us.flatMap fA)) (by first | exact .here _ | exact .there _ (.here _) | exact .there _ (.there _ (.here _)) | exact .there _ (.there _ (.there _ (.here _))) | exact .there _ (.there _ (.there _ (.there _ (.here _)))) | exact .there _ (.there _ (.there _ (.there _ (.there _ (.here _))))) | exact .there _ (.there _ (.there _ (.there _ (.there _ (.there _ (.here _)))))) | exact .there _ (.there _ (.there _ (.there _ (.there _ (.there _ (.there _ (.here _))))))) | exact .there _ (.there _ (.there _ (.there _ (.there _ (.there _ (.there _ (.there _ (.here _)))))))) | exact .there _ (.there _ (.there _ (.there _ (.there _ (.there _ (.there _ (.there _ (.there _ (.here _))))))))) | exact .there _ (.there _ (.there _ (.there _ (.there _ (.there _ (.there _ (.there _ (.there _ (.there _ (.here _)))))))))) | exact .there _ (.there _ (.there _ (.there _ (.there _ (.there _ (.there _ (.there _ (.there _ (.there _ (.there _ (.here _))))))))))) | exact .there _ (.there _ (.there _ (.there _ (.there _ (.there _ (.there _ (.there _ (.there _ (.there _ (.there _ (.there _ (.here _)))))))))))) | exact .there _ (.there _ (.there _ (.there _ (.there _ (.there _ (.there _ (.there _ (.there _ (.there _ (.there _ (.there _ (.there _ (.here _)))))))))))))) (fun h hh => sl_rd hh)
  have hG := seeG (hs.take (A := rowG us.reverse) (by first | exact .here _ | exact .there _ (.here _) | exact .there _ (.there _ (.here _)) | exact .there _ (.there _ (.there _ (.here _))) | exact .there _ (.there _ (.there _ (.there _ (.here _)))) | exact .there _ (.there _ (.there _ (.there _ (.there _ (.here _))))) | exact .there _ (.there _ (.there _ (.there _ (.there _ (.there _ (.here _)))))) | exact .there _ (.there _ (.there _ (.there _ (.there _ (.there _ (.there _ (.here _))))))) | exact .there _ (.there _ (.there _ (.there _ (.there _ (.there _ (.there _ (.there _ (.here _)))))))) | exact .there _ (.there _ (.there _ (.there _ (.there _ (.there _ (.there _ (.there _ (.there _ (.here _))))))))) | exact .there _ (.there _ (.there _ (.there _ (.there _ (.there _ (.there _ (.there _ (.there _ (.there _ (.here _)))))))))) | exact .there _ (.there _ (.there _ (.there _ (.there _ (.there _ (.there _ (.there _ (.there _ (.there _ (.there _ (.here _))))))))))) | exact .there _ (.there _ (.there _ (.there _ (.there _ (.there _ (.there _ (.there _ (.there _ (.there _ (.there _ (.there _ (.here _)))))))))))) | exact .there _ (.there _ (.there _ (.there _ (.there _ (.there _ (.there _ (.there _ (.there _ (.there _ (.there _ (.there _ (.there _ (.here _)))))))))))))))
  refine s_do hf rfl (y_call (hf.eval rfl) (hf.evals rfl) Try.call8 ((apply_spec _ _ cf content (pre4 rfl (hs.rdB (.here _) fun h => slB_rd)) hl1 size a5 c5 us hru (by omega) (fun z hz => ⟨(hG z hz).pre (RdB.cap (hG z hz)), dk_len huk (fun y hy => (hgd y hy).2) z hz⟩) V (hV.trans (aplR_dk content size huk).symm) E (hE.trans (aplE_dk content.length size huk).symm)).mono ?_))
  rintro e w1 ⟨g1, fg1, rfl, hj⟩
  replace hs := hs.join hj
  simp only [List.cons_append, List.nil_append] at hs
  refine ⟨_, rfl, ?_⟩; clear hf a; intro a hf
  refine s_m hf rfl ?_; clear hf a; intro a hf
  refine s_v hf (x_extract (hf.eval rfl) rfl) ?_; clear hf a; intro a hf
  refine s_v hf (x_extract (hf.eval rfl) rfl) ?_; clear hf a; intro a hf
  refine s_a hf rfl ?_; clear hf a; intro a hf
  refine s_a hf rfl ?_; clear hf a; intro a hf
  refine s_nil ?_
  refine then_n ?_
  refine wp_seq ?_
  refine wp_region_lit ?_
  refine s_m hf rfl ?_; clear hf a; intro a hf
  refine s_m hf rfl ?_; clear hf a; intro a hf
  refine s_m hf rfl ?_; clear hf a; intro a hf
  refine s_do hf rfl (y_call (hf.eval rfl) (hf.evals rfl) Try.call9 ((rapply_spec _ a1 c1 content (hs.oldB hr1) hl1 size _ _ ws (hs.old hrw) hlw (fun z hz => ⟨hs.oldB (hgd z hz).1, (hgd z hz).2⟩) V hV E hE).mono ?_))
  rintro e w1 ⟨g2, fg2, rfl, hj⟩
  replace hs := hs.join hj
  simp only [List.cons_append, List.nil_append] at hs
  refine ⟨_, rfl, ?_⟩; clear hf a; intro a hf
  refine s_m hf rfl ?_; clear hf a; intro a hf
  refine s_v hf (x_extract (hf.eval rfl) rfl) ?_; clear hf a; intro a hf
  refine s_v hf (x_extract (hf.eval rfl) rfl) ?_; clear hf a; intro a hf
  refine s_a hf rfl ?_; clear hf a; intro a hf
  refine s_a hf rfl ?_; clear hf a; intro a hf
  refine s_nil ?_
  refine then_n ?_
  refine wp_seq ?_
  refine wp_region_lit ?_
  refine s_m hf rfl ?_; clear hf a; intro a hf
  refine s_m hf rfl ?_; clear hf a; intro a hf
  refine s_m hf rfl ?_; clear hf a; intro a hf
  replace hs := hs.take (A := slB 5 (.slice (some ⟨b1, 0, none⟩) (content.length + 4) cf) (content ++ [0xC0, 0xC1, 0xC2, 0xC3])) (by first | exact .here _ | exact .there _ (.here _) | exact .there _ (.there _ (.here _)) | exact .there _ (.there _ (.there _ (.here _))) | exact .there _ (.there _ (.there _ (.there _ (.here _)))) | exact .there _ (.there _ (.there _ (.there _ (.there _ (.here _))))) | exact .there _ (.there _ (.there _ (.there _ (.there _ (.there _ (.here _)))))) | exact .there _ (.there _ (.there _ (.there _ (.there _ (.there _ (.there _ (.here _))))))) | exact .there _ (.there _ (.there _ (.there _ (.there _ (.there _ (.there _ (.there _ (.here _)))))))) | exact .there _ (.there _ (.there _ (.there _ (.there _ (.there _ (.there _ (.there _ (.there _ (.here _))))))))) | exact .there _ (.there _ (.there _ (.there _ (.there _ (.there _ (.there _ (.there _ (.there _ (.there _ (.here _)))))))))) | exact .there _ (.there _ (.there _ (.there _ (.there _ (.there _ (.there _ (.there _ (.there _ (.there _ (.there _ (.here _))))))))))))
  have hru : RdS wF 2 (hp _) (.slice a5 us.length c5) us := hs.rd (A := sl 46 2 (.slice a5 us.length c5) us.length (us.flatMap wF)) (by first | exact .here _ | exact .there _ (.here _) | exact .there _ (.there _ (.here _)) | exact .there _ (.there _ (.there _ (.here _))) | exact .there _ (.there _ (.there _ (.there _ (.here _)))) | exact .there _ (.there _ (.there _ (.there _ (.there _ (.here _))))) | exact .there _ (.there _ (.there _ (.there _ (.there _ (.there _ (.here _)))))) | exact .there _ (.there _ (.there _ (.there _ (.there _ (.there _ (.there _ (.here _))))))) | exact .there _ (.there _ (.there _ (.there _ (.there _ (.there _ (.there _ (.there _ (.here _)))))))) | exact .there _ (.there _ (.there _ (.there _ (.there _ (.there _ (.there _ (.there _ (.there _ (.here _))))))))) | exact .there _ (.there _ (.there _ (.there _ (.there _ (.there _ (.there _ (.there _ (.there _ (.there _ (.here _)))))))))) | exact .there _ (.there _ (.there _ (.there _ (.there _ (.there _ (.there _ (.there _ (.there _ (.there _ (.there _ (.here _))))))))))) | exact .there _ (.there _ (.there _ (.there _ (.there _ (.there _ (.there _ (.there _ (.there _ (.there _ (.there _ (.there _ (.here _)))))))))))) | exact .there _ (.there _ (.there _ (.there _ (.there _ (.there _ (.there _ (.there _ (.there _ (.there _ (.there _ (.there _ (.there _ (.here _)))))))))))))) (fun h hh => sl_rd hh)
  have hra : RdS fA 1 (hp _) (.slice a6 us.length c6) us := hs.rd (A := sl 22 1 (.slice a6 us.length c6) us.length (us.flatMap fA)) (by first | exact .here _ | exact .there _ (.here _) | exact .there _ (.there _ (.here _)) | exact .there _ (.there _ (.there _ (.here _))) | exact .there _ (.there _ (.there _ (.there _ (.here _)))) | exact .there _ (.there _ (.there _ (.there _ (.there _ (.here _))))) | exact .there _ (.there _ (.there _ (.there _ (.there _ (.there _ (.here _)))))) | exact .there _ (.there _ (.there _ (.there _ (.there _ (.there _ (.there _ (.here _))))))) | exact .there _ (.there _ (.there _ (.there _ (.there _ (.there _ (.there _ (.there _ (.here _)))))))) | exact .there _ (.there _ (.there _ (.there _ (.there _ (.there _ (.there _ (.there _ (.there _ (.here _))))))))) | exact .there _ (.there _ (.there _ (.there _ (.there _ (.there _ (.there _ (.there _ (.there _ (.there _ (.here _)))))))))) | exact .there _ (.there _ (.there _ (.there _ (.there _ (.there _ (.there _ (.there _ (.there _ (.there _ (.there _ (.here _))))))))))) | exact .there _ (.there _ (.there _ (.there _ (.there _ (.there _ (.there _ (.there _ (.there _ (.there _ (.there _ (.there _ (.here _)))))))))))) | exact .there _ (.there _ (.there _ (.there _ (.there _ (.there _ (.there _ (.there _ (.there _ (.there _ (.there _ (.there _ (.there _ (.here _)))))))))))))) (fun h hh => sl_rd hh)
  have hG := seeG (hs.take (A := rowG us.reverse) (by first | exact .here _ | exact .there _ (.here _) | exact .there _ (.there _ (.here _)) | exact .there _ (.there _ (.there _ (.here _))) | exact .there _ (.there _ (.there _ (.there _ (.here _)))) | exact .there _ (.there _ (.there _ (.there _ (.there _ (.here _))))) | exact .there _ (.there _ (.there _ (.there _ (.there _ (.there _ (.here _)))))) | exact .there _ (.there _ (.there _ (.there _ (.there _ (.there _ (.there _ (.here _))))))) | exact .there _ (.there _ (.there _ (.there _ (.there _ (.there _ (.there _ (.there _ (.here _)))))))) | exact .there _ (.there _ (.there _ (.there _ (.there _ (.there _ (.there _ (.there _ (.there _ (.here _))))))))) | exact .there _ (.there _ (.there _ (.there _ (.there _ (.there _ (.there _ (.there _ (.there _ (.there _ (.here _)))))))))) | exact .there _ (.there _ (.there _ (.there _ (.there _ (.there _ (.there _ (.there _ (.there _ (.there _ (.there _ (.here _))))))))))) | exact .there _ (.there _ (.there _ (.there _ (.there _ (.there _ (.there _ (.there _ (.there _ (.there _ (.there _ (.there _ (.here _)))))))))))) | exact .there _ (.there _ (.there _ (.there _ (.there _ (.there _ (.there _ (.there _ (.there _ (.there _ (.there _ (.there _ (.there _ (.here _)))))))))))))))
  refine s_do hf rfl (y_call (hf.eval rfl) (hf.evals rfl) Try.call8 ((apply_spec _ _ cf content (pre4 rfl (hs.rdB (.here _) fun h => slB_rd)) hl1 size a5 c5 us hru (by omega) (fun z hz => ⟨(hG z hz).pre (RdB.cap (hG z hz)), dk_len huk (fun y hy => (hgd y hy).2) z hz⟩) V (hV.trans (aplR_dk content size huk).symm) E (hE.trans (aplE_dk content.length size huk).symm)).mono ?_))
  rintro e w1 ⟨g3, fg3, rfl, hj⟩
  replace hs := hs.join hj
  simp only [List.cons_append, List.nil_append] at hs
  refine ⟨_, rfl, ?_⟩; clear hf a; intro a hf
  refine s_m hf rfl ?_; clear hf a; intro a hf
  refine s_v hf (x_extract (hf.eval rfl) rfl) ?_; clear hf a; intro a hf
  refine s_v hf (x_extract (hf.eval rfl) rfl) ?_; clear hf a; intro a hf
  refine s_a hf rfl ?_; clear hf a; intro a hf
  refine s_a hf rfl ?_; clear hf a; intro a hf
  refine s_nil ?_
  refine then_n ?_
  refine wp_seq ?_
  refine wp_region_lit ?_
  refine s_m hf rfl ?_; clear hf a; intro a hf
  refine s_m hf rfl ?_; clear hf a; intro a hf
  replace hs := hs.take (A := slB 5 (.slice g2 V.length fg2) V) (by first | exact .here _ | exact .there _ (.here _) | exact .there _ (.there _ (.here _)) | exact .there _ (.there _ (.there _ (.here _))) | exact .there _ (.there _ (.there _ (.there _ (.here _)))) | exact .there _ (.there _ (.there _ (.there _ (.there _ (.here _))))) | exact .there _ (.there _ (.there _ (.there _ (.there _ (.there _ (.here _)))))) | exact .there _ (.there _ (.there _ (.there _ (.there _ (.there _ (.there _ (.here _))))))) | exact .there _ (.there _ (.there _ (.there _ (.there _ (.there _ (.there _ (.there _ (.here _)))))))) | exact .there _ (.there _ (.there _ (.there _ (.there _ (.there _ (.there _ (.there _ (.there _ (.here _))))))))) | exact .there _ (.there _ (.there _ (.there _ (.there _ (.there _ (.there _ (.there _ (.there _ (.there _ (.here _)))))))))) | exact .there _ (.there _ (.there _ (.there _ (.there _ (.there _ (.there _ (.there _ (.there _ (.there _ (.there _ (.here _))))))))))))
  replace hs := hs.take (A := slB 5 (.slice g1 V.length fg1) V) (by first | exact .here _ | exact .there _ (.here _) | exact .there _ (.there _ (.here _)) | exact .there _ (.there _ (.there _ (.here _))) | exact .there _ (.there _ (.there _ (.there _ (.here _)))) | exact .there _ (.there _ (.there _ (.there _ (.there _ (.here _))))) | exact .there _ (.there _ (.there _ (.there _ (.there _ (.there _ (.here _)))))) | exact .there _ (.there _ (.there _ (.there _ (.there _ (.there _ (.there _ (.here _))))))) | exact .there _ (.there _ (.there _ (.there _ (.there _ (.there _ (.there _ (.there _ (.here _)))))))) | exact .there _ (.there _ (.there _ (.there _ (.there _ (.there _ (.there _ (.there _ (.there _ (.here _))))))))) | exact .there _ (.there _ (.there _ (.there _ (.there _ (.there _ (.there _ (.there _ (.there _ (.there _ (.here _)))))))))) | exact .there _ (.there _ (.there _ (.there _ (.there _ (.there _ (.there _ (.there _ (.there _ (.there _ (.there _ (.here _))))))))))))
  refine s_do hf rfl (y_call (hf.eval rfl) (hf.evals rfl) Try.call10 ((same_spec _ _ _ V (hs.rdB (.here _) fun h => slB_rd) _ _ V (hs.rdB (.there _ (.here _)) fun h => slB_rd) (by omega)).mono ?_))
  rintro e w1 ⟨rfl, hk⟩
  replace hs := hs.ext hk
  refine ⟨_, rfl, ?_⟩; clear hf a; intro a hf
  refine s_m hf rfl ?_; clear hf a; intro a hf
  replace hf := hf.now (k := 53) (v' := .bool true) rfl (congrArg Value.bool (by simp))
  refine s_do hf (wanted_of hf rfl rfl rfl) (.value (x_move (hf.eval rfl) _) ?_); clear hf a; intro a hf
  refine s_do hf (wanted_of hf rfl rfl rfl) (y_call (hf.eval rfl) (hf.evals rfl) Try.call11 ((num_spec _ _).mono ?_))
  rintro e w1 ⟨rfl, hw⟩
  subst hw
  refine ⟨_, rfl, ?_⟩; clear hf a; intro a hf
  refine s_do hf (wanted_of hf rfl rfl rfl) (.value (x_move (hf.eval rfl) _) ?_); clear hf a; intro a hf
  refine s_do hf (wanted_of hf rfl rfl rfl) (.value (x_bin (hf.eval rfl) (hf.eval rfl) (r_eq _ _ _ _) _) ?_); clear hf a; intro a hf
  refine s_v hf (x_pick_t (hf.eval rfl) (hf.eval rfl)) ?_; clear hf a; intro a hf
  refine s_m hf rfl ?_; clear hf a; intro a hf
  replace hf := hf.now (k := 59) (v' := .bool true) rfl (congrArg Value.bool (by simp))
  refine s_do hf (wanted_of hf rfl rfl rfl) (.value (x_move (hf.eval rfl) _) ?_); clear hf a; intro a hf
  refine s_do hf (wanted_of hf rfl rfl rfl) (.value (x_move (hf.eval rfl) _) ?_); clear hf a; intro a hf
  replace hs := hs.take (A := slB 5 (.slice g2 V.length fg2) V) (by first | exact .here _ | exact .there _ (.here _) | exact .there _ (.there _ (.here _)) | exact .there _ (.there _ (.there _ (.here _))) | exact .there _ (.there _ (.there _ (.there _ (.here _)))) | exact .there _ (.there _ (.there _ (.there _ (.there _ (.here _))))) | exact .there _ (.there _ (.there _ (.there _ (.there _ (.there _ (.here _)))))) | exact .there _ (.there _ (.there _ (.there _ (.there _ (.there _ (.there _ (.here _))))))) | exact .there _ (.there _ (.there _ (.there _ (.there _ (.there _ (.there _ (.there _ (.here _)))))))) | exact .there _ (.there _ (.there _ (.there _ (.there _ (.there _ (.there _ (.there _ (.there _ (.here _))))))))) | exact .there _ (.there _ (.there _ (.there _ (.there _ (.there _ (.there _ (.there _ (.there _ (.there _ (.here _)))))))))) | exact .there _ (.there _ (.there _ (.there _ (.there _ (.there _ (.there _ (.there _ (.there _ (.there _ (.there _ (.here _))))))))))))
  replace hs := hs.take (A := slB 5 (.slice g3 V.length fg3) V) (by first | exact .here _ | exact .there _ (.here _) | exact .there _ (.there _ (.here _)) | exact .there _ (.there _ (.there _ (.here _))) | exact .there _ (.there _ (.there _ (.there _ (.here _)))) | exact .there _ (.there _ (.there _ (.there _ (.there _ (.here _))))) | exact .there _ (.there _ (.there _ (.there _ (.there _ (.there _ (.here _)))))) | exact .there _ (.there _ (.there _ (.there _ (.there _ (.there _ (.there _ (.here _))))))) | exact .there _ (.there _ (.there _ (.there _ (.there _ (.there _ (.there _ (.there _ (.here _)))))))) | exact .there _ (.there _ (.there _ (.there _ (.there _ (.there _ (.there _ (.there _ (.there _ (.here _))))))))) | exact .there _ (.there _ (.there _ (.there _ (.there _ (.there _ (.there _ (.there _ (.there _ (.there _ (.here _)))))))))) | exact .there _ (.there _ (.there _ (.there _ (.there _ (.there _ (.there _ (.there _ (.there _ (.there _ (.there _ (.here _))))))))))))
  refine s_do hf (wanted_of hf rfl rfl rfl) (y_call (hf.eval rfl) (hf.evals rfl) Try.call10 ((same_spec _ _ _ V (hs.rdB (.here _) fun h => slB_rd) _ _ V (hs.rdB (.there _ (.here _)) fun h => slB_rd) (by omega)).mono ?_))
  rintro e w1 ⟨rfl, hk⟩
  replace hs := hs.ext hk
  refine ⟨_, rfl, ?_⟩; clear hf a; intro a hf
  refine s_v hf (x_pick_t (hf.eval rfl) (hf.eval rfl)) ?_; clear hf a; intro a hf
  refine s_m hf rfl ?_; clear hf a; intro a hf
  replace hf := hf.now (k := 64) (v' := .bool true) rfl (congrArg Value.bool (by simp))
  refine s_do hf (wanted_of hf rfl rfl rfl) (.value (x_move (hf.eval rfl) _) ?_); clear hf a; intro a hf
  refine s_do hf (wanted_of hf rfl rfl rfl) (.value (x_move (hf.eval rfl) _) ?_); clear hf a; intro a hf
  refine s_do hf (wanted_of hf rfl rfl rfl) (y_lit (xs := [.tmp 65, .tmp 66]) hs sl25 (hf.evals rfl) rfl (by simp [Value.cells]) (by decide) ?_); clear hf hs a; intro b9 w hs a hf
  replace hs := hs.ofCb (sz := 1) (n := 2) rfl (by rw [maxLen_eq]; omega)
  obtain ⟨A9, hA9⟩ : ∃ A : Asrt, A = sl 22 1 (.slice (some ⟨b9, 0, none⟩) 2 2) 2 [.slice g1 V.length fg1, .slice g3 V.length fg3] := ⟨_, rfl⟩
  change St _ _ (sl 22 1 (.slice (some ⟨b9, 0, none⟩) 2 2) 2 [.slice g1 V.length fg1, .slice g3 V.length fg3] :: _) at hs
  rw [← hA9] at hs
  replace hs := hs.emp (A := datA 5 []) (fun _ => trivial)
  replace hs := hs.take (A := slB 5 (.slice g3 V.length fg3) V) (by first | exact .here _ | exact .there _ (.here _) | exact .there _ (.there _ (.here _)) | exact .there _ (.there _ (.there _ (.here _))) | exact .there _ (.there _ (.there _ (.there _ (.here _)))) | exact .there _ (.there _ (.there _ (.there _ (.there _ (.here _))))) | exact .there _ (.there _ (.there _ (.there _ (.there _ (.there _ (.here _)))))) | exact .there _ (.there _ (.there _ (.there _ (.there _ (.there _ (.there _ (.here _))))))) | exact .there _ (.there _ (.there _ (.there _ (.there _ (.there _ (.there _ (.there _ (.here _)))))))) | exact .there _ (.there _ (.there _ (.there _ (.there _ (.there _ (.there _ (.there _ (.there _ (.here _))))))))) | exact .there _ (.there _ (.there _ (.there _ (.there _ (.there _ (.there _ (.there _ (.there _ (.there _ (.here _)))))))))) | exact .there _ (.there _ (.there _ (.there _ (.there _ (.there _ (.there _ (.there _ (.there _ (.there _ (.there _ (.here _))))))))))))
  replace hs : St _ _ (datA 5 [((0, .slice g3 V.length fg3, V) : Pt)] :: _) := hs.unstar
  replace hs := hs.take (A := slB 5 (.slice g1 V.length fg1) V) (by first | exact .here _ | exact .there _ (.here _) | exact .there _ (.there _ (.here _)) | exact .there _ (.there _ (.there _ (.here _))) | exact .there _ (.there _ (.there _ (.there _ (.here _)))) | exact .there _ (.there _ (.there _ (.there _ (.there _ (.here _))))) | exact .there _ (.there _ (.there _ (.there _ (.there _ (.there _ (.here _)))))) | exact .there _ (.there _ (.there _ (.there _ (.there _ (.there _ (.there _ (.here _))))))) | exact .there _ (.there _ (.there _ (.there _ (.there _ (.there _ (.there _ (.there _ (.here _)))))))) | exact .there _ (.there _ (.there _ (.there _ (.there _ (.there _ (.there _ (.there _ (.there _ (.here _))))))))) | exact .there _ (.there _ (.there _ (.there _ (.there _ (.there _ (.there _ (.there _ (.there _ (.there _ (.here _)))))))))) | exact .there _ (.there _ (.there _ (.there _ (.there _ (.there _ (.there _ (.there _ (.there _ (.there _ (.there _ (.here _))))))))))))
  replace hs : St _ _ (datA 5 [((0, .slice g1 V.length fg1, V) : Pt), ((0, .slice g3 V.length fg3, V) : Pt)] :: _) := hs.unstar
  replace hs := hs.take (A := A9) (by first | exact .here _ | exact .there _ (.here _) | exact .there _ (.there _ (.here _)) | exact .there _ (.there _ (.there _ (.here _))) | exact .there _ (.there _ (.there _ (.there _ (.here _)))) | exact .there _ (.there _ (.there _ (.there _ (.there _ (.here _))))) | exact .there _ (.there _ (.there _ (.there _ (.there _ (.there _ (.here _)))))) | exact .there _ (.there _ (.there _ (.there _ (.there _ (.there _ (.there _ (.here _))))))) | exact .there _ (.there _ (.there _ (.there _ (.there _ (.there _ (.there _ (.there _ (.here _)))))))) | exact .there _ (.there _ (.there _ (.there _ (.there _ (.there _ (.there _ (.there _ (.there _ (.here _))))))))) | exact .there _ (.there _ (.there _ (.there _ (.there _ (.there _ (.there _ (.there _ (.there _ (.there _ (.here _)))))))))) | exact .there _ (.there _ (.there _ (.there _ (.there _ (.there _ (.there _ (.there _ (.there _ (.there _ (.there _ (.here _))))))))))))
  rw [hA9] at hs
  replace hs : St _ _ (sl 22 1 (.slice (some ⟨b9, 0, none⟩) [((0, .slice g1 V.length fg1, V) : Pt), ((0, .slice g3 V.length fg3, V) : Pt)].length 2) [((0, .slice g1 V.length fg1, V) : Pt), ((0, .slice g3 V.length fg3, V) : Pt)].length ([((0, .slice g1 V.length fg1, V) : Pt), ((0, .slice g3 V.length fg3, V) : Pt)].flatMap mF) :: _) := hs
  refine s_do hf (wanted_of hf rfl rfl rfl) (y_call (hf.eval rfl) (hf.evals rfl) Try.call12 ((apart_spec _ _ _ _ _ [((0, .slice g1 V.length fg1, V) : Pt), ((0, .slice g3 V.length fg3, V) : Pt)] hs (by simp) (by intro q hq; simp only [List.mem_cons, List.not_mem_nil, or_false] at hq; rcases hq with rfl | rfl <;> simp only [] <;> omega)).mono ?_))
  rintro e w1 ⟨rfl, hs⟩
  refine ⟨_, rfl, ?_⟩; clear hf a; intro a hf
  refine s_v hf (x_pick_t (hf.eval rfl) (hf.eval rfl)) ?_; clear hf a; intro a hf
  refine s_a hf rfl ?_; clear hf a; intro a hf
  refine s_nil ?_
  refine then_n ?_
  refine wp_seq ?_
  refine wp_region_lit ?_
  refine s_m hf rfl ?_; clear hf a; intro a hf
  refine s_m hf rfl ?_; clear hf a; intro a hf
  replace hf := hf.now (k := 71) (v' := .bool true) rfl (congrArg Value.bool (by simp))
  refine s_do hf (wanted_of hf rfl rfl rfl) (.value (x_move (hf.eval rfl) _) ?_); clear hf a; intro a hf
  refine s_do hf (wanted_of hf rfl rfl rfl) (.value (x_move (hf.eval rfl) _) ?_); clear hf a; intro a hf
  replace hs := hs.take (A := slB 5 (.slice (some ⟨b1, 0, none⟩) (content.length + 4) cf) (content ++ [0xC0, 0xC1, 0xC2, 0xC3])) (by first | exact .here _ | exact .there _ (.here _) | exact .there _ (.there _ (.here _)) | exact .there _ (.there _ (.there _ (.here _))) | exact .there _ (.there _ (.there _ (.there _ (.here _)))) | exact .there _ (.there _ (.there _ (.there _ (.there _ (.here _))))) | exact .there _ (.there _ (.there _ (.there _ (.there _ (.there _ (.here _)))))) | exact .there _ (.there _ (.there _ (.there _ (.there _ (.there _ (.there _ (.here _))))))) | exact .there _ (.there _ (.there _ (.there _ (.there _ (.there _ (.there _ (.there _ (.here _)))))))) | exact .there _ (.there _ (.there _ (.there _ (.there _ (.there _ (.there _ (.there _ (.there _ (.here _))))))))) | exact .there _ (.there _ (.there _ (.there _ (.there _ (.there _ (.there _ (.there _ (.there _ (.there _ (.here _)))))))))) | exact .there _ (.there _ (.there _ (.there _ (.there _ (.there _ (.there _ (.there _ (.there _ (.there _ (.there _ (.here _))))))))))))
  refine s_do hf (wanted_of hf rfl rfl rfl) (y_call (hf.eval rfl) (hf.evals rfl) Try.call13 ((whole_spec _ _ _ _ _ _ content (hs.oldB hr1) rfl (hs.rdB (.here _) fun h hb => slB_rd hb) hl1).mono ?_))
  rintro e w1 ⟨rfl, hk⟩
  replace hs := hs.ext hk
  refine ⟨_, rfl, ?_⟩; clear hf a; intro a hf
  refine s_v hf (x_pick_t (hf.eval rfl) (hf.eval rfl)) ?_; clear hf a; intro a hf
  refine s_m hf rfl ?_; clear hf a; intro a hf
  replace hf := hf.now (k := 76) (v' := .bool true) rfl (congrArg Value.bool (by simp))
  refine s_do hf (wanted_of hf rfl rfl rfl) (.value (x_move (hf.eval rfl) _) ?_); clear hf a; intro a hf
  refine s_do hf (wanted_of hf rfl rfl rfl) (.value (x_move (hf.eval rfl) _) ?_); clear hf a; intro a hf
  have hru : RdS wF 2 (hp _) (.slice a5 us.length c5) us := hs.rd (A := sl 46 2 (.slice a5 us.length c5) us.length (us.flatMap wF)) (by first | exact .here _ | exact .there _ (.here _) | exact .there _ (.there _ (.here _)) | exact .there _ (.there _ (.there _ (.here _))) | exact .there _ (.there _ (.there _ (.there _ (.here _)))) | exact .there _ (.there _ (.there _ (.there _ (.there _ (.here _))))) | exact .there _ (.there _ (.there _ (.there _ (.there _ (.there _ (.here _)))))) | exact .there _ (.there _ (.there _ (.there _ (.there _ (.there _ (.there _ (.here _))))))) | exact .there _ (.there _ (.there _ (.there _ (.there _ (.there _ (.there _ (.there _ (.here _)))))))) | exact .there _ (.there _ (.there _ (.there _ (.there _ (.there _ (.there _ (.there _ (.there _ (.here _))))))))) | exact .there _ (.there _ (.there _ (.there _ (.there _ (.there _ (.there _ (.there _ (.there _ (.there _ (.here _)))))))))) | exact .there _ (.there _ (.there _ (.there _ (.there _ (.there _ (.there _ (.there _ (.there _ (.there _ (.there _ (.here _))))))))))) | exact .there _ (.there _ (.there _ (.there _ (.there _ (.there _ (.there _ (.there _ (.there _ (.there _ (.there _ (.there _ (.here _)))))))))))) | exact .there _ (.there _ (.there _ (.there _ (.there _ (.there _ (.there _ (.there _ (.there _ (.there _ (.there _ (.there _ (.there _ (.here _)))))))))))))) (fun h hh => sl_rd hh)
  have hra : RdS fA 1 (hp _) (.slice a6 us.length c6) us := hs.rd (A := sl 22 1 (.slice a6 us.length c6) us.length (us.flatMap fA)) (by first | exact .here _ | exact .there _ (.here _) | exact .there _ (.there _ (.here _)) | exact .there _ (.there _ (.there _ (.here _))) | exact .there _ (.there _ (.there _ (.there _ (.here _)))) | exact .there _ (.there _ (.there _ (.there _ (.there _ (.here _))))) | exact .there _ (.there _ (.there _ (.there _ (.there _ (.there _ (.here _)))))) | exact .there _ (.there _ (.there _ (.there _ (.there _ (.there _ (.there _ (.here _))))))) | exact .there _ (.there _ (.there _ (.there _ (.there _ (.there _ (.there _ (.there _ (.here _)))))))) | exact .there _ (.there _ (.there _ (.there _ (.there _ (.there _ (.there _ (.there _ (.there _ (.here _))))))))) | exact .there _ (.there _ (.there _ (.there _ (.there _ (.there _ (.there _ (.there _ (.there _ (.there _ (.here _)))))))))) | exact .there _ (.there _ (.there _ (.there _ (.there _ (.there _ (.there _ (.there _ (.there _ (.there _ (.there _ (.here _))))))))))) | exact .there _ (.there _ (.there _ (.there _ (.there _ (.there _ (.there _ (.there _ (.there _ (.there _ (.there _ (.there _ (.here _)))))))))))) | exact .there _ (.there _ (.there _ (.there _ (.there _ (.there _ (.there _ (.there _ (.there _ (.there _ (.there _ (.there _ (.there _ (.here _)))))))))))))) (fun h hh => sl_rd hh)
  have hG := seeG (hs.take (A := rowG us.reverse) (by first | exact .here _ | exact .there _ (.here _) | exact .there _ (.there _ (.here _)) | exact .there _ (.there _ (.there _ (.here _))) | exact .there _ (.there _ (.there _ (.there _ (.here _)))) | exact .there _ (.there _ (.there _ (.there _ (.there _ (.here _))))) | exact .there _ (.there _ (.there _ (.there _ (.there _ (.there _ (.here _)))))) | exact .there _ (.there _ (.there _ (.there _ (.there _ (.there _ (.there _ (.here _))))))) | exact .there _ (.there _ (.there _ (.there _ (.there _ (.there _ (.there _ (.there _ (.here _)))))))) | exact .there _ (.there _ (.there _ (.there _ (.there _ (.there _ (.there _ (.there _ (.there _ (.here _))))))))) | exact .there _ (.there _ (.there _ (.there _ (.there _ (.there _ (.there _ (.there _ (.there _ (.there _ (.here _)))))))))) | exact .there _ (.there _ (.there _ (.there _ (.there _ (.there _ (.there _ (.there _ (.there _ (.there _ (.there _ (.here _))))))))))) | exact .there _ (.there _ (.there _ (.there _ (.there _ (.there _ (.there _ (.there _ (.there _ (.there _ (.there _ (.there _ (.here _)))))))))))) | exact .there _ (.there _ (.there _ (.there _ (.there _ (.there _ (.there _ (.there _ (.there _ (.there _ (.there _ (.there _ (.there _ (.here _)))))))))))))))
  refine s_do hf (wanted_of hf rfl rfl rfl) (y_call (hf.eval rfl) (hf.evals rfl) Try.call14 ((sameWrites_spec _ _ _ ws (hs.old hrw) hlw (fun z hz => ⟨hs.oldB (hgd z hz).1, (hgd z hz).2⟩) _ _ us hru hul huk (fun z hz => (hG z hz).pre (RdB.cap (hG z hz)))).mono ?_))
  rintro e w1 ⟨rfl, hk⟩
  replace hs := hs.ext hk
  refine ⟨_, rfl, ?_⟩; clear hf a; intro a hf
  refine s_v hf (x_pick_t (hf.eval rfl) (hf.eval rfl)) ?_; clear hf a; intro a hf
  refine s_m hf rfl ?_; clear hf a; intro a hf
  replace hf := hf.now (k := 81) (v' := .bool true) rfl (congrArg Value.bool (by simp))
  refine s_do hf (wanted_of hf rfl rfl rfl) (.value (x_move (hf.eval rfl) _) ?_); clear hf a; intro a hf
  refine s_do hf (wanted_of hf rfl rfl rfl) (.value (x_move (hf.eval rfl) _) ?_); clear hf a; intro a hf
  have hru : RdS wF 2 (hp _) (.slice a5 us.length c5) us := hs.rd (A := sl 46 2 (.slice a5 us.length c5) us.length (us.flatMap wF)) (by first | exact .here _ | exact .there _ (.here _) | exact .there _ (.there _ (.here _)) | exact .there _ (.there _ (.there _ (.here _))) | exact .there _ (.there _ (.there _ (.there _ (.here _)))) | exact .there _ (.there _ (.there _ (.there _ (.there _ (.here _))))) | exact .there _ (.there _ (.there _ (.there _ (.there _ (.there _ (.here _)))))) | exact .there _ (.there _ (.there _ (.there _ (.there _ (.there _ (.there _ (.here _))))))) | exact .there _ (.there _ (.there _ (.there _ (.there _ (.there _ (.there _ (.there _ (.here _)))))))) | exact .there _ (.there _ (.there _ (.there _ (.there _ (.there _ (.there _ (.there _ (.there _ (.here _))))))))) | exact .there _ (.there _ (.there _ (.there _ (.there _ (.there _ (.there _ (.there _ (.there _ (.there _ (.here _)))))))))) | exact .there _ (.there _ (.there _ (.there _ (.there _ (.there _ (.there _ (.there _ (.there _ (.there _ (.there _ (.here _))))))))))) | exact .there _ (.there _ (.there _ (.there _ (.there _ (.there _ (.there _ (.there _ (.there _ (.there _ (.there _ (.there _ (.here _)))))))))))) | exact .there _ (.there _ (.there _ (.there _ (.there _ (.there _ (.there _ (.there _ (.there _ (.there _ (.there _ (.there _ (.there _ (.here _)))))))))))))) (fun h hh => sl_rd hh)
  have hra : RdS fA 1 (hp _) (.slice a6 us.length c6) us := hs.rd (A := sl 22 1 (.slice a6 us.length c6) us.length (us.flatMap fA)) (by first | exact .here _ | exact .there _ (.here _) | exact .there _ (.there _ (.here _)) | exact .there _ (.there _ (.there _ (.here _))) | exact .there _ (.there _ (.there _ (.there _ (.here _)))) | exact .there _ (.there _ (.there _ (.there _ (.there _ (.here _))))) | exact .there _ (.there _ (.there _ (.there _ (.there _ (.there _ (.here _)))))) | exact .there _ (.there _ (.there _ (.there _ (.there _ (.there _ (.there _ (.here _))))))) | exact .there _ (.there _ (.there _ (.there _ (.there _ (.there _ (.there _ (.there _ (.here _)))))))) | exact .there _ (.there _ (.there _ (.there _ (.there _ (.there _ (.there _ (.there _ (.there _ (.here _))))))))) | exact .there _ (.there _ (.there _ (.there _ (.there _ (.there _ (.there _ (.there _ (.there _ (.there _ (.here _)))))))))) | exact .there _ (.there _ (.there _ (.there _ (.there _ (.there _ (.there _ (.there _ (.there _ (.there _ (.there _ (.here _))))))))))) | exact .there _ (.there _ (.there _ (.there _ (.there _ (.there _ (.there _ (.there _ (.there _ (.there _ (.there _ (.there _ (.here _)))))))))))) | exact .there _ (.there _ (.there _ (.there _ (.there _ (.there _ (.there _ (.there _ (.there _ (.there _ (.there _ (.there _ (.there _ (.here _)))))))))))))) (fun h hh => sl_rd hh)
  have hG := seeG (hs.take (A := rowG us.reverse) (by first | exact .here _ | exact .there _ (.here _) | exact .there _ (.there _ (.here _)) | exact .there _ (.there _ (.there _ (.here _))) | exact .there _ (.there _ (.there _ (.there _ (.here _)))) | exact .there _ (.there _ (.there _ (.there _ (.there _ (.here _))))) | exact .there _ (.there _ (.there _ (.there _ (.there _ (.there _ (.here _)))))) | exact .there _ (.there _ (.there _ (.there _ (.there _ (.there _ (.there _ (.here _))))))) | exact .there _ (.there _ (.there _ (.there _ (.there _ (.there _ (.there _ (.there _ (.here _)))))))) | exact .there _ (.there _ (.there _ (.there _ (.there _ (.there _ (.there _ (.there _ (.there _ (.here _))))))))) | exact .there _ (.there _ (.there _ (.there _ (.there _ (.there _ (.there _ (.there _ (.there _ (.there _ (.here _)))))))))) | exact .there _ (.there _ (.there _ (.there _ (.there _ (.there _ (.there _ (.there _ (.there _ (.there _ (.there _ (.here _))))))))))) | exact .there _ (.there _ (.there _ (.there _ (.there _ (.there _ (.there _ (.there _ (.there _ (.there _ (.there _ (.there _ (.here _)))))))))))) | exact .there _ (.there _ (.there _ (.there _ (.there _ (.there _ (.there _ (.there _ (.there _ (.there _ (.there _ (.there _ (.there _ (.here _)))))))))))))))
  refine s_do hf (wanted_of hf rfl rfl rfl) (y_call (hf.eval rfl) (hf.evals rfl) Try.call15 ((wholeAll_spec _ _ _ ws (hs.old hrw) hlw (fun z hz => ⟨hs.oldB (hgd z hz).1, (hgd z hz).2⟩) _ _ us hra hul huk hG).mono ?_))
  rintro e w1 ⟨rfl, hk⟩
  replace hs := hs.ext hk
  refine ⟨_, rfl, ?_⟩; clear hf a; intro a hf
  refine s_v hf (x_pick_t (hf.eval rfl) (hf.eval rfl)) ?_; clear hf a; intro a hf
  refine s_a hf rfl ?_; clear hf a; intro a hf
  refine s_nil ?_
  refine then_n ?_
  refine wp_ret ?_
  refine r_1 hf Try.results3 rfl ?_
  exact ⟨by simp, hs.kept⟩

end Go.Proofs.Ytehakfbfjpolfaa
