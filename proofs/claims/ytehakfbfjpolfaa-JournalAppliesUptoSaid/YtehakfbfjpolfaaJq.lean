/- The statement JournalNeeds, put together. -/
import Derived.Test.YtehakfbfjpolfaaVJ
import Derived.Test.YtehakfbfjpolfaaFx
import Derived.Test.YtehakfbfjpolfaaProg
import Derived.Test.YtehakfbfjpolfaaFacts
set_option maxRecDepth 100000
set_option linter.all false
namespace Go.Proofs.Ytehakfbfjpolfaa
open Go Vw
theorem sameWrites_spec (w0 : World) (aw : Option Addr) (cw : Nat) (ws : List Wr) (hrw : RdS wF 2 (hp w0) (.slice aw ws.length cw) ws) (hlw : ws.length ≤ 1048576) (hgd : ∀ z ∈ ws, RdB (hp w0) (.slice z.2.1 z.2.2.2.length z.2.2.1) z.2.2.2 ∧ z.2.2.2.length ≤ 1048576) (au : Option Addr) (cu : Nat) (us : List Wr) (hru : RdS wF 2 (hp w0) (.slice au us.length cu) us) (hul : us.length = ws.length) (huk : us.map dkW = ws.map dkW) (hgu : ∀ z ∈ us, RdB (hp w0) (.slice z.2.1 z.2.2.2.length z.2.2.1) z.2.2.2) : Calls Try.prog 14 #[.slice au us.length cu, .slice aw ws.length cw] w0 fun e w' => e = .returned (.bool true) ∧ Kept w0 w' None_ := by
  have hs := St.start w0 None_
  refine c_enter (N := 42) Try.func14 rfl Try.ntmps14 (by simp) ?_
  intro a hf
  refine wp_seq ?_
  refine wp_region_lit ?_
  refine s_a hf rfl ?_; clear hf a; intro a hf
  refine s_nil ?_
  refine then_n ?_
  refine wp_seq ?_
  refine wp_seq ?_
  refine wp_region_lit ?_
  refine s_m hf rfl ?_; clear hf a; intro a hf
  refine s_v hf (x_len Try.underlying23 (hf.eval rfl)) ?_; clear hf a; intro a hf
  refine s_m hf rfl ?_; clear hf a; intro a hf
  refine s_v hf (x_len Try.underlying23 (hf.eval rfl)) ?_; clear hf a; intro a hf
  refine s_v hf (x_bin (hf.eval rfl) (hf.eval rfl) (r_ne _ _ _ _)) ?_; clear hf a; intro a hf
  refine s_nil ?_
  refine then_n ?_
  refine c_cond_f hf rfl (by simp; omega) ?_
  refine wp_skip ?_
  refine then_n ?_
  refine wp_seq ?_
  refine wp_seq ?_
  refine wp_region_lit ?_
  refine s_a hf rfl ?_; clear hf a; intro a hf
  refine s_nil ?_
  refine then_n ?_
  refine wp_block ?_
  refine c_loop (L0 := [(0, _), (1, _)]) (fun M w m => ∃ i : Nat, M = [(5, .int .i64 (i : Int))] ∧ ws.length - i = m ∧ i ≤ ws.length ∧ St ⟨w0, None_⟩ w []) (M0 := [(5, .int .i64 0)]) (⟨0, rfl, rfl, Nat.zero_le _, hs⟩) (hf.sub ⟨rfl, rfl, rfl, trivial⟩) ?_
  clear hf hs a
  rintro M m a w ⟨i, rfl, rfl, hi, hs⟩ hf
  refine wp_seq ?_
  refine wp_seq ?_
  refine wp_region_lit ?_
  refine s_m hf rfl ?_; clear hf a; intro a hf
  refine s_m hf rfl ?_; clear hf a; intro a hf
  refine s_v hf (x_len Try.underlying23 (hf.eval rfl)) ?_; clear hf a; intro a hf
  refine s_v hf (x_bin (hf.eval rfl) (hf.eval rfl) (r_lt _ _ _ _)) ?_; clear hf a; intro a hf
  refine s_nil ?_
  refine then_n ?_
  refine c_cond hf rfl (fun hi1 => ?_) (fun hi1 => ?_)
  · simp only [decide_eq_true_eq, decide_eq_false_iff_not, Bool.not_eq_true', Bool.not_eq_false', Bool.not_eq_true, Int.not_lt, Int.not_le] at hi1
    have hlt : i < ws.length := by omega
    have hlu : i < us.length := by omega
    obtain ⟨aw, rfl⟩ := hrw.some (by omega)
    obtain ⟨ab, ao2, rfl⟩ := rdS_plain (sz := 2) (fun _ => rfl) (by decide) hrw (by omega)
    obtain ⟨au, rfl⟩ := hru.some (by omega)
    obtain ⟨ub, uo, rfl⟩ := rdS_plain (sz := 2) (fun _ => rfl) (by decide) hru (by omega)
    obtain ⟨hq1, hq2⟩ := dk_get huk hlu hlt
    have hgw := hgd _ (List.getElem_mem hlt)
    refine wp_skip ?_
    refine then_n ?_
    refine wp_seq ?_
    refine wp_block ?_
    refine wp_seq ?_
    refine c_draw hs (fun w' => Kept w0 w' None_) [.held, .held, .held, .held, .held, .held, .held, .held, .held, .held, .held, .held, .held, .held, .held, .held, .held, .held, .held, .held, .held, .held, .eff, .held, .held] (by kernel_rfl) (by kernel_rfl) (fun w' _ hs => hs.kept) ?_
    clear hs; intro w hs hC hw
    refine m_held hf rfl (fun w' _ => x_move (hf.eval rfl) w') ?_; clear hf a; intro a hf
    refine m_held hf rfl (fun w' _ => x_move (hf.eval rfl) w') ?_; clear hf a; intro a hf
    refine m_held hf rfl (fun w' _ => x_indexAddr sl23 (hf.eval rfl) (hf.eval rfl) (by omega) (by omega) w') ?_; clear hf a; intro a hf
    replace hf := hf.now (k := 19) (v' := .pointer (some ⟨ub, uo + i * 2, none⟩)) rfl (by rw [addr_add]; rfl)
    refine m_held hf rfl (fun w' _ => x_fieldAddr fo46_0 (hf.eval rfl) w') ?_; clear hf a; intro a hf
    refine m_held hf rfl (fun w' hc => x_load sc3 (hf.eval rfl) (rdS_cellAt (f := wF) (sz := 2) (fun _ => rfl) (RdC.mono hc.hle hru) (k := 0) hlu rfl)) ?_; clear hf a; intro a hf
    refine m_held hf rfl (fun w' _ => x_move (hf.eval rfl) w') ?_; clear hf a; intro a hf
    refine m_held hf rfl (fun w' _ => x_move (hf.eval rfl) w') ?_; clear hf a; intro a hf
    refine m_held hf rfl (fun w' _ => x_indexAddr sl23 (hf.eval rfl) (hf.eval rfl) (by omega) (by omega) w') ?_; clear hf a; intro a hf
    replace hf := hf.now (k := 24) (v' := .pointer (some ⟨ab, ao2 + i * 2, none⟩)) rfl (by rw [addr_add]; rfl)
    refine m_held hf rfl (fun w' _ => x_fieldAddr fo46_0 (hf.eval rfl) w') ?_; clear hf a; intro a hf
    refine m_held hf rfl (fun w' hc => x_load sc3 (hf.eval rfl) (rdS_cellAt (f := wF) (sz := 2) (fun _ => rfl) (RdC.mono hc.hle hrw) (k := 0) hlt rfl)) ?_; clear hf a; intro a hf
    refine m_held hf rfl (fun w' _ => x_bin (hf.eval rfl) (hf.eval rfl) (r_ne _ _ _ _) w') ?_; clear hf a; intro a hf
    refine m_held hf rfl (fun w' _ => x_move (hf.eval rfl) w') ?_; clear hf a; intro a hf
    replace hf := hf.now (k := 28) (v' := .bool false) rfl (congrArg Value.bool (by simp [hq1]))
    refine m_held hf (wanted_of hf rfl rfl rfl) (fun w' _ => x_move (hf.eval rfl) w') ?_; clear hf a; intro a hf
    refine m_held hf (wanted_of hf rfl rfl rfl) (fun w' _ => x_move (hf.eval rfl) w') ?_; clear hf a; intro a hf
    refine m_held hf (wanted_of hf rfl rfl rfl) (fun w' _ => x_indexAddr sl23 (hf.eval rfl) (hf.eval rfl) (by omega) (by omega) w') ?_; clear hf a; intro a hf
    replace hf := hf.now (k := 31) (v' := .pointer (some ⟨ub, uo + i * 2, none⟩)) rfl (by rw [addr_add]; rfl)
    refine m_held hf (wanted_of hf rfl rfl rfl) (fun w' _ => x_fieldAddr fo46_1 (hf.eval rfl) w') ?_; clear hf a; intro a hf
    refine m_held hf (wanted_of hf rfl rfl rfl) (fun w' hc => x_load sc22 (hf.eval rfl) (rdS_cellAt (f := wF) (sz := 2) (fun _ => rfl) (RdC.mono hc.hle hru) (k := 1) hlu rfl)) ?_; clear hf a; intro a hf
    refine m_held hf (wanted_of hf rfl rfl rfl) (fun w' _ => x_move (hf.eval rfl) w') ?_; clear hf a; intro a hf
    refine m_held hf (wanted_of hf rfl rfl rfl) (fun w' _ => x_move (hf.eval rfl) w') ?_; clear hf a; intro a hf
    refine m_held hf (wanted_of hf rfl rfl rfl) (fun w' _ => x_indexAddr sl23 (hf.eval rfl) (hf.eval rfl) (by omega) (by omega) w') ?_; clear hf a; intro a hf
    replace hf := hf.now (k := 36) (v' := .pointer (some ⟨ab, ao2 + i * 2, none⟩)) rfl (by rw [addr_add]; rfl)
    refine m_held hf (wanted_of hf rfl rfl rfl) (fun w' _ => x_fieldAddr fo46_1 (hf.eval rfl) w') ?_; clear hf a; intro a hf
    refine m_held hf (wanted_of hf rfl rfl rfl) (fun w' hc => x_load sc22 (hf.eval rfl) (rdS_cellAt (f := wF) (sz := 2) (fun _ => rfl) (RdC.mono hc.hle hrw) (k := 1) hlt rfl)) ?_; clear hf a; intro a hf
    refine m_eff hf (wanted_of hf rfl rfl rfl) (y_call (hf.eval rfl) (hf.evals rfl) Try.call10 ((same_spec _ _ _ us[i].2.2.2 (hs.oldB (hgu _ (List.getElem_mem hlu))) _ _ ws[i].2.2.2 (hs.oldB hgw.1) (by rw [hq2]; omega)).mono ?_))
    rintro e w1 ⟨rfl, hk⟩
    replace hs := hs.ext hk
    refine ⟨_, rfl, ⟨hs.kept, ?_⟩⟩; clear hf a; intro a hf
    refine m_held hf (wanted_of hf rfl rfl rfl) (fun w' _ => x_not (hf.eval rfl) w') ?_; clear hf a; intro a hf
    refine m_held hf rfl (fun w' _ => x_pick_f (hf.eval rfl) (hf.eval rfl) w') ?_; clear hf a; intro a hf
    refine m_nil ?_
    refine then_n ?_
    refine c_cond_f hf rfl (by simp [hq2]) ?_
    refine wp_skip ?_
    refine blk_n ?_
    refine then_n ?_
    refine wp_region_lit ?_
    refine s_m hf rfl ?_; clear hf a; intro a hf
    refine s_v hf (x_bin (hf.eval rfl) (hf.eval rfl) (r_addi _ (by omega) (by omega))) ?_; clear hf a; intro a hf
    refine s_a hf rfl ?_; clear hf a; intro a hf
    refine s_nil ?_
    exact ⟨_, _, ⟨i + 1, rfl, rfl, by omega, hs⟩, by omega, hf.sub ⟨rfl, rfl, rfl, trivial⟩⟩
  · simp only [decide_eq_true_eq, decide_eq_false_iff_not, Bool.not_eq_true', Bool.not_eq_false', Bool.not_eq_true, Int.not_lt, Int.not_le] at hi1
    refine wp_exit ?_
    refine then_x ?_
    refine then_x ?_
    refine blk_x ?_
    refine then_n ?_
    refine wp_seq ?_
    refine wp_region_lit ?_
    refine s_a hf rfl ?_; clear hf a; intro a hf
    refine s_nil ?_
    refine then_n ?_
    refine wp_ret ?_
    refine r_1 hf Try.results14 rfl ?_
    exact ⟨rfl, hs.kept⟩

theorem wholeAll_spec (w0 : World) (aw : Option Addr) (cw : Nat) (ws : List Wr) (hrw : RdS wF 2 (hp w0) (.slice aw ws.length cw) ws) (hlw : ws.length ≤ 1048576) (hgd : ∀ z ∈ ws, RdB (hp w0) (.slice z.2.1 z.2.2.2.length z.2.2.1) z.2.2.2 ∧ z.2.2.2.length ≤ 1048576) (au : Option Addr) (cu : Nat) (us : List Wr) (hru : RdS fA 1 (hp w0) (.slice au us.length cu) us) (hul : us.length = ws.length) (huk : us.map dkW = ws.map dkW) (hG : ∀ z ∈ us, Gd (hp w0) z) : Calls Try.prog 15 #[.slice au us.length cu, .slice aw ws.length cw] w0 fun e w' => e = .returned (.bool true) ∧ Kept w0 w' None_ := by
  have hs := St.start w0 None_
  refine c_enter (N := 25) Try.func15 rfl Try.ntmps15 (by simp) ?_
  intro a hf
  refine wp_seq ?_
  refine wp_region_lit ?_
  refine s_a hf rfl ?_; clear hf a; intro a hf
  refine s_nil ?_
  refine then_n ?_
  refine wp_seq ?_
  refine wp_seq ?_
  refine wp_region_lit ?_
  refine s_a hf rfl ?_; clear hf a; intro a hf
  refine s_nil ?_
  refine then_n ?_
  refine wp_block ?_
  refine c_loop (L0 := [(0, _), (1, _)]) (fun M w m => ∃ i : Nat, M = [(5, .int .i64 (i : Int))] ∧ ws.length - i = m ∧ i ≤ ws.length ∧ St ⟨w0, None_⟩ w []) (M0 := [(5, .int .i64 0)]) (⟨0, rfl, rfl, Nat.zero_le _, hs⟩) (hf.sub ⟨rfl, rfl, rfl, trivial⟩) ?_
  clear hf hs a
  rintro M m a w ⟨i, rfl, rfl, hi, hs⟩ hf
  refine wp_seq ?_
  refine wp_seq ?_
  refine wp_region_lit ?_
  refine s_m hf rfl ?_; clear hf a; intro a hf
  refine s_m hf rfl ?_; clear hf a; intro a hf
  refine s_v hf (x_len Try.underlying23 (hf.eval rfl)) ?_; clear hf a; intro a hf
  refine s_v hf (x_bin (hf.eval rfl) (hf.eval rfl) (r_lt _ _ _ _)) ?_; clear hf a; intro a hf
  refine s_nil ?_
  refine then_n ?_
  refine c_cond hf rfl (fun hi0 => ?_) (fun hi0 => ?_)
  · simp only [decide_eq_true_eq, decide_eq_false_iff_not, Bool.not_eq_true', Bool.not_eq_false', Bool.not_eq_true, Int.not_lt, Int.not_le] at hi0
    have hlt : i < ws.length := by omega
    have hlu : i < us.length := by omega
    obtain ⟨aw, rfl⟩ := hrw.some (by omega)
    obtain ⟨ab, ao2, rfl⟩ := rdS_plain (sz := 2) (fun _ => rfl) (by decide) hrw (by omega)
    obtain ⟨au, rfl⟩ := hru.some (by omega)
    obtain ⟨ub, uo, rfl⟩ := rdS_plain (sz := 1) (fun _ => rfl) (by decide) hru (by omega)
    obtain ⟨hq1, hq2⟩ := dk_get huk hlu hlt
    have hgw := hgd _ (List.getElem_mem hlt)
    have hG1 := hG _ (List.getElem_mem hlu)
    have hG2 : ∃ a8, us[i].2.1 = some a8 := by
      unfold Gd fullV at hG1
      rcases hG1.2 with ⟨c9, e9, hn9⟩ | ⟨a9, c9, e9, _⟩
      · simp at hn9
      · injection e9 with e9; exact ⟨a9, e9⟩
    obtain ⟨a8, ha8⟩ := hG2
    have hG3 : RdB (hp w0) (.slice (some a8) (ws[i].2.2.2.length + 4) us[i].2.2.1) (ws[i].2.2.2 ++ [0xC0, 0xC1, 0xC2, 0xC3]) := by
      unfold Gd fullV at hG1
      rw [ha8, hq2] at hG1; exact hG1
    refine wp_skip ?_
    refine then_n ?_
    refine wp_seq ?_
    refine wp_block ?_
    refine wp_seq ?_
    refine c_draw hs (fun w' => Kept w0 w' None_) [.held, .held, .held, .held, .held, .held, .held, .held, .held, .eff, .held] (by kernel_rfl) (by kernel_rfl) (fun w' _ hs => hs.kept) ?_
    clear hs; intro w hs hC hw
    refine m_held hf rfl (fun w' _ => x_move (hf.eval rfl) w') ?_; clear hf a; intro a hf
    refine m_held hf rfl (fun w' _ => x_move (hf.eval rfl) w') ?_; clear hf a; intro a hf
    refine m_held hf rfl (fun w' _ => x_indexAddr sl25 (hf.eval rfl) (hf.eval rfl) (by omega) (by omega) w') ?_; clear hf a; intro a hf
    replace hf := hf.now (k := 15) (v' := .pointer (some ⟨ub, uo + i * 1, none⟩)) rfl (by rw [addr_add]; rfl)
    refine m_held hf rfl (fun w' hc => x_load sc22 (hf.eval rfl) (rdS_cellAt (f := fA) (sz := 1) (fun _ => rfl) (RdC.mono hc.hle hru) (k := 0) hlu rfl)) ?_; clear hf a; intro a hf
    replace hf := hf.now (k := 16) (v' := .slice (some a8) (ws[i].2.2.2.length + 4) us[i].2.2.1) rfl (by unfold fullV; rw [ha8, hq2])
    refine m_held hf rfl (fun w' _ => x_move (hf.eval rfl) w') ?_; clear hf a; intro a hf
    refine m_held hf rfl (fun w' _ => x_move (hf.eval rfl) w') ?_; clear hf a; intro a hf
    refine m_held hf rfl (fun w' _ => x_indexAddr sl23 (hf.eval rfl) (hf.eval rfl) (by omega) (by omega) w') ?_; clear hf a; intro a hf
    replace hf := hf.now (k := 19) (v' := .pointer (some ⟨ab, ao2 + i * 2, none⟩)) rfl (by rw [addr_add]; rfl)
    refine m_held hf rfl (fun w' _ => x_fieldAddr fo46_1 (hf.eval rfl) w') ?_; clear hf a; intro a hf
    refine m_held hf rfl (fun w' hc => x_load sc22 (hf.eval rfl) (rdS_cellAt (f := wF) (sz := 2) (fun _ => rfl) (RdC.mono hc.hle hrw) (k := 1) hlt rfl)) ?_; clear hf a; intro a hf
    refine m_eff hf rfl (y_call (hf.eval rfl) (hf.evals rfl) Try.call13 ((whole_spec _ _ _ _ _ _ ws[i].2.2.2 (hs.oldB hgw.1) rfl (hs.oldB hG3) (by omega)).mono ?_))
    rintro e w1 ⟨rfl, hk⟩
    replace hs := hs.ext hk
    refine ⟨_, rfl, ⟨hs.kept, ?_⟩⟩; clear hf a; intro a hf
    refine m_held hf rfl (fun w' _ => x_assign (hf.eval rfl) w') ?_; clear hf a; intro a hf
    refine m_nil ?_
    refine then_n ?_
    refine wp_seq ?_
    refine wp_region_lit ?_
    refine s_m hf rfl ?_; clear hf a; intro a hf
    refine s_v hf (x_not (hf.eval rfl)) ?_; clear hf a; intro a hf
    refine s_nil ?_
    refine then_n ?_
    refine c_cond_f hf rfl rfl ?_
    refine wp_skip ?_
    refine blk_n ?_
    refine then_n ?_
    refine wp_region_lit ?_
    refine s_m hf rfl ?_; clear hf a; intro a hf
    refine s_v hf (x_bin (hf.eval rfl) (hf.eval rfl) (r_addi _ (by omega) (by omega))) ?_; clear hf a; intro a hf
    refine s_a hf rfl ?_; clear hf a; intro a hf
    refine s_nil ?_
    exact ⟨_, _, ⟨i + 1, rfl, rfl, by omega, hs⟩, by omega, hf.sub ⟨rfl, rfl, rfl, trivial⟩⟩
  · simp only [decide_eq_true_eq, decide_eq_false_iff_not, Bool.not_eq_true', Bool.not_eq_false', Bool.not_eq_true, Int.not_lt, Int.not_le] at hi0
    refine wp_exit ?_
    refine then_x ?_
    refine then_x ?_
    refine blk_x ?_
    refine then_n ?_
    refine wp_seq ?_
    refine wp_region_lit ?_
    refine s_a hf rfl ?_; clear hf a; intro a hf
    refine s_nil ?_
    refine then_n ?_
    refine wp_ret ?_
    refine r_1 hf Try.results15 rfl ?_
    exact ⟨rfl, hs.kept⟩

theorem rneed_in (w0 : World) (old size : Int) (aw : Option Addr) (cw : Nat) (ws : List Wr) (hrw : RdS wF 2 (hp w0) (.slice aw ws.length cw) ws) (hlw : ws.length ≤ 1048576) (h1 : 0 ≤ old ∧ old ≤ 16777216) (h2 : 0 ≤ size ∧ size ≤ 16777216) :
    Calls Try.prog 17 #[.int .i64 old, .int .i64 size, .slice aw ws.length cw] w0 fun e w' => e = .returned (.tuple #[.int .i64 (if rgt size ws 0 = true then filZ old size (lonZ (savL old ws)) else 0), .int .i64 (if rgt size ws 0 = true then 0 else 143)]) ∧ Kept w0 w' None_ := by
  cases hr : rgt size ws 0 with
  | false => simpa using rneed_b2 w0 old size aw cw ws hrw hlw h1 h2 hr
  | true => simpa using rneed_ok w0 old size aw cw ws hrw hlw h1 h2 hr

theorem needs_b1 (w0 : World) (old size : Int) (aw : Option Addr) (cw : Nat) (ws : List Wr) (hrw : RdS wF 2 (hp w0) (.slice aw ws.length cw) ws) (hlw : ws.length ≤ 1048576) (hgd : ∀ z ∈ ws, RdB (hp w0) (.slice z.2.1 z.2.2.2.length z.2.2.1) z.2.2.2 ∧ z.2.2.2.length ≤ 1048576) (hb : ¬ ((0 ≤ old ∧ old ≤ 16777216) ∧ (0 ≤ size ∧ size ≤ 16777216))) : Calls Try.prog 4 #[.int .i64 old, .int .i64 size, .slice aw ws.length cw] w0 fun e w' => e = .returned (.bool true) ∧ Kept w0 w' None_ := by
  have hs := St.start w0 None_
  refine c_enter (N := 51) Try.func4 rfl Try.ntmps4 (by simp) ?_
  intro a hf
  refine wp_seq ?_
  refine wp_region_lit ?_
  refine s_a hf rfl ?_; clear hf a; intro a hf
  refine s_nil ?_
  refine then_n ?_
  refine wp_seq ?_
  refine wp_region_lit ?_
  refine s_m hf rfl ?_; clear hf a; intro a hf
  refine s_do hf rfl (y_call (hf.eval rfl) (hf.evals rfl) Try.call7 ((framedWrites_spec w0 _ _ ws hrw hlw hgd).mono ?_))
  rintro e w1 ⟨a5, c5, a6, c6, us, rfl, hul, huk, hru, hra, hG, hk⟩
  replace hs := hs.ext hk
  refine ⟨_, rfl, ?_⟩; clear hf a; intro a hf
  refine s_m hf rfl ?_; clear hf a; intro a hf
  refine s_v hf (x_extract (hf.eval rfl) rfl) ?_; clear hf a; intro a hf
  refine s_v hf (x_extract (hf.eval rfl) rfl) ?_; clear hf a; intro a hf
  refine s_a hf rfl ?_; clear hf a; intro a hf
  refine s_a hf rfl ?_; clear hf a; intro a hf
  refine s_nil ?_
  refine then_n ?_
  refine wp_seq ?_
  refine wp_region_lit ?_
  refine s_m hf rfl ?_; clear hf a; intro a hf
  refine s_m hf rfl ?_; clear hf a; intro a hf
  refine s_m hf rfl ?_; clear hf a; intro a hf
  refine s_do hf rfl (y_call (hf.eval rfl) (hf.evals rfl) Try.call16 ((need_b1 _ old size _ _ us hru (by omega) hb).mono ?_))
  rintro e w1 ⟨rfl, hk⟩
  replace hru : RdS wF 2 (hp w1) _ us := RdC.mono hk.hle hru
  replace hra : RdS fA 1 (hp w1) _ us := RdC.mono hk.hle hra
  replace hG : ∀ z ∈ us, Gd (hp w1) z := fun z hz => RdC.mono hk.hle (hG z hz)
  replace hs := hs.ext hk
  refine ⟨_, rfl, ?_⟩; clear hf a; intro a hf
  refine s_m hf rfl ?_; clear hf a; intro a hf
  refine s_v hf (x_extract (hf.eval rfl) rfl) ?_; clear hf a; intro a hf
  refine s_v hf (x_extract (hf.eval rfl) rfl) ?_; clear hf a; intro a hf
  refine s_a hf rfl ?_; clear hf a; intro a hf
  refine s_a hf rfl ?_; clear hf a; intro a hf
  refine s_nil ?_
  refine then_n ?_
  refine wp_seq ?_
  refine wp_region_lit ?_
  refine s_m hf rfl ?_; clear hf a; intro a hf
  refine s_m hf rfl ?_; clear hf a; intro a hf
  refine s_m hf rfl ?_; clear hf a; intro a hf
  refine s_do hf rfl (y_call (hf.eval rfl) (hf.evals rfl) Try.call17 ((rneed_b1 _ old size _ _ ws (hs.old hrw) hlw hb).mono ?_))
  rintro e w1 ⟨rfl, hk⟩
  replace hru : RdS wF 2 (hp w1) _ us := RdC.mono hk.hle hru
  replace hra : RdS fA 1 (hp w1) _ us := RdC.mono hk.hle hra
  replace hG : ∀ z ∈ us, Gd (hp w1) z := fun z hz => RdC.mono hk.hle (hG z hz)
  replace hs := hs.ext hk
  refine ⟨_, rfl, ?_⟩; clear hf a; intro a hf
  refine s_m hf rfl ?_; clear hf a; intro a hf
  refine s_v hf (x_extract (hf.eval rfl) rfl) ?_; clear hf a; intro a hf
  refine s_v hf (x_extract (hf.eval rfl) rfl) ?_; clear hf a; intro a hf
  refine s_a hf rfl ?_; clear hf a; intro a hf
  refine s_a hf rfl ?_; clear hf a; intro a hf
  refine s_nil ?_
  refine then_n ?_
  refine wp_seq ?_
  refine wp_region_lit ?_
  refine s_m hf rfl ?_; clear hf a; intro a hf
  refine s_m hf rfl ?_; clear hf a; intro a hf
  refine s_v hf (x_bin (hf.eval rfl) (hf.eval rfl) (r_eq _ _ _ _)) ?_; clear hf a; intro a hf
  refine s_m hf rfl ?_; clear hf a; intro a hf
  replace hf := hf.now (k := 35) (v' := .bool true) rfl (congrArg Value.bool (by simp))
  refine s_do hf (wanted_of hf rfl rfl rfl) (.value (x_move (hf.eval rfl) _) ?_); clear hf a; intro a hf
  refine s_do hf (wanted_of hf rfl rfl rfl) (y_call (hf.eval rfl) (hf.evals rfl) Try.call11 ((num_spec _ _).mono ?_))
  rintro e w1 ⟨rfl, hw⟩
  subst hw
  refine ⟨_, rfl, ?_⟩; clear hf a; intro a hf
  refine s_do hf (wanted_of hf rfl rfl rfl) (.value (x_move (hf.eval rfl) _) ?_); clear hf a; intro a hf
  refine s_do hf (wanted_of hf rfl rfl rfl) (.value (x_bin (hf.eval rfl) (hf.eval rfl) (r_eq _ _ _ _) _) ?_); clear hf a; intro a hf
  refine s_v hf (x_pick_t (hf.eval rfl) (hf.eval rfl)) ?_; clear hf a; intro a hf
  refine s_m hf rfl ?_; clear hf a; intro a hf
  replace hf := hf.now (k := 41) (v' := .bool true) rfl (congrArg Value.bool (by simp))
  refine s_do hf (wanted_of hf rfl rfl rfl) (.value (x_move (hf.eval rfl) _) ?_); clear hf a; intro a hf
  refine s_do hf (wanted_of hf rfl rfl rfl) (.value (x_move (hf.eval rfl) _) ?_); clear hf a; intro a hf
  refine s_do hf (wanted_of hf rfl rfl rfl) (y_call (hf.eval rfl) (hf.evals rfl) Try.call14 ((sameWrites_spec _ _ _ ws (hs.old hrw) hlw (fun z hz => ⟨hs.oldB (hgd z hz).1, (hgd z hz).2⟩) _ _ us hru hul huk (fun z hz => (hG z hz).pre (RdB.cap (hG z hz)))).mono ?_))
  rintro e w1 ⟨rfl, hk⟩
  replace hru : RdS wF 2 (hp w1) _ us := RdC.mono hk.hle hru
  replace hra : RdS fA 1 (hp w1) _ us := RdC.mono hk.hle hra
  replace hG : ∀ z ∈ us, Gd (hp w1) z := fun z hz => RdC.mono hk.hle (hG z hz)
  replace hs := hs.ext hk
  refine ⟨_, rfl, ?_⟩; clear hf a; intro a hf
  refine s_v hf (x_pick_t (hf.eval rfl) (hf.eval rfl)) ?_; clear hf a; intro a hf
  refine s_m hf rfl ?_; clear hf a; intro a hf
  replace hf := hf.now (k := 46) (v' := .bool true) rfl (congrArg Value.bool (by simp))
  refine s_do hf (wanted_of hf rfl rfl rfl) (.value (x_move (hf.eval rfl) _) ?_); clear hf a; intro a hf
  refine s_do hf (wanted_of hf rfl rfl rfl) (.value (x_move (hf.eval rfl) _) ?_); clear hf a; intro a hf
  refine s_do hf (wanted_of hf rfl rfl rfl) (y_call (hf.eval rfl) (hf.evals rfl) Try.call15 ((wholeAll_spec _ _ _ ws (hs.old hrw) hlw (fun z hz => ⟨hs.oldB (hgd z hz).1, (hgd z hz).2⟩) _ _ us hra hul huk hG).mono ?_))
  rintro e w1 ⟨rfl, hk⟩
  replace hru : RdS wF 2 (hp w1) _ us := RdC.mono hk.hle hru
  replace hra : RdS fA 1 (hp w1) _ us := RdC.mono hk.hle hra
  replace hG : ∀ z ∈ us, Gd (hp w1) z := fun z hz => RdC.mono hk.hle (hG z hz)
  replace hs := hs.ext hk
  refine ⟨_, rfl, ?_⟩; clear hf a; intro a hf
  refine s_v hf (x_pick_t (hf.eval rfl) (hf.eval rfl)) ?_; clear hf a; intro a hf
  refine s_a hf rfl ?_; clear hf a; intro a hf
  refine s_nil ?_
  refine then_n ?_
  refine wp_ret ?_
  refine r_1 hf Try.results4 rfl ?_
  exact ⟨by simp, hs.kept⟩

theorem needs_in (w0 : World) (old size : Int) (aw : Option Addr) (cw : Nat) (ws : List Wr) (hrw : RdS wF 2 (hp w0) (.slice aw ws.length cw) ws) (hlw : ws.length ≤ 1048576) (hgd : ∀ z ∈ ws, RdB (hp w0) (.slice z.2.1 z.2.2.2.length z.2.2.1) z.2.2.2 ∧ z.2.2.2.length ≤ 1048576) (h1 : 0 ≤ old ∧ old ≤ 16777216) (h2 : 0 ≤ size ∧ size ≤ 16777216) : Calls Try.prog 4 #[.int .i64 old, .int .i64 size, .slice aw ws.length cw] w0 fun e w' => e = .returned (.bool true) ∧ Kept w0 w' None_ := by
  have hs := St.start w0 None_
  refine c_enter (N := 51) Try.func4 rfl Try.ntmps4 (by simp) ?_
  intro a hf
  refine wp_seq ?_
  refine wp_region_lit ?_
  refine s_a hf rfl ?_; clear hf a; intro a hf
  refine s_nil ?_
  refine then_n ?_
  refine wp_seq ?_
  refine wp_region_lit ?_
  refine s_m hf rfl ?_; clear hf a; intro a hf
  refine s_do hf rfl (y_call (hf.eval rfl) (hf.evals rfl) Try.call7 ((framedWrites_spec w0 _ _ ws hrw hlw hgd).mono ?_))
  rintro e w1 ⟨a5, c5, a6, c6, us, rfl, hul, huk, hru, hra, hG, hk⟩
  replace hs := hs.ext hk
  refine ⟨_, rfl, ?_⟩; clear hf a; intro a hf
  refine s_m hf rfl ?_; clear hf a; intro a hf
  refine s_v hf (x_extract (hf.eval rfl) rfl) ?_; clear hf a; intro a hf
  refine s_v hf (x_extract (hf.eval rfl) rfl) ?_; clear hf a; intro a hf
  refine s_a hf rfl ?_; clear hf a; intro a hf
  refine s_a hf rfl ?_; clear hf a; intro a hf
  refine s_nil ?_
  refine then_n ?_
  refine wp_seq ?_
  refine wp_region_lit ?_
  refine s_m hf rfl ?_; clear hf a; intro a hf
  refine s_m hf rfl ?_; clear hf a; intro a hf
  refine s_m hf rfl ?_; clear hf a; intro a hf
  refine s_do hf rfl (y_call (hf.eval rfl) (hf.evals rfl) Try.call16 ((need_in _ old size _ _ us hru (by omega) ws (dk_key huk) h1 h2).mono ?_))
  rintro e w1 ⟨rfl, hk⟩
  replace hru : RdS wF 2 (hp w1) _ us := RdC.mono hk.hle hru
  replace hra : RdS fA 1 (hp w1) _ us := RdC.mono hk.hle hra
  replace hG : ∀ z ∈ us, Gd (hp w1) z := fun z hz => RdC.mono hk.hle (hG z hz)
  replace hs := hs.ext hk
  refine ⟨_, rfl, ?_⟩; clear hf a; intro a hf
  refine s_m hf rfl ?_; clear hf a; intro a hf
  refine s_v hf (x_extract (hf.eval rfl) rfl) ?_; clear hf a; intro a hf
  refine s_v hf (x_extract (hf.eval rfl) rfl) ?_; clear hf a; intro a hf
  refine s_a hf rfl ?_; clear hf a; intro a hf
  refine s_a hf rfl ?_; clear hf a; intro a hf
  refine s_nil ?_
  refine then_n ?_
  refine wp_seq ?_
  refine wp_region_lit ?_
  refine s_m hf rfl ?_; clear hf a; intro a hf
  refine s_m hf rfl ?_; clear hf a; intro a hf
  refine s_m hf rfl ?_; clear hf a; intro a hf
  refine s_do hf rfl (y_call (hf.eval rfl) (hf.evals rfl) Try.call17 ((rneed_in _ old size _ _ ws (hs.old hrw) hlw h1 h2).mono ?_))
  rintro e w1 ⟨rfl, hk⟩
  replace hru : RdS wF 2 (hp w1) _ us := RdC.mono hk.hle hru
  replace hra : RdS fA 1 (hp w1) _ us := RdC.mono hk.hle hra
  replace hG : ∀ z ∈ us, Gd (hp w1) z := fun z hz => RdC.mono hk.hle (hG z hz)
  replace hs := hs.ext hk
  refine ⟨_, rfl, ?_⟩; clear hf a; intro a hf
  refine s_m hf rfl ?_; clear hf a; intro a hf
  refine s_v hf (x_extract (hf.eval rfl) rfl) ?_; clear hf a; intro a hf
  refine s_v hf (x_extract (hf.eval rfl) rfl) ?_; clear hf a; intro a hf
  refine s_a hf rfl ?_; clear hf a; intro a hf
  refine s_a hf rfl ?_; clear hf a; intro a hf
  refine s_nil ?_
  refine then_n ?_
  refine wp_seq ?_
  refine wp_region_lit ?_
  refine s_m hf rfl ?_; clear hf a; intro a hf
  refine s_m hf rfl ?_; clear hf a; intro a hf
  refine s_v hf (x_bin (hf.eval rfl) (hf.eval rfl) (r_eq _ _ _ _)) ?_; clear hf a; intro a hf
  refine s_m hf rfl ?_; clear hf a; intro a hf
  replace hf := hf.now (k := 35) (v' := .bool true) rfl (congrArg Value.bool (by simp))
  refine s_do hf (wanted_of hf rfl rfl rfl) (.value (x_move (hf.eval rfl) _) ?_); clear hf a; intro a hf
  refine s_do hf (wanted_of hf rfl rfl rfl) (y_call (hf.eval rfl) (hf.evals rfl) Try.call11 ((num_spec _ _).mono ?_))
  rintro e w1 ⟨rfl, hw⟩
  subst hw
  refine ⟨_, rfl, ?_⟩; clear hf a; intro a hf
  refine s_do hf (wanted_of hf rfl rfl rfl) (.value (x_move (hf.eval rfl) _) ?_); clear hf a; intro a hf
  refine s_do hf (wanted_of hf rfl rfl rfl) (.value (x_bin (hf.eval rfl) (hf.eval rfl) (r_eq _ _ _ _) _) ?_); clear hf a; intro a hf
  refine s_v hf (x_pick_t (hf.eval rfl) (hf.eval rfl)) ?_; clear hf a; intro a hf
  refine s_m hf rfl ?_; clear hf a; intro a hf
  replace hf := hf.now (k := 41) (v' := .bool true) rfl (congrArg Value.bool (by simp))
  refine s_do hf (wanted_of hf rfl rfl rfl) (.value (x_move (hf.eval rfl) _) ?_); clear hf a; intro a hf
  refine s_do hf (wanted_of hf rfl rfl rfl) (.value (x_move (hf.eval rfl) _) ?_); clear hf a; intro a hf
  refine s_do hf (wanted_of hf rfl rfl rfl) (y_call (hf.eval rfl) (hf.evals rfl) Try.call14 ((sameWrites_spec _ _ _ ws (hs.old hrw) hlw (fun z hz => ⟨hs.oldB (hgd z hz).1, (hgd z hz).2⟩) _ _ us hru hul huk (fun z hz => (hG z hz).pre (RdB.cap (hG z hz)))).mono ?_))
  rintro e w1 ⟨rfl, hk⟩
  replace hru : RdS wF 2 (hp w1) _ us := RdC.mono hk.hle hru
  replace hra : RdS fA 1 (hp w1) _ us := RdC.mono hk.hle hra
  replace hG : ∀ z ∈ us, Gd (hp w1) z := fun z hz => RdC.mono hk.hle (hG z hz)
  replace hs := hs.ext hk
  refine ⟨_, rfl, ?_⟩; clear hf a; intro a hf
  refine s_v hf (x_pick_t (hf.eval rfl) (hf.eval rfl)) ?_; clear hf a; intro a hf
  refine s_m hf rfl ?_; clear hf a; intro a hf
  replace hf := hf.now (k := 46) (v' := .bool true) rfl (congrArg Value.bool (by simp))
  refine s_do hf (wanted_of hf rfl rfl rfl) (.value (x_move (hf.eval rfl) _) ?_); clear hf a; intro a hf
  refine s_do hf (wanted_of hf rfl rfl rfl) (.value (x_move (hf.eval rfl) _) ?_); clear hf a; intro a hf
  refine s_do hf (wanted_of hf rfl rfl rfl) (y_call (hf.eval rfl) (hf.evals rfl) Try.call15 ((wholeAll_spec _ _ _ ws (hs.old hrw) hlw (fun z hz => ⟨hs.oldB (hgd z hz).1, (hgd z hz).2⟩) _ _ us hra hul huk hG).mono ?_))
  rintro e w1 ⟨rfl, hk⟩
  replace hru : RdS wF 2 (hp w1) _ us := RdC.mono hk.hle hru
  replace hra : RdS fA 1 (hp w1) _ us := RdC.mono hk.hle hra
  replace hG : ∀ z ∈ us, Gd (hp w1) z := fun z hz => RdC.mono hk.hle (hG z hz)
  replace hs := hs.ext hk
  refine ⟨_, rfl, ?_⟩; clear hf a; intro a hf
  refine s_v hf (x_pick_t (hf.eval rfl) (hf.eval rfl)) ?_; clear hf a; intro a hf
  refine s_a hf rfl ?_; clear hf a; intro a hf
  refine s_nil ?_
  refine then_n ?_
  refine wp_ret ?_
  refine r_1 hf Try.results4 rfl ?_
  exact ⟨by simp, hs.kept⟩

theorem needs_spec (w0 : World) (old size : Int) (aw : Option Addr) (cw : Nat) (ws : List Wr) (hrw : RdS wF 2 (hp w0) (.slice aw ws.length cw) ws) (hlw : ws.length ≤ 1048576) (hgd : ∀ z ∈ ws, RdB (hp w0) (.slice z.2.1 z.2.2.2.length z.2.2.1) z.2.2.2 ∧ z.2.2.2.length ≤ 1048576)  : Calls Try.prog 4 #[.int .i64 old, .int .i64 size, .slice aw ws.length cw] w0 fun e w' => e = .returned (.bool true) ∧ Kept w0 w' None_ := by
  by_cases hb : ((0 ≤ old ∧ old ≤ 16777216) ∧ (0 ≤ size ∧ size ≤ 16777216))
  · exact needs_in w0 old size aw cw ws hrw hlw hgd hb.1 hb.2
  · exact needs_b1 w0 old size aw cw ws hrw hlw hgd hb

end Go.Proofs.Ytehakfbfjpolfaa
