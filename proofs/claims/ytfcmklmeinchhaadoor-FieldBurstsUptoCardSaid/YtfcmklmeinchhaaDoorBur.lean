/- The statement FieldBursts: turned bits within 32 change the sum. -/
import Derived.Test.YtfcmklmeinchhaaDoorVI
import Derived.Test.YtfcmklmeinchhaaDoorFds
import Derived.Test.YtfcmklmeinchhaaDoorProg
import Derived.Test.YtfcmklmeinchhaaDoorFacts
set_option maxRecDepth 100000
set_option linter.all false
namespace Go.Proofs.YtfcmklmeinchhaaDoor
open Go Vw
theorem turned_spec (w0 : World) (a1 : Option Addr) (c1 : Nat) (l : List UInt8) (hr1 : RdB (hp w0) (.slice a1 l.length c1) l) (hl1 : l.length ≤ 140737488351232) (at0 pat : Nat) (hat : at0 < 8 * l.length) (hpat : pat < 4294967296) : Calls Tryd.prog 17 #[.slice a1 l.length c1, .int .i64 (at0 : Int), .int .u32 ((pat : Nat) : Int)] w0 fun e w' => ∃ (v : Value) (d : List UInt8) (any : Bool) (S : Nat), e = .returned (.tuple #[v, .bool any]) ∧ d.length = l.length ∧ (∀ r, upd r d = upd r l ^^^ mvN (8 * l.length - at0) S) ∧ S < 4294967296 ∧ (any = true → S ≠ 0) ∧ St ⟨w0, None_⟩ w' [slB 5 v d] := by
  have hs := St.start w0 None_
  refine c_enter (N := 46) Tryd.func17 rfl Tryd.ntmps17 (by simp) ?_
  intro a hf
  refine wp_seq ?_
  refine wp_region_lit ?_
  refine s_a hf rfl ?_; clear hf a; intro a hf
  refine s_a hf rfl ?_; clear hf a; intro a hf
  refine s_nil ?_
  refine then_n ?_
  refine wp_seq ?_
  refine wp_region_lit ?_
  refine s_m hf rfl ?_; clear hf a; intro a hf
  refine s_do hf rfl (y_call (hf.eval rfl) (hf.evals rfl) Tryd.call18 ((copied_spec w0 _ _ l hr1 (by omega)).mono ?_))
  rintro e w1 ⟨a2, c2, rfl, hs⟩
  refine ⟨_, rfl, ?_⟩; clear hf a; intro a hf
  refine s_a hf rfl ?_; clear hf a; intro a hf
  refine s_nil ?_
  refine then_n ?_
  refine wp_seq ?_
  refine wp_region_lit ?_
  refine s_a hf rfl ?_; clear hf a; intro a hf
  refine s_nil ?_
  refine then_n ?_
  refine wp_seq ?_
  refine wp_seq ?_
  refine wp_region_lit ?_
  refine s_a hf rfl ?_; clear hf a; intro a hf
  refine s_nil ?_
  refine then_n ?_
  refine wp_block ?_
  refine c_loop (L0 := [(1, _), (6, _), (7, _), (8, _)]) (fun M w m => ∃ (k : Nat) (d : List UInt8) (any : Bool) (S : Nat), M = [(2, .int .u32 ((pat / 2 ^ k : Nat) : Int)), (9, .bool any), (10, .int .i64 (k : Int))] ∧ 32 - k = m ∧ k ≤ 32 ∧ d.length = l.length ∧ (∀ r, upd r d = upd r l ^^^ mvN (8 * l.length - at0) S) ∧ S < 2 ^ k ∧ (any = true → S ≠ 0) ∧ St ⟨w0, None_⟩ w [slB 5 (.slice a2 l.length c2) d]) (M0 := [(2, .int .u32 ((pat : Nat) : Int)), (9, .bool false), (10, .int .i64 0)]) (⟨0, l, false, 0, by rw [Nat.pow_zero, Nat.div_one]; rfl, rfl, Nat.zero_le _, rfl, (fun r => by rw [mvN_zero, Nat.xor_zero]), by decide, (fun h => by cases h), hs⟩) (hf.sub ⟨rfl, rfl, rfl, rfl, rfl, rfl, rfl, trivial⟩) ?_
  clear hf hs a
  rintro M m a w ⟨k, d, any, S, rfl, rfl, hk, hd, hu, hS, hany, hs⟩ hf
  refine wp_seq ?_
  refine wp_seq ?_
  refine wp_region_lit ?_
  refine s_m hf rfl ?_; clear hf a; intro a hf
  refine s_v hf (x_bin (hf.eval rfl) (hf.eval rfl) (r_lt _ _ _ _)) ?_; clear hf a; intro a hf
  refine s_nil ?_
  refine then_n ?_
  refine c_cond hf rfl (fun hi0 => ?_) (fun hi0 => ?_)
  · simp only [decide_eq_true_eq, decide_eq_false_iff_not, Bool.not_eq_true', Bool.not_eq_false', Bool.not_eq_true, Int.not_lt, Int.not_le] at hi0
    have hlt : k < 32 := by omega
    refine wp_skip ?_
    refine then_n ?_
    refine wp_seq ?_
    refine wp_block ?_
    refine wp_seq ?_
    refine wp_seq ?_
    refine wp_region_lit ?_
    refine s_m hf rfl ?_; clear hf a; intro a hf
    refine s_v hf (x_bin (hf.eval rfl) (hf.eval rfl) (r_remn _ _ (Int.natCast_nonneg _) (by decide))) ?_; clear hf a; intro a hf
    refine s_v hf (x_bin (hf.eval rfl) (hf.eval rfl) (r_eq _ _ _ _)) ?_; clear hf a; intro a hf
    refine s_nil ?_
    refine then_n ?_
    refine c_cond hf rfl (fun hi1 => ?_) (fun hi1 => ?_)
    · simp only [decide_eq_true_eq, decide_eq_false_iff_not, Bool.not_eq_true', Bool.not_eq_false', Bool.not_eq_true, Int.not_lt, Int.not_le] at hi1
      refine wp_seq ?_
      refine wp_region_lit ?_
      refine s_m hf rfl ?_; clear hf a; intro a hf
      refine s_m hf rfl ?_; clear hf a; intro a hf
      refine s_v hf (x_bin (hf.eval rfl) (hf.eval rfl) (r_addi _ (by omega) (by omega))) ?_; clear hf a; intro a hf
      replace hf := hf.now (k := 23) (v' := .int .i64 ((at0 + k : Nat) : Int)) rfl (rfl)
      refine s_a hf rfl ?_; clear hf a; intro a hf
      refine s_nil ?_
      refine then_n ?_
      refine wp_seq ?_
      refine wp_region_lit ?_
      refine s_m hf rfl ?_; clear hf a; intro a hf
      refine s_v hf (x_bin (hf.eval rfl) (hf.eval rfl) (r_quon _ (by omega) (by omega) (by omega))) ?_; clear hf a; intro a hf
      replace hf := hf.now (k := 25) (v' := .int .i64 (((at0 + k) / 8 : Nat) : Int)) rfl (by congr 1)
      refine s_m hf rfl ?_; clear hf a; intro a hf
      refine s_v hf (x_len Tryd.underlying23 (hf.eval rfl)) ?_; clear hf a; intro a hf
      refine s_v hf (x_bin (hf.eval rfl) (hf.eval rfl) (r_lt _ _ _ _)) ?_; clear hf a; intro a hf
      refine s_nil ?_
      refine then_n ?_
      refine c_cond hf rfl (fun hi2 => ?_) (fun hi2 => ?_)
      · simp only [decide_eq_true_eq, decide_eq_false_iff_not, Bool.not_eq_true', Bool.not_eq_false', Bool.not_eq_true, Int.not_lt, Int.not_le] at hi2
        have hs9 : St ⟨w0, None_⟩ w [slB 5 (.slice a2 d.length c2) d] := by rw [hd]; exact hs
        obtain ⟨a2, rfl⟩ := sl_some hs9 (by omega)
        clear hs9
        have hqd : (at0 + k) / 8 < d.length := by omega
        refine wp_seq ?_
        refine c_draw hs (fun _ => True) [.held, .held, .held, .held, .held, .held, .held, .read, .held, .held, .held, .held, .held, .fin] (by kernel_rfl) (by kernel_rfl) (fun _ _ _ => trivial) ?_
        clear hs; intro w hs hC hw
        have hrd : RdB (hp w) (.slice (some a2) d.length c2) d := by rw [hd]; have := hs.rdB (.here _) fun h => slB_rd; exact this
        refine m_held hf rfl (fun w' _ => x_move (hf.eval rfl) w') ?_; clear hf a; intro a hf
        refine m_held hf rfl (fun w' _ => x_move (hf.eval rfl) w') ?_; clear hf a; intro a hf
        refine m_held hf rfl (fun w' _ => x_bin (hf.eval rfl) (hf.eval rfl) (r_quon _ (by omega) (by omega) (by omega)) w') ?_; clear hf a; intro a hf
        replace hf := hf.now (k := 31) (v' := .int .i64 (((at0 + k) / 8 : Nat) : Int)) rfl (by congr 1)
        refine m_held hf rfl (fun w' _ => x_move (hf.eval rfl) w') ?_; clear hf a; intro a hf
        refine m_held hf rfl (fun w' _ => x_move (hf.eval rfl) w') ?_; clear hf a; intro a hf
        refine m_held hf rfl (fun w' _ => x_bin (hf.eval rfl) (hf.eval rfl) (r_quon _ (by omega) (by omega) (by omega)) w') ?_; clear hf a; intro a hf
        replace hf := hf.now (k := 34) (v' := .int .i64 (((at0 + k) / 8 : Nat) : Int)) rfl (by congr 1)
        refine m_held hf rfl (fun w' _ => x_indexAddr sl23 (hf.eval rfl) (hf.eval rfl) (by omega) (by omega) w') ?_; clear hf a; intro a hf
        refine m_read hf rfl (x_loadB sc5 hrd (hf.eval rfl) (by omega)) ?_; clear hf a; intro a hf
        replace hf := hf.now (k := 36) (v' := u8v d[(at0 + k) / 8]) rfl (rfl)
        refine m_held hf rfl (fun w' _ => x_move (hf.eval rfl) w') ?_; clear hf a; intro a hf
        refine m_held hf rfl (fun w' _ => x_bin (hf.eval rfl) (hf.eval rfl) (r_remn _ _ (by omega) (by omega)) w') ?_; clear hf a; intro a hf
        replace hf := hf.now (k := 38) (v' := .int .i64 (((at0 + k) % 8 : Nat) : Int)) rfl (by congr 1)
        refine m_held hf rfl (fun w' _ => x_bin (hf.eval rfl) (hf.eval rfl) (r_shl1_u8 _ (Nat.mod_lt _ (by decide))) w') ?_; clear hf a; intro a hf
        refine m_held hf rfl (fun w' _ => x_bin (hf.eval rfl) (hf.eval rfl) (r_xor_u8 _ _ _) w') ?_; clear hf a; intro a hf
        refine m_held hf rfl (fun w' _ => x_indexAddr sl23 (hf.eval rfl) (hf.eval rfl) (by omega) (by omega) w') ?_; clear hf a; intro a hf
        refine m_fin0 hf rfl (y_setB (i := (at0 + k) / 8) (u := d[(at0 + k) / 8] ^^^ UInt8.ofNat (2 ^ ((at0 + k) % 8))) hs sc5 (hf.eval rfl) (hf.eval rfl) rfl hd.symm (.here _) (by omega) ?_); clear hf hs a; intro w hs; intro a hf
        refine then_n ?_
        refine wp_region_lit ?_
        have hts := turn_step (q := (at0 + k) / 8) (b := (at0 + k) % 8) hd hu rfl (by omega) hqd (Nat.mod_lt _ (by decide)) hlt (by omega) hS
        have hd3 : (d.set ((at0 + k) / 8) (d[(at0 + k) / 8] ^^^ UInt8.ofNat (2 ^ ((at0 + k) % 8)))).length = l.length := by rw [List.length_set]; exact hd
        refine s_a hf rfl ?_; clear hf a; intro a hf
        refine s_nil ?_
        refine then_n ?_
        refine wp_region_lit ?_
        refine s_m hf rfl ?_; clear hf a; intro a hf
        refine s_v hf (x_bin (hf.eval rfl) (hf.eval rfl) (r_quo _ _ (by omega))) ?_; clear hf a; intro a hf
        refine s_a hf rfl ?_; clear hf a; intro a hf
        refine s_nil ?_
        refine blk_n ?_
        refine then_n ?_
        refine wp_region_lit ?_
        refine s_m hf rfl ?_; clear hf a; intro a hf
        refine s_v hf (x_bin (hf.eval rfl) (hf.eval rfl) (r_addi _ (by omega) (by omega))) ?_; clear hf a; intro a hf
        refine s_a hf rfl ?_; clear hf a; intro a hf
        refine s_nil ?_
        have hS2 : S < 2 ^ (k + 1) := by rw [Nat.pow_succ]; omega
        replace hf := hf.now (k := 2) (v' := .int .u32 ((pat / 2 ^ (k + 1) : Nat) : Int)) rfl (by rw [tdiv_nn (Int.natCast_nonneg _) (by decide), wrap_u32, Nat.pow_succ, ← Nat.div_div_eq_div_mul]; congr 1; have h9 : pat / 2 ^ k ≤ pat := Nat.div_le_self _ _; generalize pat / 2 ^ k = Q at h9 ⊢; omega)
        exact ⟨_, _, ⟨k + 1, _, _, _, rfl, rfl, by omega, by first | exact hd3 | exact hd, by first | exact hts.1 | exact hu, by first | exact hts.2.1 | exact hS2, by first | exact (fun _ => hts.2.2) | exact hany, hs⟩, by omega, hf.sub ⟨rfl, rfl, rfl, rfl, rfl, rfl, rfl, trivial⟩⟩
      · simp only [decide_eq_true_eq, decide_eq_false_iff_not, Bool.not_eq_true', Bool.not_eq_false', Bool.not_eq_true, Int.not_lt, Int.not_le] at hi2
        refine wp_skip ?_
        refine then_n ?_
        refine wp_region_lit ?_
        refine s_m hf rfl ?_; clear hf a; intro a hf
        refine s_v hf (x_bin (hf.eval rfl) (hf.eval rfl) (r_quo _ _ (by omega))) ?_; clear hf a; intro a hf
        refine s_a hf rfl ?_; clear hf a; intro a hf
        refine s_nil ?_
        refine blk_n ?_
        refine then_n ?_
        refine wp_region_lit ?_
        refine s_m hf rfl ?_; clear hf a; intro a hf
        refine s_v hf (x_bin (hf.eval rfl) (hf.eval rfl) (r_addi _ (by omega) (by omega))) ?_; clear hf a; intro a hf
        refine s_a hf rfl ?_; clear hf a; intro a hf
        refine s_nil ?_
        have hS2 : S < 2 ^ (k + 1) := by rw [Nat.pow_succ]; omega
        replace hf := hf.now (k := 2) (v' := .int .u32 ((pat / 2 ^ (k + 1) : Nat) : Int)) rfl (by rw [tdiv_nn (Int.natCast_nonneg _) (by decide), wrap_u32, Nat.pow_succ, ← Nat.div_div_eq_div_mul]; congr 1; have h9 : pat / 2 ^ k ≤ pat := Nat.div_le_self _ _; generalize pat / 2 ^ k = Q at h9 ⊢; omega)
        exact ⟨_, _, ⟨k + 1, _, _, _, rfl, rfl, by omega, by first | exact hd3 | exact hd, by first | exact hts.1 | exact hu, by first | exact hts.2.1 | exact hS2, by first | exact (fun _ => hts.2.2) | exact hany, hs⟩, by omega, hf.sub ⟨rfl, rfl, rfl, rfl, rfl, rfl, rfl, trivial⟩⟩
    · simp only [decide_eq_true_eq, decide_eq_false_iff_not, Bool.not_eq_true', Bool.not_eq_false', Bool.not_eq_true, Int.not_lt, Int.not_le] at hi1
      refine wp_skip ?_
      refine then_n ?_
      refine wp_region_lit ?_
      refine s_m hf rfl ?_; clear hf a; intro a hf
      refine s_v hf (x_bin (hf.eval rfl) (hf.eval rfl) (r_quo _ _ (by omega))) ?_; clear hf a; intro a hf
      refine s_a hf rfl ?_; clear hf a; intro a hf
      refine s_nil ?_
      refine blk_n ?_
      refine then_n ?_
      refine wp_region_lit ?_
      refine s_m hf rfl ?_; clear hf a; intro a hf
      refine s_v hf (x_bin (hf.eval rfl) (hf.eval rfl) (r_addi _ (by omega) (by omega))) ?_; clear hf a; intro a hf
      refine s_a hf rfl ?_; clear hf a; intro a hf
      refine s_nil ?_
      have hS2 : S < 2 ^ (k + 1) := by rw [Nat.pow_succ]; omega
      replace hf := hf.now (k := 2) (v' := .int .u32 ((pat / 2 ^ (k + 1) : Nat) : Int)) rfl (by rw [tdiv_nn (Int.natCast_nonneg _) (by decide), wrap_u32, Nat.pow_succ, ← Nat.div_div_eq_div_mul]; congr 1; have h9 : pat / 2 ^ k ≤ pat := Nat.div_le_self _ _; generalize pat / 2 ^ k = Q at h9 ⊢; omega)
      exact ⟨_, _, ⟨k + 1, _, _, _, rfl, rfl, by omega, by first | exact hd3 | exact hd, by first | exact hts.1 | exact hu, by first | exact hts.2.1 | exact hS2, by first | exact (fun _ => hts.2.2) | exact hany, hs⟩, by omega, hf.sub ⟨rfl, rfl, rfl, rfl, rfl, rfl, rfl, trivial⟩⟩
  · simp only [decide_eq_true_eq, decide_eq_false_iff_not, Bool.not_eq_true', Bool.not_eq_false', Bool.not_eq_true, Int.not_lt, Int.not_le] at hi0
    refine wp_exit ?_
    refine then_x ?_
    refine then_x ?_
    refine blk_x ?_
    refine then_n ?_
    refine wp_seq ?_
    refine wp_region_lit ?_
    refine s_m hf rfl ?_; clear hf a; intro a hf
    refine s_m hf rfl ?_; clear hf a; intro a hf
    refine s_a hf rfl ?_; clear hf a; intro a hf
    refine s_a hf rfl ?_; clear hf a; intro a hf
    refine s_nil ?_
    refine then_n ?_
    refine wp_ret ?_
    refine r_2 hf Tryd.results17 rfl rfl ?_
    obtain rfl : k = 32 := by omega
    exact ⟨_, d, any, S, rfl, hd, hu, hS, hany, hs⟩

theorem fieldBursts_spec (w0 : World) (hT : Tab 0 (hp w0)) (a1 : Option Addr) (c1 : Nat) (data : List UInt8) (hr1 : RdB (hp w0) (.slice a1 data.length c1) data) (hl1 : data.length ≤ 140737488351232) (at_ : Int) (pat : Nat) (hpat : pat < 4294967296) : Calls Tryd.prog 5 #[.slice a1 data.length c1, .int .i64 at_, .int .u32 ((pat : Nat) : Int)] w0 fun e w' => e = .returned (.bool true) ∧ Kept w0 w' None_ := by
  have hs := St.start w0 None_
  refine c_enter (N := 41) Tryd.func5 rfl Tryd.ntmps5 (by simp) ?_
  intro a hf
  refine wp_seq ?_
  refine wp_region_lit ?_
  refine s_a hf rfl ?_; clear hf a; intro a hf
  refine s_nil ?_
  refine then_n ?_
  refine wp_seq ?_
  refine wp_region_lit ?_
  refine s_do hf rfl (y_call (hf.eval rfl) (hf.evals rfl) Tryd.call16 ((begun_spec _ (hT.kept hs.kept)).mono ?_))
  rintro e w1 ⟨rfl, hk⟩
  replace hs := hs.ext hk
  refine ⟨_, rfl, ?_⟩; clear hf a; intro a hf
  refine s_a hf rfl ?_; clear hf a; intro a hf
  refine s_nil ?_
  refine then_n ?_
  refine wp_seq ?_
  refine wp_seq ?_
  refine wp_region_lit ?_
  refine s_m hf rfl ?_; clear hf a; intro a hf
  refine s_v hf (x_not (hf.eval rfl)) ?_; clear hf a; intro a hf
  refine s_nil ?_
  refine then_n ?_
  refine c_cond_f hf rfl rfl ?_
  refine wp_skip ?_
  refine then_n ?_
  refine wp_seq ?_
  refine wp_seq ?_
  refine wp_region_lit ?_
  refine s_m hf rfl ?_; clear hf a; intro a hf
  refine s_v hf (x_bin (hf.eval rfl) (hf.eval rfl) (r_lt _ _ _ _)) ?_; clear hf a; intro a hf
  refine s_m hf rfl ?_; clear hf a; intro a hf
  refine s_bool hf (k := 17) rfl (fun hg4_2 hf' => ?_) (fun hg4_2 hf' => ?_)
  · clear hf
    have hf := hf'
    clear hf'
    simp only [decide_eq_true_eq, decide_eq_false_iff_not, Bool.not_eq_true', Bool.not_eq_false', Bool.not_eq_true, Int.not_lt, Int.not_le] at hg4_2
    refine s_pass hf rfl rfl ?_; clear hf a; intro a hf
    refine s_pass hf rfl rfl ?_; clear hf a; intro a hf
    refine s_pass hf rfl rfl ?_; clear hf a; intro a hf
    refine s_pass hf rfl rfl ?_; clear hf a; intro a hf
    refine s_pass hf rfl rfl ?_; clear hf a; intro a hf
    refine s_v hf (x_pick_t (hf.eval rfl) (hf.eval rfl)) ?_; clear hf a; intro a hf
    refine s_nil ?_
    refine then_n ?_
    refine c_cond_t hf rfl rfl ?_
    refine wp_seq ?_
    refine wp_region_lit ?_
    refine s_a hf rfl ?_; clear hf a; intro a hf
    refine s_nil ?_
    refine then_n ?_
    refine wp_ret ?_
    refine then_r ?_
    refine r_1 hf Tryd.results5 rfl ?_
    exact ⟨rfl, hs.kept⟩
  · clear hf
    have hf := hf'
    clear hf'
    simp only [decide_eq_true_eq, decide_eq_false_iff_not, Bool.not_eq_true', Bool.not_eq_false', Bool.not_eq_true, Int.not_lt, Int.not_le] at hg4_2
    refine s_do hf (wanted_of hf rfl rfl rfl) (.value (x_move (hf.eval rfl) _) ?_); clear hf a; intro a hf
    refine s_do hf (wanted_of hf rfl rfl rfl) (.value (x_move (hf.eval rfl) _) ?_); clear hf a; intro a hf
    refine s_do hf (wanted_of hf rfl rfl rfl) (.value (x_len Tryd.underlying23 (hf.eval rfl) _) ?_); clear hf a; intro a hf
    refine s_do hf (wanted_of hf rfl rfl rfl) (.value (x_bin (hf.eval rfl) (hf.eval rfl) (r_muli _ (by omega) (by omega)) _) ?_); clear hf a; intro a hf
    refine s_do hf (wanted_of hf rfl rfl rfl) (.value (x_bin (hf.eval rfl) (hf.eval rfl) (r_ge _ _ _ _) _) ?_); clear hf a; intro a hf
    refine s_v hf (x_pick_f (hf.eval rfl) (hf.eval rfl)) ?_; clear hf a; intro a hf
    refine s_nil ?_
    refine then_n ?_
    refine c_cond hf rfl (fun hi1 => ?_) (fun hi1 => ?_)
    · simp only [decide_eq_true_eq, decide_eq_false_iff_not, Bool.not_eq_true', Bool.not_eq_false', Bool.not_eq_true, Int.not_lt, Int.not_le] at hi1
      refine wp_seq ?_
      refine wp_region_lit ?_
      refine s_a hf rfl ?_; clear hf a; intro a hf
      refine s_nil ?_
      refine then_n ?_
      refine wp_ret ?_
      refine then_r ?_
      refine r_1 hf Tryd.results5 rfl ?_
      exact ⟨rfl, hs.kept⟩
    · simp only [decide_eq_true_eq, decide_eq_false_iff_not, Bool.not_eq_true', Bool.not_eq_false', Bool.not_eq_true, Int.not_lt, Int.not_le] at hi1
      obtain ⟨A, rfl⟩ := Int.eq_ofNat_of_zero_le (show 0 ≤ at_ by omega)
      refine wp_skip ?_
      refine then_n ?_
      refine wp_seq ?_
      refine wp_region_lit ?_
      refine s_m hf rfl ?_; clear hf a; intro a hf
      refine s_m hf rfl ?_; clear hf a; intro a hf
      refine s_m hf rfl ?_; clear hf a; intro a hf
      refine s_do hf rfl (y_call (hf.eval rfl) (hf.evals rfl) Tryd.call17 ((turned_spec _ _ _ data (hs.oldB hr1) (by omega) A pat (by omega) hpat).mono ?_))
      rintro e w1 ⟨v, d, any, S, rfl, hd, hu, hS, hany, hj⟩
      replace hs := hs.join hj
      simp only [List.cons_append, List.nil_append] at hs
      obtain ⟨a2, c2, rfl, hc2⟩ := slB_shape hs
      refine ⟨_, rfl, ?_⟩; clear hf a; intro a hf
      refine s_m hf rfl ?_; clear hf a; intro a hf
      refine s_v hf (x_extract (hf.eval rfl) rfl) ?_; clear hf a; intro a hf
      refine s_v hf (x_extract (hf.eval rfl) rfl) ?_; clear hf a; intro a hf
      refine s_a hf rfl ?_; clear hf a; intro a hf
      refine s_a hf rfl ?_; clear hf a; intro a hf
      refine s_nil ?_
      refine then_n ?_
      refine wp_seq ?_
      refine wp_seq ?_
      refine wp_region_lit ?_
      refine s_m hf rfl ?_; clear hf a; intro a hf
      refine s_v hf (x_not (hf.eval rfl)) ?_; clear hf a; intro a hf
      refine s_nil ?_
      refine then_n ?_
      refine c_cond hf rfl (fun hi2 => ?_) (fun hi2 => ?_)
      · replace hi2 := hi2
        refine wp_seq ?_
        refine wp_region_lit ?_
        refine s_a hf rfl ?_; clear hf a; intro a hf
        refine s_nil ?_
        refine then_n ?_
        refine wp_ret ?_
        refine then_r ?_
        refine r_1 hf Tryd.results5 rfl ?_
        exact ⟨rfl, hs.kept⟩
      · replace hi2 := hi2
        refine wp_skip ?_
        refine then_n ?_
        refine wp_seq ?_
        refine wp_region_lit ?_
        refine s_m hf rfl ?_; clear hf a; intro a hf
        refine s_do hf rfl (y_call (hf.eval rfl) (hf.evals rfl) Tryd.call18 ((copied_spec _ _ _ data (hs.oldB hr1) (by omega)).mono ?_))
        rintro e w1 ⟨e3, f3, rfl, hj⟩
        replace hs := hs.join hj
        simp only [List.cons_append, List.nil_append] at hs
        refine ⟨_, rfl, ?_⟩; clear hf a; intro a hf
        refine s_do hf rfl (y_call (hf.eval rfl) (hf.evals rfl) Tryd.call13 ((sum_spec _ (hT.kept hs.kept) _ _ data (hs.rdB (.here _) fun h => slB_rd) (by omega)).mono ?_))
        rintro e w1 ⟨rfl, hk⟩
        replace hs := hs.ext hk
        refine ⟨_, rfl, ?_⟩; clear hf a; intro a hf
        refine s_a hf rfl ?_; clear hf a; intro a hf
        refine s_nil ?_
        refine then_n ?_
        refine wp_seq ?_
        refine wp_region_lit ?_
        refine s_m hf rfl ?_; clear hf a; intro a hf
        refine s_do hf rfl (y_call (hf.eval rfl) (hf.evals rfl) Tryd.call13 ((sum_spec _ (hT.kept hs.kept) _ _ d (hs.rdB (.there _ (.here _)) fun h => slB_rd) (by omega)).mono ?_))
        rintro e w1 ⟨rfl, hk⟩
        replace hs := hs.ext hk
        refine ⟨_, rfl, ?_⟩; clear hf a; intro a hf
        refine s_a hf rfl ?_; clear hf a; intro a hf
        refine s_nil ?_
        refine then_n ?_
        refine wp_seq ?_
        refine wp_region_lit ?_
        refine s_m hf rfl ?_; clear hf a; intro a hf
        refine s_m hf rfl ?_; clear hf a; intro a hf
        refine s_v hf (x_bin (hf.eval rfl) (hf.eval rfl) (r_ne _ _ _ _)) ?_; clear hf a; intro a hf
        refine s_a hf rfl ?_; clear hf a; intro a hf
        refine s_nil ?_
        refine then_n ?_
        refine wp_ret ?_
        refine r_1 hf Tryd.results5 rfl ?_
        have hne := crc_ne hu hS (hany (by simpa using hi2))
        exact ⟨by congr 1; congr 1; simp; omega, hs.kept⟩

end Go.Proofs.YtfcmklmeinchhaaDoor
