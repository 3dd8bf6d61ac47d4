/- The sum: the table of half bytes and bit by bit. -/
import Derived.Test.YtehakfbfjpolfaaDoorVE
import Derived.Test.YtehakfbfjpolfaaDoorProg
import Derived.Test.YtehakfbfjpolfaaDoorFacts
set_option maxRecDepth 100000
set_option linter.all false
namespace Go.Proofs.YtehakfbfjpolfaaDoor
open Go Vw
theorem moved_spec (w : World) (x : Nat) (hx : x < 4294967296) : Calls Tryd.prog 97 #[.int .u32 ((x : Nat) : Int)] w fun e w' => e = .returned (.int .u32 ((mv x : Nat) : Int)) ∧ w' = w := by
  refine c_enter (N := 11) Tryd.func97 rfl Tryd.ntmps97 (by simp) ?_
  intro a hf
  refine wp_seq ?_
  refine wp_region_lit ?_
  refine s_a hf rfl ?_; clear hf a; intro a hf
  refine s_nil ?_
  refine then_n ?_
  refine wp_seq ?_
  refine wp_seq ?_
  refine wp_region_lit ?_
  refine s_m hf rfl ?_; clear hf a; intro a hf
  refine s_v hf (x_bin (hf.eval rfl) (hf.eval rfl) (r_remn _ _ (by omega) (by omega))) ?_; clear hf a; intro a hf
  refine s_v hf (x_bin (hf.eval rfl) (hf.eval rfl) (r_eq _ _ _ _)) ?_; clear hf a; intro a hf
  refine s_nil ?_
  refine then_n ?_
  refine c_cond hf rfl (fun hi0 => ?_) (fun hi0 => ?_)
  · simp only [decide_eq_true_eq, decide_eq_false_iff_not] at hi0
    refine wp_seq ?_
    refine wp_region_lit ?_
    refine s_m hf rfl ?_; clear hf a; intro a hf
    refine s_v hf (x_bin (hf.eval rfl) (hf.eval rfl) (r_quo _ _ (by omega))) ?_; clear hf a; intro a hf
    replace hf := hf.now (k := 7) (v' := .int .u32 ((x / 2 : Nat) : Int)) rfl (by rw [tdiv_nn (by omega) (by omega), wrap_u32]; congr 1; omega)
    refine s_v hf (x_bin (hf.eval rfl) (hf.eval rfl) (r_xor_u32 _ (y := 3988292384) (by omega) (by omega))) ?_; clear hf a; intro a hf
    refine s_a hf rfl ?_; clear hf a; intro a hf
    refine s_nil ?_
    refine then_n ?_
    refine wp_ret ?_
    refine then_r ?_
    refine r_1 hf Tryd.results97 rfl ?_
    exact ⟨by unfold mv; rw [if_pos (by omega)], rfl⟩
  · simp only [decide_eq_true_eq, decide_eq_false_iff_not] at hi0
    refine wp_skip ?_
    refine then_n ?_
    refine wp_seq ?_
    refine wp_region_lit ?_
    refine s_m hf rfl ?_; clear hf a; intro a hf
    refine s_v hf (x_bin (hf.eval rfl) (hf.eval rfl) (r_quo _ _ (by omega))) ?_; clear hf a; intro a hf
    replace hf := hf.now (k := 10) (v' := .int .u32 ((x / 2 : Nat) : Int)) rfl (by rw [tdiv_nn (by omega) (by omega), wrap_u32]; congr 1; omega)
    refine s_a hf rfl ?_; clear hf a; intro a hf
    refine s_nil ?_
    refine then_n ?_
    refine wp_ret ?_
    refine r_1 hf Tryd.results97 rfl ?_
    exact ⟨by unfold mv; rw [if_neg (by omega), Nat.xor_zero], rfl⟩

theorem update_spec (w0 : World) (hT : Tab 0 (hp w0)) (sum : Nat) (hsum : sum < 4294967296) (a0 : Option Addr) (c : Nat) (l : List UInt8) (hr : RdB (hp w0) (.slice a0 l.length c) l) (hl : l.length ≤ 140737488355328) : Calls Tryd.prog 76 #[.int .u32 ((sum : Nat) : Int), .slice a0 l.length c] w0 fun e w' => e = .returned (.int .u32 ((crcU sum l : Nat) : Int)) ∧ Kept w0 w' None_ := by
  have hs := St.start w0 None_
  refine c_enter (N := 37) Tryd.func76 rfl Tryd.ntmps76 (by simp) ?_
  intro a hf
  refine wp_seq ?_
  refine wp_region_lit ?_
  refine s_a hf rfl ?_; clear hf a; intro a hf
  refine s_nil ?_
  refine then_n ?_
  refine wp_seq ?_
  refine wp_region_lit ?_
  refine s_m hf rfl ?_; clear hf a; intro a hf
  refine s_r hf (x_notU (hf.eval rfl) hsum _) ?_; clear hf a; intro a hf
  refine s_a hf rfl ?_; clear hf a; intro a hf
  refine s_nil ?_
  refine then_n ?_
  refine wp_seq ?_
  refine wp_seq ?_
  refine wp_region_lit ?_
  refine s_m hf rfl ?_; clear hf a; intro a hf
  refine s_v hf (x_len Tryd.underlying25 (hf.eval rfl)) ?_; clear hf a; intro a hf
  refine s_m hf rfl ?_; clear hf a; intro a hf
  refine s_nil ?_
  refine then_n ?_
  refine wp_block ?_
  refine c_loop (L0 := [(4, _), (10, _), (11, _)]) (fun M w m => ∃ i : Nat, M = [(5, .int .u32 ((upd (4294967295 ^^^ sum) (l.take i) : Nat) : Int)), (12, .int .i64 (i : Int))] ∧ l.length - i = m ∧ i ≤ l.length ∧ St ⟨w0, None_⟩ w []) (M0 := [(5, .int .u32 ((4294967295 ^^^ sum : Nat) : Int)), (12, .int .i64 (0 : Nat))]) (⟨0, rfl, rfl, Nat.zero_le _, hs⟩) (hf.sub ⟨rfl, rfl, rfl, rfl, rfl, trivial⟩) ?_
  clear hf hs a
  rintro M m a w ⟨i, rfl, rfl, hi, hs⟩ hf
  refine wp_seq ?_
  refine wp_region_lit ?_
  refine s_v hf (x_bin (hf.eval rfl) (hf.eval rfl) (r_lt _ _ _ _)) ?_; clear hf a; intro a hf
  refine s_nil ?_
  refine then_n ?_
  refine wp_seq ?_
  refine c_cond hf rfl (fun hi0 => ?_) (fun hi0 => ?_)
  · simp only [decide_eq_true_eq, decide_eq_false_iff_not, Bool.not_eq_true', Bool.not_eq_false', Bool.not_eq_true, Int.not_lt, Int.not_le] at hi0
    have hlt : i < l.length := by omega
    obtain ⟨a0, rfl⟩ := hr.some (by omega)
    refine wp_skip ?_
    refine then_n ?_
    refine wp_seq ?_
    refine wp_block ?_
    refine wp_seq ?_
    refine wp_region_lit ?_
    refine s_v hf (x_indexAddr sl25 (hf.eval rfl) (hf.eval rfl) (by omega) (by omega)) ?_; clear hf a; intro a hf
    refine s_r hf (x_loadB sc5 (hs.oldB hr) (hf.eval rfl) (by omega)) ?_; clear hf a; intro a hf
    replace hf := hf.now (k := 15) (v' := u8v l[i]) rfl (rfl)
    refine s_a hf rfl ?_; clear hf a; intro a hf
    refine s_nil ?_
    refine then_n ?_
    refine wp_seq ?_
    refine wp_region_lit ?_
    refine s_m hf rfl ?_; clear hf a; intro a hf
    refine s_m hf rfl ?_; clear hf a; intro a hf
    refine s_v hf (x_convr Tryd.underlying5 Tryd.underlying22 (hf.eval rfl) (by rw [wrap_u32]; have := toNat_lt l[i]; omega : IntKind.u32.wrap (l[i].toNat : Int) = ((l[i].toNat : Nat) : Int))) ?_; clear hf a; intro a hf
    have hX0 := upd_lt (l.take i) (not_lt hsum)
    obtain ⟨X, hXe⟩ : ∃ X, X = upd (4294967295 ^^^ sum) (l.take i) ^^^ l[i].toNat := ⟨_, rfl⟩
    have hX : X < 4294967296 := by rw [hXe]; exact Nat.xor_lt_two_pow (n := 32) hX0 (by have := toNat_lt l[i]; omega)
    refine s_v hf (x_bin (hf.eval rfl) (hf.eval rfl) (r_xor_u32 _ hX0 (by have := toNat_lt l[i]; omega))) ?_; clear hf a; intro a hf
    rw [← hXe] at hf
    refine s_a hf rfl ?_; clear hf a; intro a hf
    refine s_nil ?_
    refine then_n ?_
    refine wp_seq ?_
    refine wp_region_lit ?_
    refine s_m hf rfl ?_; clear hf a; intro a hf
    refine s_v hf (x_bin (hf.eval rfl) (hf.eval rfl) (r_shr_u32 _ (j := 4) (by omega))) ?_; clear hf a; intro a hf
    replace hf := hf.now (k := 21) (v' := .int .u32 ((X / 16 : Nat) : Int)) rfl (rfl)
    refine s_m hf rfl ?_; clear hf a; intro a hf
    refine s_v hf (x_bin (hf.eval rfl) (hf.eval rfl) (r_and_u32 _ (y := 15) hX (by omega))) ?_; clear hf a; intro a hf
    replace hf := hf.now (k := 23) (v' := .int .u32 ((X % 16 : Nat) : Int)) rfl (by rw [and15])
    refine s_v hf (x_indexArr (sz := 1) Tryd.underlying132 (by kernel_rfl) (hf.eval rfl) (hf.eval rfl) (by omega) (by omega)) ?_; clear hf a; intro a hf
    replace hf := hf.now (k := 24) (v' := .pointer (some ⟨0, X % 16, none⟩)) rfl (by rw [addr0])
    have hx16 : X % 16 < tab16.length := Nat.mod_lt _ (by decide)
    refine s_r hf (x_load sc22 (hf.eval rfl) (tab_cell hT hs hx16)) ?_; clear hf a; intro a hf
    refine s_v hf (x_bin (hf.eval rfl) (hf.eval rfl) (r_xor_u32 _ (by omega) (tab16_lt hx16))) ?_; clear hf a; intro a hf
    replace hf := hf.now (k := 26) (v' := .int .u32 ((mvN 4 X : Nat) : Int)) rfl (by rw [nib _ hx16])
    refine s_a hf rfl ?_; clear hf a; intro a hf
    refine s_nil ?_
    refine then_n ?_
    refine wp_region_lit ?_
    refine s_m hf rfl ?_; clear hf a; intro a hf
    refine s_v hf (x_bin (hf.eval rfl) (hf.eval rfl) (r_shr_u32 _ (j := 4) (by omega))) ?_; clear hf a; intro a hf
    replace hf := hf.now (k := 28) (v' := .int .u32 ((mvN 4 X / 16 : Nat) : Int)) rfl (rfl)
    refine s_m hf rfl ?_; clear hf a; intro a hf
    refine s_v hf (x_bin (hf.eval rfl) (hf.eval rfl) (r_and_u32 _ (y := 15) (mvN_lt 4 hX) (by omega))) ?_; clear hf a; intro a hf
    replace hf := hf.now (k := 30) (v' := .int .u32 ((mvN 4 X % 16 : Nat) : Int)) rfl (by rw [and15])
    refine s_v hf (x_indexArr (sz := 1) Tryd.underlying132 (by kernel_rfl) (hf.eval rfl) (hf.eval rfl) (by omega) (by omega)) ?_; clear hf a; intro a hf
    replace hf := hf.now (k := 31) (v' := .pointer (some ⟨0, mvN 4 X % 16, none⟩)) rfl (by rw [addr0])
    have hx16 : mvN 4 X % 16 < tab16.length := Nat.mod_lt _ (by decide)
    refine s_r hf (x_load sc22 (hf.eval rfl) (tab_cell hT hs hx16)) ?_; clear hf a; intro a hf
    refine s_v hf (x_bin (hf.eval rfl) (hf.eval rfl) (r_xor_u32 _ (by have := mvN_lt 4 hX; omega) (tab16_lt hx16))) ?_; clear hf a; intro a hf
    replace hf := hf.now (k := 33) (v' := .int .u32 ((mvN 4 (mvN 4 X) : Nat) : Int)) rfl (by rw [nib _ hx16])
    refine s_a hf rfl ?_; clear hf a; intro a hf
    refine s_nil ?_
    refine blk_n ?_
    refine then_n ?_
    refine wp_region_lit ?_
    refine s_v hf (x_bin (hf.eval rfl) (hf.eval rfl) (r_addi _ (by omega) (by omega))) ?_; clear hf a; intro a hf
    refine s_m hf rfl ?_; clear hf a; intro a hf
    refine s_nil ?_
    replace hf := hf.now (k := 5) (v' := .int .u32 ((upd (4294967295 ^^^ sum) (l.take (i + 1)) : Nat) : Int)) rfl (by rw [upd_take_succ hlt, ← hXe, mvN44])
    exact ⟨_, _, ⟨i + 1, rfl, rfl, by omega, hs⟩, by omega, hf.sub ⟨rfl, rfl, rfl, rfl, rfl, trivial⟩⟩
  · simp only [decide_eq_true_eq, decide_eq_false_iff_not, Bool.not_eq_true', Bool.not_eq_false', Bool.not_eq_true, Int.not_lt, Int.not_le] at hi0
    refine wp_exit ?_
    refine then_x ?_
    refine then_x ?_
    refine blk_x ?_
    refine then_n ?_
    refine wp_seq ?_
    refine wp_region_lit ?_
    refine s_m hf rfl ?_; clear hf a; intro a hf
    refine s_r hf (x_notU (hf.eval rfl) (upd_lt _ (not_lt hsum)) _) ?_; clear hf a; intro a hf
    refine s_a hf rfl ?_; clear hf a; intro a hf
    refine s_nil ?_
    refine then_n ?_
    refine wp_ret ?_
    refine r_1 hf Tryd.results76 rfl ?_
    have hi' : i = l.length := by omega
    exact ⟨by subst hi'; rw [List.take_length]; rfl, hs.kept⟩

theorem refUpdate_spec (w0 : World) (sum : Nat) (hsum : sum < 4294967296) (a0 : Option Addr) (c : Nat) (l : List UInt8) (hr : RdB (hp w0) (.slice a0 l.length c) l) (hl : l.length ≤ 140737488355328) : Calls Tryd.prog 77 #[.int .u32 ((sum : Nat) : Int), .slice a0 l.length c] w0 fun e w' => e = .returned (.int .u32 ((crcU sum l : Nat) : Int)) ∧ Kept w0 w' None_ := by
  have hs := St.start w0 None_
  refine c_enter (N := 31) Tryd.func77 rfl Tryd.ntmps77 (by simp) ?_
  intro a hf
  refine wp_seq ?_
  refine wp_region_lit ?_
  refine s_a hf rfl ?_; clear hf a; intro a hf
  refine s_nil ?_
  refine then_n ?_
  refine wp_seq ?_
  refine wp_region_lit ?_
  refine s_m hf rfl ?_; clear hf a; intro a hf
  refine s_r hf (x_notU (hf.eval rfl) hsum _) ?_; clear hf a; intro a hf
  refine s_a hf rfl ?_; clear hf a; intro a hf
  refine s_nil ?_
  refine then_n ?_
  refine wp_seq ?_
  refine wp_seq ?_
  refine wp_region_lit ?_
  refine s_a hf rfl ?_; clear hf a; intro a hf
  refine s_nil ?_
  refine then_n ?_
  refine wp_block ?_
  refine c_loop (L0 := [(1, _), (4, _)]) (fun M w m => ∃ i : Nat, M = [(5, .int .u32 ((upd (4294967295 ^^^ sum) (l.take i) : Nat) : Int)), (6, .int .i64 (i : Int))] ∧ l.length - i = m ∧ i ≤ l.length ∧ St ⟨w0, None_⟩ w []) (M0 := [(5, .int .u32 ((4294967295 ^^^ sum : Nat) : Int)), (6, .int .i64 (0 : Nat))]) (⟨0, rfl, rfl, Nat.zero_le _, hs⟩) (hf.sub ⟨rfl, rfl, rfl, rfl, trivial⟩) ?_
  clear hf hs a
  rintro M m a w ⟨i, rfl, rfl, hi, hs⟩ hf
  refine wp_seq ?_
  refine wp_seq ?_
  refine wp_region_lit ?_
  refine s_m hf rfl ?_; clear hf a; intro a hf
  refine s_m hf rfl ?_; clear hf a; intro a hf
  refine s_v hf (x_len Tryd.underlying25 (hf.eval rfl)) ?_; clear hf a; intro a hf
  refine s_v hf (x_bin (hf.eval rfl) (hf.eval rfl) (r_lt _ _ _ _)) ?_; clear hf a; intro a hf
  refine s_nil ?_
  refine then_n ?_
  refine c_cond hf rfl (fun hi0 => ?_) (fun hi0 => ?_)
  · simp only [decide_eq_true_eq, decide_eq_false_iff_not, Bool.not_eq_true', Bool.not_eq_false', Bool.not_eq_true, Int.not_lt, Int.not_le] at hi0
    have hlt : i < l.length := by omega
    obtain ⟨a0, rfl⟩ := hr.some (by omega)
    refine wp_skip ?_
    refine then_n ?_
    refine wp_seq ?_
    refine wp_block ?_
    refine wp_seq ?_
    refine wp_region_lit ?_
    refine s_m hf rfl ?_; clear hf a; intro a hf
    refine s_m hf rfl ?_; clear hf a; intro a hf
    refine s_m hf rfl ?_; clear hf a; intro a hf
    refine s_v hf (x_indexAddr sl25 (hf.eval rfl) (hf.eval rfl) (by omega) (by omega)) ?_; clear hf a; intro a hf
    refine s_r hf (x_loadB sc5 (hs.oldB hr) (hf.eval rfl) (by omega)) ?_; clear hf a; intro a hf
    replace hf := hf.now (k := 20) (v' := u8v l[i]) rfl (rfl)
    refine s_v hf (x_convr Tryd.underlying5 Tryd.underlying22 (hf.eval rfl) (by rw [wrap_u32]; have := toNat_lt l[i]; omega : IntKind.u32.wrap (l[i].toNat : Int) = ((l[i].toNat : Nat) : Int))) ?_; clear hf a; intro a hf
    have hX0 := upd_lt (l.take i) (not_lt hsum)
    obtain ⟨X, hXe⟩ : ∃ X, X = upd (4294967295 ^^^ sum) (l.take i) ^^^ l[i].toNat := ⟨_, rfl⟩
    have hX : X < 4294967296 := by rw [hXe]; exact Nat.xor_lt_two_pow (n := 32) hX0 (by have := toNat_lt l[i]; omega)
    refine s_v hf (x_bin (hf.eval rfl) (hf.eval rfl) (r_xor_u32 _ hX0 (by have := toNat_lt l[i]; omega))) ?_; clear hf a; intro a hf
    rw [← hXe] at hf
    refine s_a hf rfl ?_; clear hf a; intro a hf
    refine s_nil ?_
    refine then_n ?_
    refine wp_seq ?_
    refine wp_region_lit ?_
    refine s_a hf rfl ?_; clear hf a; intro a hf
    refine s_nil ?_
    refine then_n ?_
    refine wp_block ?_
    refine c_loop (L0 := [(1, _), (4, _), (6, _), (10, _), (11, _), (12, _), (13, _), (16, _), (17, _), (18, _), (19, _), (20, _), (21, _), (22, _)]) (fun M w m => ∃ k : Nat, M = [(5, .int .u32 ((mvN k X : Nat) : Int)), (7, .int .i64 (k : Int))] ∧ 8 - k = m ∧ k ≤ 8 ∧ St ⟨w0, None_⟩ w []) (M0 := [(5, .int .u32 ((X : Nat) : Int)), (7, .int .i64 (0 : Nat))]) (⟨0, rfl, rfl, Nat.zero_le _, hs⟩) (hf.sub ⟨rfl, rfl, rfl, rfl, rfl, rfl, rfl, rfl, rfl, rfl, rfl, rfl, rfl, rfl, rfl, rfl, trivial⟩) ?_
    clear hf hs a
    rintro M m a w ⟨k, rfl, rfl, hk, hs⟩ hf
    refine wp_seq ?_
    refine wp_seq ?_
    refine wp_region_lit ?_
    refine s_m hf rfl ?_; clear hf a; intro a hf
    refine s_v hf (x_bin (hf.eval rfl) (hf.eval rfl) (r_lt _ _ _ _)) ?_; clear hf a; intro a hf
    refine s_nil ?_
    refine then_n ?_
    refine c_cond hf rfl (fun hi1 => ?_) (fun hi1 => ?_)
    · simp only [decide_eq_true_eq, decide_eq_false_iff_not, Bool.not_eq_true', Bool.not_eq_false', Bool.not_eq_true, Int.not_lt, Int.not_le] at hi1
      refine wp_skip ?_
      refine then_n ?_
      refine wp_seq ?_
      refine wp_block ?_
      refine wp_region_lit ?_
      refine s_m hf rfl ?_; clear hf a; intro a hf
      refine s_do hf rfl (y_call (hf.eval rfl) (hf.evals rfl) Tryd.call97 ((moved_spec _ _ (mvN_lt k hX)).mono ?_))
      rintro e w1 ⟨rfl, rfl⟩
      refine ⟨_, rfl, ?_⟩; clear hf a; intro a hf
      refine s_a hf rfl ?_; clear hf a; intro a hf
      refine s_nil ?_
      refine blk_n ?_
      refine then_n ?_
      refine wp_region_lit ?_
      refine s_m hf rfl ?_; clear hf a; intro a hf
      refine s_v hf (x_bin (hf.eval rfl) (hf.eval rfl) (r_addi _ (by omega) (by omega))) ?_; clear hf a; intro a hf
      refine s_a hf rfl ?_; clear hf a; intro a hf
      refine s_nil ?_
      replace hf := hf.now (k := 5) (v' := .int .u32 ((mvN (k + 1) X : Nat) : Int)) rfl (by rw [mvN_succ'])
      exact ⟨_, _, ⟨k + 1, rfl, rfl, by omega, hs⟩, by omega, hf.sub ⟨rfl, rfl, rfl, rfl, rfl, rfl, rfl, rfl, rfl, rfl, rfl, rfl, rfl, rfl, rfl, rfl, trivial⟩⟩
    · simp only [decide_eq_true_eq, decide_eq_false_iff_not, Bool.not_eq_true', Bool.not_eq_false', Bool.not_eq_true, Int.not_lt, Int.not_le] at hi1
      refine wp_exit ?_
      refine then_x ?_
      refine then_x ?_
      refine blk_x ?_
      refine blk_n ?_
      refine then_n ?_
      refine wp_region_lit ?_
      refine s_m hf rfl ?_; clear hf a; intro a hf
      refine s_v hf (x_bin (hf.eval rfl) (hf.eval rfl) (r_addi _ (by omega) (by omega))) ?_; clear hf a; intro a hf
      refine s_a hf rfl ?_; clear hf a; intro a hf
      refine s_nil ?_
      have hk' : k = 8 := by omega
      replace hf := hf.now (k := 5) (v' := .int .u32 ((upd (4294967295 ^^^ sum) (l.take (i + 1)) : Nat) : Int)) rfl (by rw [upd_take_succ hlt, ← hXe, hk'])
      exact ⟨_, _, ⟨i + 1, rfl, rfl, by omega, hs⟩, by omega, hf.sub ⟨rfl, rfl, rfl, rfl, trivial⟩⟩
  · simp only [decide_eq_true_eq, decide_eq_false_iff_not, Bool.not_eq_true', Bool.not_eq_false', Bool.not_eq_true, Int.not_lt, Int.not_le] at hi0
    refine wp_exit ?_
    refine then_x ?_
    refine then_x ?_
    refine blk_x ?_
    refine then_n ?_
    refine wp_seq ?_
    refine wp_region_lit ?_
    refine s_m hf rfl ?_; clear hf a; intro a hf
    refine s_r hf (x_notU (hf.eval rfl) (upd_lt _ (not_lt hsum)) _) ?_; clear hf a; intro a hf
    refine s_a hf rfl ?_; clear hf a; intro a hf
    refine s_nil ?_
    refine then_n ?_
    refine wp_ret ?_
    refine r_1 hf Tryd.results77 rfl ?_
    have hi' : i = l.length := by omega
    exact ⟨by subst hi'; rw [List.take_length]; rfl, hs.kept⟩

theorem sum_spec (w0 : World) (hT : Tab 0 (hp w0)) (a0 : Option Addr) (c : Nat) (l : List UInt8) (hr : RdB (hp w0) (.slice a0 l.length c) l) (hl : l.length ≤ 140737488355328) : Calls Tryd.prog 42 #[.slice a0 l.length c] w0 fun e w' => e = .returned (.int .u32 ((crcU 0 l : Nat) : Int)) ∧ Kept w0 w' None_ := by
  refine c_enter (N := 5) Tryd.func42 rfl Tryd.ntmps42 (by simp) ?_
  intro a hf
  refine wp_seq ?_
  refine wp_region_lit ?_
  refine s_a hf rfl ?_; clear hf a; intro a hf
  refine s_nil ?_
  refine then_n ?_
  refine wp_seq ?_
  refine wp_region_lit ?_
  refine s_m hf rfl ?_; clear hf a; intro a hf
  refine s_do hf rfl (y_call (hf.eval rfl) (hf.evals rfl) Tryd.call76 ((update_spec w0 hT 0 (by decide) a0 c l hr hl).mono ?_))
  rintro e w1 ⟨rfl, hs⟩
  refine ⟨_, rfl, ?_⟩; clear hf a; intro a hf
  refine s_a hf rfl ?_; clear hf a; intro a hf
  refine s_nil ?_
  refine then_n ?_
  refine wp_ret ?_
  refine r_1 hf Tryd.results42 rfl ?_
  exact ⟨rfl, hs⟩

theorem refSum_spec (w0 : World) (a0 : Option Addr) (c : Nat) (l : List UInt8) (hr : RdB (hp w0) (.slice a0 l.length c) l) (hl : l.length ≤ 140737488355328) : Calls Tryd.prog 46 #[.slice a0 l.length c] w0 fun e w' => e = .returned (.int .u32 ((crcU 0 l : Nat) : Int)) ∧ Kept w0 w' None_ := by
  refine c_enter (N := 5) Tryd.func46 rfl Tryd.ntmps46 (by simp) ?_
  intro a hf
  refine wp_seq ?_
  refine wp_region_lit ?_
  refine s_a hf rfl ?_; clear hf a; intro a hf
  refine s_nil ?_
  refine then_n ?_
  refine wp_seq ?_
  refine wp_region_lit ?_
  refine s_m hf rfl ?_; clear hf a; intro a hf
  refine s_do hf rfl (y_call (hf.eval rfl) (hf.evals rfl) Tryd.call77 ((refUpdate_spec w0 0 (by decide) a0 c l hr hl).mono ?_))
  rintro e w1 ⟨rfl, hs⟩
  refine ⟨_, rfl, ?_⟩; clear hf a; intro a hf
  refine s_a hf rfl ?_; clear hf a; intro a hf
  refine s_nil ?_
  refine then_n ?_
  refine wp_ret ?_
  refine r_1 hf Tryd.results46 rfl ?_
  exact ⟨rfl, hs⟩

end Go.Proofs.YtehakfbfjpolfaaDoor
