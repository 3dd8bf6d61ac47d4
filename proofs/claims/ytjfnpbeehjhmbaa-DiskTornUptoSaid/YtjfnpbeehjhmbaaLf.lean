/- The statement DiskTorn. -/
import Derived.Test.YtjfnpbeehjhmbaaVR
import Derived.Test.YtjfnpbeehjhmbaaLh
import Derived.Test.YtjfnpbeehjhmbaaProg
import Derived.Test.YtjfnpbeehjhmbaaFacts
set_option maxRecDepth 100000
set_option linter.all false
namespace Go.Proofs.Ytjfnpbeehjhmbaa
open Go Vw
theorem getD_get {l : List UInt8} {i : Nat} (h : i < l.length) : l.getD i 0 = l[i] := by rw [List.getD_eq_getElem?_getD, List.getElem?_eq_getElem h]; rfl

theorem mem_takeS {α : Type} {l : List α} {i : Nat} (h : i < l.length) {p : α} : p ∈ l.take (i + 1) ↔ p ∈ l.take i ∨ p = l[i] := by
  rw [List.take_succ_eq_append_getElem h, List.mem_append, List.mem_singleton]

theorem part_spec (w0 : World) (a1 : Option Addr) (c1 : Nat) (out : List UInt8) (hr1 : RdB (hp w0) (.slice a1 out.length c1) out) (a2 : Option Addr) (c2 : Nat) (mom : List UInt8) (hr2 : RdB (hp w0) (.slice a2 mom.length c2) mom) (fro : Nat) (hfr : fro ≤ 1099511627776) : Calls Try.prog 57 #[.slice a1 out.length c1, .slice a2 mom.length c2, .int .i64 (fro : Int)] w0 fun e w' => ∃ b, e = .returned (.bool b) ∧ (b = true ↔ ∀ x, fro ≤ x → x < fro + 512 → x < out.length → out.getD x 0 = mom.getD x 0) ∧ Kept w0 w' None_ := by
  have hs := St.start w0 None_
  refine c_enter (N := 36) Try.func57 rfl Try.ntmps57 (by simp) ?_
  intro a hf
  refine wp_seq ?_
  refine wp_region_lit ?_
  refine s_a hf rfl ?_; clear hf a; intro a hf
  refine s_nil ?_
  refine then_n ?_
  refine wp_seq ?_
  refine wp_seq ?_
  refine wp_region_lit ?_
  refine s_m hf rfl ?_; clear hf a; intro a hf
  refine s_a hf rfl ?_; clear hf a; intro a hf
  refine s_nil ?_
  refine then_n ?_
  refine wp_block ?_
  refine c_loop (L0 := [(0, _), (1, _), (2, _)]) (fun M w m => ∃ i : Nat, M = [(7, .int .i64 (i : Int))] ∧ fro + 512 - i = m ∧ fro ≤ i ∧ i ≤ fro + 512 ∧ (∀ x, fro ≤ x → x < i → out.getD x 0 = mom.getD x 0) ∧ St ⟨w0, None_⟩ w []) (M0 := [(7, .int .i64 (fro : Int))]) (⟨fro, rfl, rfl, Nat.le_refl _, by omega, fun x h1 h2 => by omega, hs⟩) (hf.sub ⟨rfl, rfl, rfl, rfl, trivial⟩) ?_
  clear hf hs a
  rintro M m a w ⟨i, rfl, rfl, hj0, hj1, hx, hs⟩ hf
  refine wp_seq ?_
  refine wp_seq ?_
  refine wp_region_lit ?_
  refine s_m hf rfl ?_; clear hf a; intro a hf
  refine s_m hf rfl ?_; clear hf a; intro a hf
  refine s_v hf (x_bin (hf.eval rfl) (hf.eval rfl) (r_addi _ (by omega) (by omega))) ?_; clear hf a; intro a hf
  refine s_v hf (x_bin (hf.eval rfl) (hf.eval rfl) (r_lt _ _ _ _)) ?_; clear hf a; intro a hf
  refine s_m hf rfl ?_; clear hf a; intro a hf
  refine s_bool hf (k := 14) rfl (fun hg2_4 hf' => ?_) (fun hg2_4 hf' => ?_)
  · clear hf
    have hf := hf'
    clear hf'
    simp only [decide_eq_true_eq, decide_eq_false_iff_not] at hg2_4
    refine s_do hf (wanted_of hf rfl rfl rfl) (.value (x_move (hf.eval rfl) _) ?_); clear hf a; intro a hf
    refine s_do hf (wanted_of hf rfl rfl rfl) (.value (x_move (hf.eval rfl) _) ?_); clear hf a; intro a hf
    refine s_do hf (wanted_of hf rfl rfl rfl) (.value (x_len Try.underlying22 (hf.eval rfl) _) ?_); clear hf a; intro a hf
    refine s_do hf (wanted_of hf rfl rfl rfl) (.value (x_bin (hf.eval rfl) (hf.eval rfl) (r_lt _ _ _ _) _) ?_); clear hf a; intro a hf
    refine s_v hf (x_pick_t (hf.eval rfl) (hf.eval rfl)) ?_; clear hf a; intro a hf
    refine s_nil ?_
    refine then_n ?_
    refine c_cond hf rfl (fun hi0 => ?_) (fun hi0 => ?_)
    · first | simp only [decide_eq_true_eq, decide_eq_false_iff_not] at hi0 | skip
      have hlt : i < out.length := by omega
      obtain ⟨a1, rfl⟩ := hr1.some (by omega)
      refine wp_skip ?_
      refine then_n ?_
      refine wp_seq ?_
      refine wp_block ?_
      refine wp_seq ?_
      refine wp_region_lit ?_
      refine s_a hf rfl ?_; clear hf a; intro a hf
      refine s_nil ?_
      refine then_n ?_
      refine c_join (N := 36) (L0 := [(0, _), (1, _), (2, _), (7, _), (10, _), (11, _), (12, _), (13, _), (14, _), (15, _), (16, _), (17, _), (18, _), (19, _)]) (fun M w => M = [(8, u8v (mom.getD i 0))] ∧ St ⟨w0, None_⟩ w []) (hf.sub ⟨rfl, rfl, rfl, rfl, rfl, rfl, rfl, rfl, rfl, rfl, rfl, rfl, rfl, rfl, trivial⟩) ?_ ?_
      · refine wp_seq ?_
        refine wp_region_lit ?_
        refine s_m hf rfl ?_; clear hf a; intro a hf
        refine s_m hf rfl ?_; clear hf a; intro a hf
        refine s_v hf (x_len Try.underlying22 (hf.eval rfl)) ?_; clear hf a; intro a hf
        refine s_v hf (x_bin (hf.eval rfl) (hf.eval rfl) (r_lt _ _ _ _)) ?_; clear hf a; intro a hf
        refine s_nil ?_
        refine then_n ?_
        refine c_cond hf rfl (fun hi1 => ?_) (fun hi1 => ?_)
        · simp only [decide_eq_true_eq, decide_eq_false_iff_not, Bool.not_eq_true', Bool.not_eq_false', Bool.not_eq_true, Int.not_lt, Int.not_le] at hi1
          have hlt2 : i < mom.length := by omega
          obtain ⟨a2, rfl⟩ := hr2.some (by omega)
          refine wp_region_lit ?_
          refine s_m hf rfl ?_; clear hf a; intro a hf
          refine s_m hf rfl ?_; clear hf a; intro a hf
          refine s_v hf (x_indexAddr sl22 (hf.eval rfl) (hf.eval rfl) (by omega) (by omega)) ?_; clear hf a; intro a hf
          refine s_r hf (x_loadB (i := (i : Int)) sc5 (hs.oldB hr2) (hf.eval rfl) (by simpa using hlt2)) ?_; clear hf a; intro a hf
          replace hf := hf.now (k := 29) (v' := u8v (mom.getD i 0)) rfl (by rw [getD_get hlt2]; rfl)
          refine s_a hf rfl ?_; clear hf a; intro a hf
          refine s_nil ?_
          refine then_n ?_
          exact ⟨_, ⟨rfl, hs⟩, hf.sub ⟨rfl, rfl, rfl, rfl, rfl, rfl, rfl, rfl, rfl, rfl, rfl, rfl, rfl, rfl, rfl, trivial⟩⟩
        · simp only [decide_eq_true_eq, decide_eq_false_iff_not, Bool.not_eq_true', Bool.not_eq_false', Bool.not_eq_true, Int.not_lt, Int.not_le] at hi1
          replace hf := hf.now (k := 8) (v' := u8v (mom.getD i 0)) rfl (by rw [List.getD_eq_getElem?_getD, List.getElem?_eq_none (by omega)]; rfl)
          refine wp_skip ?_
          refine then_n ?_
          exact ⟨_, ⟨rfl, hs⟩, hf.sub ⟨rfl, rfl, rfl, rfl, rfl, rfl, rfl, rfl, rfl, rfl, rfl, rfl, rfl, rfl, rfl, trivial⟩⟩
      · clear hf hs a
        rintro M a w ⟨rfl, hs⟩ hf
        refine wp_seq ?_
        refine wp_region_lit ?_
        refine s_m hf rfl ?_; clear hf a; intro a hf
        refine s_m hf rfl ?_; clear hf a; intro a hf
        refine s_v hf (x_indexAddr sl22 (hf.eval rfl) (hf.eval rfl) (by omega) (by omega)) ?_; clear hf a; intro a hf
        refine s_r hf (x_loadB (i := (i : Int)) sc5 (hs.oldB hr1) (hf.eval rfl) (by simpa using hlt)) ?_; clear hf a; intro a hf
        replace hf := hf.now (k := 33) (v' := u8v (out.getD i 0)) rfl (by rw [getD_get hlt]; rfl)
        refine s_m hf rfl ?_; clear hf a; intro a hf
        refine s_v hf (x_bin (hf.eval rfl) (hf.eval rfl) (r_ne _ _ _ _)) ?_; clear hf a; intro a hf
        refine s_nil ?_
        refine then_n ?_
        refine c_cond hf rfl (fun hi2 => ?_) (fun hi2 => ?_)
        · simp only [Bool.not_eq_true', Bool.not_eq_false', decide_eq_true_eq, decide_eq_false_iff_not] at hi2
          refine wp_seq ?_
          refine wp_region_lit ?_
          refine s_a hf rfl ?_; clear hf a; intro a hf
          refine s_nil ?_
          refine then_n ?_
          refine wp_ret ?_
          refine blk_r (then_r (then_r (blk_r (then_r ?_))))
          refine r_1 hf Try.results57 rfl ?_
          exact ⟨false, rfl, ⟨fun h => by simp at h, fun h => absurd (congrArg (fun x : UInt8 => (x.toNat : Int)) (h i hj0 (by omega) hlt)) hi2⟩, hs.kept⟩
        · simp only [Bool.not_eq_true', Bool.not_eq_false', decide_eq_true_eq, decide_eq_false_iff_not] at hi2
          have heq : out.getD i 0 = mom.getD i 0 := UInt8.toNat_inj.1 (by omega)
          refine wp_skip ?_
          refine blk_n ?_
          refine then_n ?_
          refine wp_region_lit ?_
          refine s_m hf rfl ?_; clear hf a; intro a hf
          refine s_v hf (x_bin (hf.eval rfl) (hf.eval rfl) (r_addi _ (by omega) (by omega))) ?_; clear hf a; intro a hf
          refine s_a hf rfl ?_; clear hf a; intro a hf
          refine s_nil ?_
          exact ⟨_, _, ⟨i + 1, rfl, rfl, by omega, by omega, (fun x h1 h2 => by by_cases h3 : x = i; exact h3 ▸ heq; exact hx x h1 (by omega)), hs⟩, by omega, hf.sub ⟨rfl, rfl, rfl, rfl, trivial⟩⟩
    · first | simp only [decide_eq_true_eq, decide_eq_false_iff_not] at hi0 | skip
      have hend : ∀ x, fro ≤ x → x < fro + 512 → x < out.length → out.getD x 0 = mom.getD x 0 := fun x h1 h2 h3 => hx x h1 (by omega)
      refine wp_exit ?_
      refine then_x ?_
      refine then_x ?_
      refine blk_x ?_
      refine then_n ?_
      refine wp_seq ?_
      refine wp_region_lit ?_
      refine s_a hf rfl ?_; clear hf a; intro a hf
      refine s_nil ?_
      refine then_n ?_
      refine wp_ret ?_
      refine r_1 hf Try.results57 rfl ?_
      exact ⟨true, rfl, ⟨fun _ => hend, fun _ => rfl⟩, hs.kept⟩
  · clear hf
    have hf := hf'
    clear hf'
    simp only [decide_eq_true_eq, decide_eq_false_iff_not] at hg2_4
    refine s_pass hf rfl rfl ?_; clear hf a; intro a hf
    refine s_pass hf rfl rfl ?_; clear hf a; intro a hf
    refine s_pass hf rfl rfl ?_; clear hf a; intro a hf
    refine s_pass hf rfl rfl ?_; clear hf a; intro a hf
    refine s_v hf (x_pick_f (hf.eval rfl) (hf.eval rfl)) ?_; clear hf a; intro a hf
    refine s_nil ?_
    refine then_n ?_
    refine c_cond_f hf rfl rfl ?_
    have hend : ∀ x, fro ≤ x → x < fro + 512 → x < out.length → out.getD x 0 = mom.getD x 0 := fun x h1 h2 h3 => hx x h1 (by omega)
    refine wp_exit ?_
    refine then_x ?_
    refine then_x ?_
    refine blk_x ?_
    refine then_n ?_
    refine wp_seq ?_
    refine wp_region_lit ?_
    refine s_a hf rfl ?_; clear hf a; intro a hf
    refine s_nil ?_
    refine then_n ?_
    refine wp_ret ?_
    refine r_1 hf Try.results57 rfl ?_
    exact ⟨true, rfl, ⟨fun _ => hend, fun _ => rfl⟩, hs.kept⟩

def goodM (out : List UInt8) (k : Nat) (p : Pt) : Prop := ∀ x, k * 512 ≤ x → x < k * 512 + 512 → x < out.length → out.getD x 0 = p.2.2.getD x 0

theorem sectors_spec (σ : Sig) (w : World) (R : List Asrt) (ao : Option Addr) (co : Nat) (out : List UInt8) (hro : Rdy σ R (.slice ao out.length co) out) (am : Option Addr) (cm : Nat) (ps : List Pt) (hs : St σ w (sl 22 1 (.slice am ps.length cm) ps.length (ps.flatMap mF) :: datA 5 ps :: R)) (hol : out.length ≤ 16777216) (hpl : ps.length ≤ 1099511627776) (hsz : ∃ p ∈ ps, p.2.2.length = out.length) (hsec : ∀ k, ∃ p ∈ ps, goodM out k p) : Calls Try.prog 43 #[.slice ao out.length co, .slice am ps.length cm] w fun e w' => e = .returned (.bool true) ∧ St σ w' (sl 22 1 (.slice am ps.length cm) ps.length (ps.flatMap mF) :: datA 5 ps :: R) := by
  refine c_enter (N := 54) Try.func43 rfl Try.ntmps43 (by simp) ?_
  intro a hf
  refine wp_seq ?_
  refine wp_region_lit ?_
  refine s_a hf rfl ?_; clear hf a; intro a hf
  refine s_nil ?_
  refine then_n ?_
  refine wp_seq ?_
  refine wp_region_lit ?_
  refine s_a hf rfl ?_; clear hf a; intro a hf
  refine s_nil ?_
  refine then_n ?_
  refine wp_seq ?_
  refine wp_seq ?_
  refine wp_region_lit ?_
  refine s_a hf rfl ?_; clear hf a; intro a hf
  refine s_nil ?_
  refine then_n ?_
  refine wp_block ?_
  refine c_loop (L0 := [(0, _), (1, _), (4, _)]) (fun M w m => ∃ (i : Nat) (sz : Bool), M = [(5, .bool sz), (6, .int .i64 (i : Int))] ∧ ps.length - i = m ∧ i ≤ ps.length ∧ (sz = true ↔ ∃ p ∈ ps.take i, p.2.2.length = out.length) ∧ St σ w (sl 22 1 (.slice am ps.length cm) ps.length (ps.flatMap mF) :: datA 5 ps :: R)) (M0 := [(5, .bool false), (6, .int .i64 0)]) (⟨0, false, rfl, rfl, Nat.zero_le _, by simp, hs⟩) (hf.sub ⟨rfl, rfl, rfl, rfl, rfl, trivial⟩) ?_
  clear hf hs a
  rintro M m a w ⟨i, sz, rfl, rfl, hi, hz, hs⟩ hf
  refine wp_seq ?_
  refine wp_seq ?_
  refine wp_region_lit ?_
  refine s_m hf rfl ?_; clear hf a; intro a hf
  refine s_m hf rfl ?_; clear hf a; intro a hf
  refine s_v hf (x_len Try.underlying57 (hf.eval rfl)) ?_; clear hf a; intro a hf
  refine s_v hf (x_bin (hf.eval rfl) (hf.eval rfl) (r_lt _ _ _ _)) ?_; clear hf a; intro a hf
  refine s_nil ?_
  refine then_n ?_
  refine c_cond hf rfl (fun hi0 => ?_) (fun hi0 => ?_)
  · simp only [decide_eq_true_eq, decide_eq_false_iff_not, Bool.not_eq_true', Bool.not_eq_false', Bool.not_eq_true, Int.not_lt, Int.not_le] at hi0
    have hlt : i < ps.length := by omega
    obtain ⟨am, rfl⟩ := sl_some hs (by omega)
    have hpd := hs.datRd (.there _ (.here _)) hlt
    obtain ⟨pa, pk, hpv⟩ := hpd.shape
    refine wp_skip ?_
    refine then_n ?_
    refine wp_seq ?_
    refine wp_block ?_
    refine wp_region_lit ?_
    refine s_m hf rfl ?_; clear hf a; intro a hf
    refine s_m hf rfl ?_; clear hf a; intro a hf
    refine s_bool hf (k := 17) rfl (fun hg5_1 hf' => ?_) (fun hg5_1 hf' => ?_)
    · clear hf
      have hf := hf'
      clear hf'
      have hz9 : true = true ↔ ∃ p ∈ ps.take (i + 1), p.2.2.length = out.length := ⟨fun _ => by obtain ⟨p, hp, h⟩ := hz.1 hg5_1; exact ⟨p, (mem_takeS hlt).2 (.inl hp), h⟩, fun _ => rfl⟩
      refine s_pass hf rfl rfl ?_; clear hf a; intro a hf
      refine s_pass hf rfl rfl ?_; clear hf a; intro a hf
      refine s_pass hf rfl rfl ?_; clear hf a; intro a hf
      refine s_pass hf rfl rfl ?_; clear hf a; intro a hf
      refine s_pass hf rfl rfl ?_; clear hf a; intro a hf
      refine s_pass hf rfl rfl ?_; clear hf a; intro a hf
      refine s_pass hf rfl rfl ?_; clear hf a; intro a hf
      refine s_pass hf rfl rfl ?_; clear hf a; intro a hf
      refine s_v hf (x_pick_t (hf.eval rfl) (hf.eval rfl)) ?_; clear hf a; intro a hf
      refine s_a hf rfl ?_; clear hf a; intro a hf
      refine s_nil ?_
      refine blk_n ?_
      refine then_n ?_
      refine wp_region_lit ?_
      refine s_m hf rfl ?_; clear hf a; intro a hf
      refine s_v hf (x_bin (hf.eval rfl) (hf.eval rfl) (r_addi _ (by omega) (by omega))) ?_; clear hf a; intro a hf
      refine s_a hf rfl ?_; clear hf a; intro a hf
      refine s_nil ?_
      exact ⟨_, _, ⟨i + 1, _, rfl, rfl, by omega, hz9, hs⟩, by omega, hf.sub ⟨rfl, rfl, rfl, rfl, rfl, trivial⟩⟩
    · clear hf
      have hf := hf'
      clear hf'
      have hz9 : decide ((ps[i].2.2.length : Int) = (out.length : Int)) = true ↔ ∃ p ∈ ps.take (i + 1), p.2.2.length = out.length := by
        rw [decide_eq_true_eq]
        constructor
        · intro h; exact ⟨ps[i], (mem_takeS hlt).2 (.inr rfl), by omega⟩
        · rintro ⟨p, hp, h⟩
          rcases (mem_takeS hlt).1 hp with hp | hp
          · exact absurd (hz.2 ⟨p, hp, h⟩) (by rw [hg5_1]; simp)
          · subst hp; omega
      refine s_do hf (wanted_of hf rfl rfl rfl) (.value (x_move (hf.eval rfl) _) ?_); clear hf a; intro a hf
      refine s_do hf (wanted_of hf rfl rfl rfl) (.value (x_move (hf.eval rfl) _) ?_); clear hf a; intro a hf
      refine s_do hf (wanted_of hf rfl rfl rfl) (.value (x_indexAddr sl57 (hf.eval rfl) (hf.eval rfl) (by omega) (by omega) _) ?_); clear hf a; intro a hf
      refine s_do hf (wanted_of hf rfl rfl rfl) (.value (x_loadC (i := (i : Int)) hs sc22 (.here _) (hf.eval rfl) (by rw [Int.toNat_natCast]; exact mF_get hlt)) ?_); clear hf a; intro a hf
      replace hf := hf.now (k := 21) (v' := .slice pa ps[i].2.2.length pk) rfl (hpv)
      refine s_do hf (wanted_of hf rfl rfl rfl) (.value (x_len Try.underlying22 (hf.eval rfl) _) ?_); clear hf a; intro a hf
      refine s_do hf (wanted_of hf rfl rfl rfl) (.value (x_move (hf.eval rfl) _) ?_); clear hf a; intro a hf
      refine s_do hf (wanted_of hf rfl rfl rfl) (.value (x_len Try.underlying22 (hf.eval rfl) _) ?_); clear hf a; intro a hf
      refine s_do hf (wanted_of hf rfl rfl rfl) (.value (x_bin (hf.eval rfl) (hf.eval rfl) (r_eq _ _ _ _) _) ?_); clear hf a; intro a hf
      refine s_v hf (x_pick_f (hf.eval rfl) (hf.eval rfl)) ?_; clear hf a; intro a hf
      refine s_a hf rfl ?_; clear hf a; intro a hf
      refine s_nil ?_
      refine blk_n ?_
      refine then_n ?_
      refine wp_region_lit ?_
      refine s_m hf rfl ?_; clear hf a; intro a hf
      refine s_v hf (x_bin (hf.eval rfl) (hf.eval rfl) (r_addi _ (by omega) (by omega))) ?_; clear hf a; intro a hf
      refine s_a hf rfl ?_; clear hf a; intro a hf
      refine s_nil ?_
      exact ⟨_, _, ⟨i + 1, _, rfl, rfl, by omega, hz9, hs⟩, by omega, hf.sub ⟨rfl, rfl, rfl, rfl, rfl, trivial⟩⟩
  · simp only [decide_eq_true_eq, decide_eq_false_iff_not, Bool.not_eq_true', Bool.not_eq_false', Bool.not_eq_true, Int.not_lt, Int.not_le] at hi0
    have hz8 : sz = true := by rw [hz, show i = ps.length by omega, List.take_length]; exact hsz
    refine wp_exit ?_
    refine then_x ?_
    refine then_x ?_
    refine blk_x ?_
    refine then_n ?_
    refine wp_seq ?_
    refine wp_seq ?_
    refine wp_region_lit ?_
    refine s_m hf rfl ?_; clear hf a; intro a hf
    refine s_v hf (x_not (hf.eval rfl)) ?_; clear hf a; intro a hf
    refine s_nil ?_
    refine then_n ?_
    refine c_cond_f hf rfl (by rw [hz8]; rfl) ?_
    refine wp_skip ?_
    refine then_n ?_
    refine wp_seq ?_
    refine wp_seq ?_
    refine wp_region_lit ?_
    refine s_a hf rfl ?_; clear hf a; intro a hf
    refine s_nil ?_
    refine then_n ?_
    refine wp_block ?_
    refine c_loop (L0 := [(0, _), (1, _), (5, _), (6, _), (10, _), (11, _), (12, _), (13, _), (27, _), (28, _)]) (fun M w m => ∃ k : Nat, M = [(7, .int .i64 ((k * 512 : Nat) : Int))] ∧ out.length + 512 - k * 512 = m ∧ k * 512 ≤ out.length + 512 ∧ St σ w (sl 22 1 (.slice am ps.length cm) ps.length (ps.flatMap mF) :: datA 5 ps :: R)) (M0 := [(7, .int .i64 0)]) (⟨0, rfl, rfl, by omega, hs⟩) (hf.sub ⟨rfl, rfl, rfl, rfl, rfl, rfl, rfl, rfl, rfl, rfl, rfl, trivial⟩) ?_
    clear hf hs a
    rintro M m a w ⟨k, rfl, rfl, hk, hs⟩ hf
    refine wp_seq ?_
    refine wp_seq ?_
    refine wp_region_lit ?_
    refine s_m hf rfl ?_; clear hf a; intro a hf
    refine s_m hf rfl ?_; clear hf a; intro a hf
    refine s_v hf (x_len Try.underlying22 (hf.eval rfl)) ?_; clear hf a; intro a hf
    refine s_v hf (x_bin (hf.eval rfl) (hf.eval rfl) (r_lt _ _ _ _)) ?_; clear hf a; intro a hf
    refine s_nil ?_
    refine then_n ?_
    refine c_cond hf rfl (fun hi2 => ?_) (fun hi2 => ?_)
    · simp only [decide_eq_true_eq, decide_eq_false_iff_not, Bool.not_eq_true', Bool.not_eq_false', Bool.not_eq_true, Int.not_lt, Int.not_le] at hi2
      have hkl : k * 512 < out.length := by omega
      refine wp_skip ?_
      refine then_n ?_
      refine wp_seq ?_
      refine wp_block ?_
      refine wp_seq ?_
      refine wp_region_lit ?_
      refine s_a hf rfl ?_; clear hf a; intro a hf
      refine s_nil ?_
      refine then_n ?_
      refine wp_seq ?_
      refine wp_seq ?_
      refine wp_region_lit ?_
      refine s_a hf rfl ?_; clear hf a; intro a hf
      refine s_nil ?_
      refine then_n ?_
      refine wp_block ?_
      refine c_loop (L0 := [(0, _), (1, _), (5, _), (6, _), (7, _), (10, _), (11, _), (12, _), (13, _), (27, _), (28, _), (29, _), (30, _), (31, _), (32, _)]) (fun M w m => ∃ (j : Nat) (fd : Bool), M = [(8, .bool fd), (9, .int .i64 (j : Int))] ∧ ps.length - j = m ∧ j ≤ ps.length ∧ (fd = false → ∀ p ∈ ps.take j, ¬ goodM out k p) ∧ St σ w (sl 22 1 (.slice am ps.length cm) ps.length (ps.flatMap mF) :: datA 5 ps :: R)) (M0 := [(8, .bool false), (9, .int .i64 0)]) (⟨0, false, rfl, rfl, Nat.zero_le _, by simp, hs⟩) (hf.sub ⟨rfl, rfl, rfl, rfl, rfl, rfl, rfl, rfl, rfl, rfl, rfl, rfl, rfl, rfl, rfl, rfl, rfl, trivial⟩) ?_
      clear hf hs a
      rintro M m a w ⟨j, fd, rfl, rfl, hj, hfd, hs⟩ hf
      refine wp_seq ?_
      refine wp_seq ?_
      refine wp_region_lit ?_
      refine s_m hf rfl ?_; clear hf a; intro a hf
      refine s_m hf rfl ?_; clear hf a; intro a hf
      refine s_v hf (x_len Try.underlying57 (hf.eval rfl)) ?_; clear hf a; intro a hf
      refine s_v hf (x_bin (hf.eval rfl) (hf.eval rfl) (r_lt _ _ _ _)) ?_; clear hf a; intro a hf
      refine s_m hf rfl ?_; clear hf a; intro a hf
      refine s_bool hf (k := 39) rfl (fun hg13_4 hf' => ?_) (fun hg13_4 hf' => ?_)
      · clear hf
        have hf := hf'
        clear hf'
        simp only [decide_eq_true_eq, decide_eq_false_iff_not] at hg13_4
        refine s_do hf (wanted_of hf rfl rfl rfl) (.value (x_move (hf.eval rfl) _) ?_); clear hf a; intro a hf
        refine s_do hf (wanted_of hf rfl rfl rfl) (.value (x_not (hf.eval rfl) _) ?_); clear hf a; intro a hf
        refine s_v hf (x_pick_t (hf.eval rfl) (hf.eval rfl)) ?_; clear hf a; intro a hf
        refine s_nil ?_
        refine then_n ?_
        refine c_cond hf rfl (fun hi3 => ?_) (fun hi3 => ?_)
        · first | simp only [Bool.not_eq_true', Bool.not_eq_false'] at hi3 | skip
          have hlt : j < ps.length := by omega
          obtain ⟨am, rfl⟩ := sl_some hs (by omega)
          have hfd0 : fd = false := by simpa using hi3
          have hpd := hs.datRd (.there _ (.here _)) hlt
          obtain ⟨pa, pk, hpv⟩ := hpd.shape
          refine wp_skip ?_
          refine then_n ?_
          refine wp_seq ?_
          refine wp_block ?_
          refine wp_region_lit ?_
          refine s_m hf rfl ?_; clear hf a; intro a hf
          refine s_m hf rfl ?_; clear hf a; intro a hf
          refine s_m hf rfl ?_; clear hf a; intro a hf
          refine s_v hf (x_indexAddr sl57 (hf.eval rfl) (hf.eval rfl) (by omega) (by omega)) ?_; clear hf a; intro a hf
          refine s_r hf (x_loadC (i := (j : Int)) hs sc22 (.here _) (hf.eval rfl) (by rw [Int.toNat_natCast]; exact mF_get hlt)) ?_; clear hf a; intro a hf
          replace hf := hf.now (k := 49) (v' := .slice pa ps[j].2.2.length pk) rfl (hpv)
          refine s_m hf rfl ?_; clear hf a; intro a hf
          refine s_do hf rfl (y_call (hf.eval rfl) (hf.evals rfl) Try.call57 ((part_spec _ _ _ out (hro _ [_, _] hs) _ _ ps[j].2.2 (by rw [← hpv]; exact hpd) (k * 512) (by omega)).mono ?_))
          rintro e w1 ⟨b, rfl, hbt, hk9⟩
          replace hs := hs.ext hk9
          have hfd9 : b = false → ∀ p ∈ ps.take (j + 1), ¬ goodM out k p := by
            intro hb p hp hgp
            rcases (mem_takeS hlt).1 hp with hp | hp
            · exact hfd hfd0 p hp hgp
            · subst hp; rw [hbt.2 hgp] at hb; cases hb
          refine ⟨_, rfl, ?_⟩; clear hf a; intro a hf
          refine s_a hf rfl ?_; clear hf a; intro a hf
          refine s_nil ?_
          refine blk_n ?_
          refine then_n ?_
          refine wp_region_lit ?_
          refine s_m hf rfl ?_; clear hf a; intro a hf
          refine s_v hf (x_bin (hf.eval rfl) (hf.eval rfl) (r_addi _ (by omega) (by omega))) ?_; clear hf a; intro a hf
          refine s_a hf rfl ?_; clear hf a; intro a hf
          refine s_nil ?_
          exact ⟨_, _, ⟨j + 1, _, rfl, rfl, by omega, hfd9, hs⟩, by omega, hf.sub ⟨rfl, rfl, rfl, rfl, rfl, rfl, rfl, rfl, rfl, rfl, rfl, rfl, rfl, rfl, rfl, rfl, rfl, trivial⟩⟩
        · first | simp only [Bool.not_eq_true', Bool.not_eq_false'] at hi3 | skip
          have hfd1 : fd = true := by
            cases hc : fd with
            | true => rfl
            | false =>
              exfalso
              first | (rw [hc] at hi3; simp at hi3; done) | (obtain ⟨p, hp, hgp⟩ := hsec k; exact hfd hc p (by rw [show j = ps.length by omega, List.take_length]; exact hp) hgp)
          refine wp_exit ?_
          refine then_x ?_
          refine then_x ?_
          refine blk_x ?_
          refine then_n ?_
          refine wp_seq ?_
          refine wp_region_lit ?_
          refine s_m hf rfl ?_; clear hf a; intro a hf
          refine s_v hf (x_not (hf.eval rfl)) ?_; clear hf a; intro a hf
          refine s_nil ?_
          refine then_n ?_
          refine c_cond_f hf rfl (by rw [hfd1]; rfl) ?_
          refine wp_skip ?_
          refine blk_n ?_
          refine then_n ?_
          refine wp_region_lit ?_
          refine s_m hf rfl ?_; clear hf a; intro a hf
          refine s_v hf (x_bin (hf.eval rfl) (hf.eval rfl) (r_addi _ (by omega) (by omega))) ?_; clear hf a; intro a hf
          replace hf := hf.now (k := 34) (v' := .int .i64 (((k + 1) * 512 : Nat) : Int)) rfl (by congr 1; omega)
          refine s_a hf rfl ?_; clear hf a; intro a hf
          refine s_nil ?_
          exact ⟨_, _, ⟨k + 1, rfl, rfl, by omega, hs⟩, by omega, hf.sub ⟨rfl, rfl, rfl, rfl, rfl, rfl, rfl, rfl, rfl, rfl, rfl, trivial⟩⟩
      · clear hf
        have hf := hf'
        clear hf'
        simp only [decide_eq_true_eq, decide_eq_false_iff_not] at hg13_4
        refine s_pass hf rfl rfl ?_; clear hf a; intro a hf
        refine s_pass hf rfl rfl ?_; clear hf a; intro a hf
        refine s_v hf (x_pick_f (hf.eval rfl) (hf.eval rfl)) ?_; clear hf a; intro a hf
        refine s_nil ?_
        refine then_n ?_
        refine c_cond_f hf rfl rfl ?_
        have hfd1 : fd = true := by
          cases hc : fd with
          | true => rfl
          | false =>
            exfalso
            first | (rw [hc] at hi3; simp at hi3; done) | (obtain ⟨p, hp, hgp⟩ := hsec k; exact hfd hc p (by rw [show j = ps.length by omega, List.take_length]; exact hp) hgp)
        refine wp_exit ?_
        refine then_x ?_
        refine then_x ?_
        refine blk_x ?_
        refine then_n ?_
        refine wp_seq ?_
        refine wp_region_lit ?_
        refine s_m hf rfl ?_; clear hf a; intro a hf
        refine s_v hf (x_not (hf.eval rfl)) ?_; clear hf a; intro a hf
        refine s_nil ?_
        refine then_n ?_
        refine c_cond_f hf rfl (by rw [hfd1]; rfl) ?_
        refine wp_skip ?_
        refine blk_n ?_
        refine then_n ?_
        refine wp_region_lit ?_
        refine s_m hf rfl ?_; clear hf a; intro a hf
        refine s_v hf (x_bin (hf.eval rfl) (hf.eval rfl) (r_addi _ (by omega) (by omega))) ?_; clear hf a; intro a hf
        replace hf := hf.now (k := 34) (v' := .int .i64 (((k + 1) * 512 : Nat) : Int)) rfl (by congr 1; omega)
        refine s_a hf rfl ?_; clear hf a; intro a hf
        refine s_nil ?_
        exact ⟨_, _, ⟨k + 1, rfl, rfl, by omega, hs⟩, by omega, hf.sub ⟨rfl, rfl, rfl, rfl, rfl, rfl, rfl, rfl, rfl, rfl, rfl, trivial⟩⟩
    · simp only [decide_eq_true_eq, decide_eq_false_iff_not, Bool.not_eq_true', Bool.not_eq_false', Bool.not_eq_true, Int.not_lt, Int.not_le] at hi2
      refine wp_exit ?_
      refine then_x ?_
      refine then_x ?_
      refine blk_x ?_
      refine then_n ?_
      refine wp_seq ?_
      refine wp_region_lit ?_
      refine s_a hf rfl ?_; clear hf a; intro a hf
      refine s_nil ?_
      refine then_n ?_
      refine wp_ret ?_
      refine r_1 hf Try.results43 rfl ?_
      exact ⟨rfl, hs⟩

theorem only4 {σ : Sig} {w : World} {A B C D : Asrt} {R : List Asrt} (hs : St σ w (A :: B :: C :: D :: R)) : St σ w [A, B, C, D] := by
  obtain ⟨h, hh, a, r, d, la, lr, ha, b, r2, d2, lb, lr2, hb, c, r3, d3, lc, lr3, hc, e, r4, d4, le, lr4, he, _⟩ := hs.has
  exact ⟨hs.kept, h, hh, a, r, d, la, lr, ha, b, r2, d2, lb, lr2, hb, c, r3, d3, lc, lr3, hc, e, r4, d4, le, lr4, he, trivial⟩

theorem torn_sz {ps : List Pt} {out : List UInt8} (h : ∃ m ∈ ps.map (·.2.2), m.length = out.length) : ∃ p ∈ ps, p.2.2.length = out.length := by
  obtain ⟨m, hm, h1⟩ := h
  obtain ⟨p, hp, rfl⟩ := List.mem_map.1 hm
  exact ⟨p, hp, h1⟩
theorem torn_sec {ps : List Pt} {out : List UInt8} (h : ∀ sec, ∃ m ∈ ps.map (·.2.2), ∀ x, x / 512 = sec → x < out.length → out.getD x 0 = m.getD x 0) (k : Nat) : ∃ p ∈ ps, goodM out k p := by
  obtain ⟨m, hm, h1⟩ := h k
  obtain ⟨p, hp, rfl⟩ := List.mem_map.1 hm
  exact ⟨p, hp, fun x h2 h3 h4 => h1 x (by omega) h4⟩

theorem diskTorn_spec (w0 : World) (a1 : Option Addr) (c1 : Nat) (image : List UInt8) (hr1 : RdB (hp w0) (.slice a1 image.length c1) image) (hl1 : image.length ≤ 140737488351232) (cap : Int) (asc : Option Addr) (csc : Nat) (ops : List DOp) (hrosc : RdS opF 7 (hp w0) (.slice asc ops.length csc) ops) (hogsc : ∀ o ∈ ops, DOpG (hp w0) o) (hlosc : ops.length ≤ 1048576) (csz : Int) (ac : Option Addr) (cc : Nat) (secs : List Int) (rest : Int) (hrc : RdS iF 1 (hp w0) (.slice ac secs.length cc) secs) (hlc : secs.length ≤ 1048576) : Calls Try.prog 10 #[.slice a1 image.length c1, .int .i64 cap, .slice asc ops.length csc, .agg #[.int .i64 csz, .slice ac secs.length cc, .int .i64 rest]] w0 fun e w' => e = .returned (.bool true) ∧ Kept w0 w' None_ := by
  have hs := St.start w0 None_
  refine c_enter (N := 83) Try.func10 rfl Try.ntmps10 (by simp) ?_
  intro a hf
  refine wp_seq ?_
  refine wp_region_lit ?_
  refine s_do hf rfl (y_box hs (hf.eval rfl) ?_); clear hf hs a; intro cx w hs a hf
  replace hs : St ⟨w0, None_⟩ w [cb cx 40 [.int .i64 csz, .slice ac secs.length cc, .int .i64 rest]] := hs
  refine s_a hf rfl ?_; clear hf a; intro a hf
  refine s_nil ?_
  refine then_n ?_
  refine wp_seq ?_
  refine wp_seq ?_
  refine wp_region_lit ?_
  refine s_m hf rfl ?_; clear hf a; intro a hf
  refine s_m hf rfl ?_; clear hf a; intro a hf
  refine s_do hf rfl (y_call (hf.eval rfl) (hf.evals rfl) Try.call25 ((fits_spec _ a1 image.length c1 cap).mono ?_))
  rintro e w1 ⟨rfl, hw9⟩
  rw [hw9]
  clear hw9 w1
  refine ⟨_, rfl, ?_⟩; clear hf a; intro a hf
  refine s_v hf (x_not (hf.eval rfl)) ?_; clear hf a; intro a hf
  refine s_nil ?_
  refine then_n ?_
  refine c_cond hf rfl (fun hi0 => ?_) (fun hi0 => ?_)
  · simp only [Bool.not_eq_true', Bool.not_eq_false', decide_eq_true_eq, decide_eq_false_iff_not] at hi0
    refine wp_seq ?_
    refine wp_region_lit ?_
    refine s_a hf rfl ?_; clear hf a; intro a hf
    refine s_nil ?_
    refine then_n ?_
    refine wp_ret ?_
    refine then_r ?_
    refine r_1 hf Try.results10 rfl ?_
    exact ⟨rfl, hs.kept⟩
  · simp only [Bool.not_eq_true', Bool.not_eq_false', decide_eq_true_eq, decide_eq_false_iff_not] at hi0
    obtain ⟨hc1, hc2, hc3⟩ := hi0
    refine wp_skip ?_
    refine then_n ?_
    refine wp_seq ?_
    refine wp_region_lit ?_
    refine s_m hf rfl ?_; clear hf a; intro a hf
    refine s_m hf rfl ?_; clear hf a; intro a hf
    refine s_do hf rfl (y_call (hf.eval rfl) (hf.evals rfl) Try.call26 ((fresh_spec _ a1 c1 image (hs.oldB hr1) hl1 cap hc1 hc2 hc3).mono ?_))
    rintro e w1 ⟨p, rfl, hj⟩
    replace hs := hs.join hj
    simp only [List.cons_append, List.nil_append] at hs
    refine ⟨_, rfl, ?_⟩; clear hf a; intro a hf
    refine s_a hf rfl ?_; clear hf a; intro a hf
    refine s_nil ?_
    refine then_n ?_
    refine wp_seq ?_
    refine wp_seq ?_
    refine wp_region_lit ?_
    refine s_m hf rfl ?_; clear hf a; intro a hf
    refine s_v hf (x_eqNil Try.underlying23 (hf.eval rfl) (hf.eval rfl)) ?_; clear hf a; intro a hf
    replace hf := hf.now (k := 25) (v' := .bool false) rfl rfl
    refine s_nil ?_
    refine then_n ?_
    refine c_cond_f hf rfl rfl ?_
    refine wp_skip ?_
    refine then_n ?_
    refine wp_seq ?_
    refine wp_region_lit ?_
    refine s_m hf rfl ?_; clear hf a; intro a hf
    refine s_do hf rfl (y_call (hf.eval rfl) (hf.evals rfl) Try.call29 ((lclone_spec _ _ _ image (hs.oldB hr1) hl1).mono ?_))
    rintro e w1 ⟨e0, fe0, rfl, hj⟩
    replace hs := hs.join hj
    simp only [List.cons_append, List.nil_append] at hs
    refine ⟨_, rfl, ?_⟩; clear hf a; intro a hf
    refine s_do hf rfl (y_lit (xs := [.tmp 27]) hs sl57 (hf.evals rfl) rfl (by simp [Value.cells]) (by decide) ?_); clear hf hs a; intro b2 w hs a hf
    replace hs := hs.ofCb (sz := 1) (n := 1) rfl (by rw [maxLen_eq]; omega)
    replace hs := (datA_push (p := ((0, .slice e0 image.length fe0, image) : Pt)) ((hs.take (.there _ (.here _))).emp (A := datA 5 []) (fun _ => trivial))).take (.there _ (.here _))
    refine s_a hf rfl ?_; clear hf a; intro a hf
    refine s_nil ?_
    refine then_n ?_
    refine wp_seq ?_
    refine wp_seq ?_
    refine wp_region_lit ?_
    refine s_a hf rfl ?_; clear hf a; intro a hf
    refine s_nil ?_
    refine then_n ?_
    refine wp_block ?_
    refine c_loop (L0 := [(1, _), (2, _), (7, _), (9, _)]) (fun M w m => ∃ (i : Nat) (s : DS) (v : Value) (ps : List Pt), M = [(10, v), (11, .int .i64 (i : Int))] ∧ ops.length - i = m ∧ i ≤ ops.length ∧ DOk s ∧ DB s i ∧ Free s ∧ s.room = cap ∧ Torn s (ps.map (·.2.2)) ∧ ps.length ≤ i + 1 ∧ St ⟨w0, None_⟩ w [sl 22 1 v ps.length (ps.flatMap mF), datA 5 ps, diskA 78 83 5 3 p s, cb cx 40 [.int .i64 csz, .slice ac secs.length cc, .int .i64 rest]]) (M0 := _) (⟨0, newS image cap, _, [((0, .slice e0 image.length fe0, image) : Pt)], rfl, rfl, Nat.zero_le _, newS_ok hc1 hc2 hc3, newS_b _ _ _, newS_free _ _, rfl, (by simpa using torn_new image cap), Nat.le_refl _, hs⟩) (hf.sub ⟨rfl, rfl, rfl, rfl, rfl, rfl, trivial⟩) ?_
    clear hf hs a
    rintro M m a w ⟨i, s, v, ps, rfl, rfl, hi, ho, hb, hfr, hrm, hT, hpl, hs⟩ hf
    refine wp_seq ?_
    refine wp_seq ?_
    refine wp_region_lit ?_
    refine s_m hf rfl ?_; clear hf a; intro a hf
    refine s_m hf rfl ?_; clear hf a; intro a hf
    refine s_v hf (x_len Try.underlying58 (hf.eval rfl)) ?_; clear hf a; intro a hf
    refine s_v hf (x_bin (hf.eval rfl) (hf.eval rfl) (r_lt _ _ _ _)) ?_; clear hf a; intro a hf
    refine s_nil ?_
    refine then_n ?_
    refine c_cond hf rfl (fun hi2 => ?_) (fun hi2 => ?_)
    · simp only [decide_eq_true_eq, decide_eq_false_iff_not, Bool.not_eq_true', Bool.not_eq_false', Bool.not_eq_true, Int.not_lt, Int.not_le] at hi2
      have hlt : i < ops.length := by omega
      obtain ⟨asc, rfl⟩ := hrosc.some (by omega)
      have hg := hogsc _ (List.getElem_mem hlt)
      have hcf := chS_free hfr ops[i]
      refine wp_skip ?_
      refine then_n ?_
      refine wp_seq ?_
      refine wp_block ?_
      refine wp_seq ?_
      refine wp_region_lit ?_
      refine s_m hf rfl ?_; clear hf a; intro a hf
      refine s_m hf rfl ?_; clear hf a; intro a hf
      refine s_v hf (x_indexAddr sl58 (hf.eval rfl) (hf.eval rfl) (by omega) (by omega)) ?_; clear hf a; intro a hf
      refine s_r hf (x_loadS (f := opF) ag42 (fun _ => rfl) (hs.old hrosc) (hf.eval rfl) (by simpa using hlt)) ?_; clear hf a; intro a hf
      refine s_do hf rfl (y_alloc hs Try.zeroValue42 ?_); clear hf hs a; intro b7 w hs a hf
      change St _ _ (cb b7 42 [.int .i64 0, .int .i64 0, .int .i64 0, .slice none 0 0, .int .i64 0, .slice none 0 0, .int .i64 0] :: _) at hs
      refine s_do0 hf rfl (y_storeAgg (cs := opF ops[i]) hs (n := 7) (by kernel_rfl) (hf.eval rfl) (hf.eval rfl) (by simp [Value.oneCell', opF]) rfl rfl (.here _) ?_); clear hf hs a; intro w hs a hf
      refine s_nil ?_
      refine then_n ?_
      refine wp_seq ?_
      refine wp_seq ?_
      refine c_draw hs (fun w' => w'.cell? ⟨b7, 0, none⟩ = some (.int .i64 ops[i].1) ∧ w'.cell? ⟨b7, 1, none⟩ = some (.int .i64 ops[i].2.1)) [.held, .held, .held, .held, .held, .held, .held, .eff, .held, .held] (by kernel_rfl) (by kernel_rfl) (fun _ _ hs => ⟨hs.cell (k := 0) (.here _) rfl, hs.cell (k := 1) (.here _) rfl⟩) ?_
      clear hs; intro w hs hC hw
      refine m_held hf rfl (fun w' _ => x_fieldAddr fo42_0 (hf.eval rfl) w') ?_; clear hf a; intro a hf
      refine m_held hf rfl (fun w' hc => x_load sc3 (hf.eval rfl) hc.1) ?_; clear hf a; intro a hf
      refine m_held hf rfl (fun w' _ => x_bin (hf.eval rfl) (hf.eval rfl) (r_eq _ _ _ _) w') ?_; clear hf a; intro a hf
      refine m_held hf rfl (fun w' _ => x_move (hf.eval rfl) w') ?_; clear hf a; intro a hf
      refine s_bool hf (k := 42) rfl (fun hg11_3 hf' => ?_) (fun hg11_3 hf' => ?_)
      · clear hf
        have hf := hf'
        clear hf'
        simp only [decide_eq_true_eq, decide_eq_false_iff_not] at hg11_3
        refine m_held hf (wanted_of hf rfl rfl rfl) (fun w' _ => x_fieldAddr fo42_1 (hf.eval rfl) w') ?_; clear hf a; intro a hf
        refine m_held hf (wanted_of hf rfl rfl rfl) (fun w' hc => x_load sc3 (hf.eval rfl) hc.2) ?_; clear hf a; intro a hf
        refine m_held hf (wanted_of hf rfl rfl rfl) (fun w' _ => x_move (hf.eval rfl) w') ?_; clear hf a; intro a hf
        replace hs := hs.take (A := diskA 78 83 5 3 p s) (by first | exact .here _ | exact .there _ (.here _) | exact .there _ (.there _ (.here _)) | exact .there _ (.there _ (.there _ (.here _))) | exact .there _ (.there _ (.there _ (.there _ (.here _)))) | exact .there _ (.there _ (.there _ (.there _ (.there _ (.here _))))) | exact .there _ (.there _ (.there _ (.there _ (.there _ (.there _ (.here _)))))) | exact .there _ (.there _ (.there _ (.there _ (.there _ (.there _ (.there _ (.here _))))))) | exact .there _ (.there _ (.there _ (.there _ (.there _ (.there _ (.there _ (.there _ (.here _)))))))) | exact .there _ (.there _ (.there _ (.there _ (.there _ (.there _ (.there _ (.there _ (.there _ (.here _))))))))) | exact .there _ (.there _ (.there _ (.there _ (.there _ (.there _ (.there _ (.there _ (.there _ (.there _ (.here _)))))))))) | exact .there _ (.there _ (.there _ (.there _ (.there _ (.there _ (.there _ (.there _ (.there _ (.there _ (.there _ (.here _))))))))))))
        refine m_eff hf (wanted_of hf rfl rfl rfl) (y_call (hf.eval rfl) (hf.evals rfl) Try.call21 ((dSize_spec _ _ _ p _ hs).mono ?_))
        rintro e w1 ⟨rfl, hw8⟩
        rw [hw8]
        clear hw8
        refine ⟨_, rfl, ⟨hC, ?_⟩⟩; clear hf a; intro a hf
        refine m_held hf (wanted_of hf rfl rfl rfl) (fun w' _ => x_bin (hf.eval rfl) (hf.eval rfl) (r_lt _ _ _ _) w') ?_; clear hf a; intro a hf
        refine m_held hf rfl (fun w' _ => x_pick_t (hf.eval rfl) (hf.eval rfl) w') ?_; clear hf a; intro a hf
        refine m_nil ?_
        refine then_n ?_
        refine c_cond hf rfl (fun hi3 => ?_) (fun hi3 => ?_)
        · first | simp only [decide_eq_true_eq, decide_eq_false_iff_not] at hi3 | skip
          replace hs := hs.take (A := cb cx 40 [.int .i64 csz, .slice ac secs.length cc, .int .i64 rest]) (by first | exact .here _ | exact .there _ (.here _) | exact .there _ (.there _ (.here _)) | exact .there _ (.there _ (.there _ (.here _))) | exact .there _ (.there _ (.there _ (.there _ (.here _)))) | exact .there _ (.there _ (.there _ (.there _ (.there _ (.here _))))) | exact .there _ (.there _ (.there _ (.there _ (.there _ (.there _ (.here _)))))) | exact .there _ (.there _ (.there _ (.there _ (.there _ (.there _ (.there _ (.here _))))))) | exact .there _ (.there _ (.there _ (.there _ (.there _ (.there _ (.there _ (.there _ (.here _)))))))) | exact .there _ (.there _ (.there _ (.there _ (.there _ (.there _ (.there _ (.there _ (.there _ (.here _))))))))) | exact .there _ (.there _ (.there _ (.there _ (.there _ (.there _ (.there _ (.there _ (.there _ (.there _ (.here _)))))))))) | exact .there _ (.there _ (.there _ (.there _ (.there _ (.there _ (.there _ (.there _ (.there _ (.there _ (.there _ (.here _))))))))))))
          replace hs := hs.take (A := diskA 78 83 5 3 p s) (by first | exact .here _ | exact .there _ (.here _) | exact .there _ (.there _ (.here _)) | exact .there _ (.there _ (.there _ (.here _))) | exact .there _ (.there _ (.there _ (.there _ (.here _)))) | exact .there _ (.there _ (.there _ (.there _ (.there _ (.here _))))) | exact .there _ (.there _ (.there _ (.there _ (.there _ (.there _ (.here _)))))) | exact .there _ (.there _ (.there _ (.there _ (.there _ (.there _ (.there _ (.here _))))))) | exact .there _ (.there _ (.there _ (.there _ (.there _ (.there _ (.there _ (.there _ (.here _)))))))) | exact .there _ (.there _ (.there _ (.there _ (.there _ (.there _ (.there _ (.there _ (.there _ (.here _))))))))) | exact .there _ (.there _ (.there _ (.there _ (.there _ (.there _ (.there _ (.there _ (.there _ (.there _ (.here _)))))))))) | exact .there _ (.there _ (.there _ (.there _ (.there _ (.there _ (.there _ (.there _ (.there _ (.there _ (.there _ (.here _))))))))))))
          replace hs := hs.take (A := datA 5 ps) (by first | exact .here _ | exact .there _ (.here _) | exact .there _ (.there _ (.here _)) | exact .there _ (.there _ (.there _ (.here _))) | exact .there _ (.there _ (.there _ (.there _ (.here _)))) | exact .there _ (.there _ (.there _ (.there _ (.there _ (.here _))))) | exact .there _ (.there _ (.there _ (.there _ (.there _ (.there _ (.here _)))))) | exact .there _ (.there _ (.there _ (.there _ (.there _ (.there _ (.there _ (.here _))))))) | exact .there _ (.there _ (.there _ (.there _ (.there _ (.there _ (.there _ (.there _ (.here _)))))))) | exact .there _ (.there _ (.there _ (.there _ (.there _ (.there _ (.there _ (.there _ (.there _ (.here _))))))))) | exact .there _ (.there _ (.there _ (.there _ (.there _ (.there _ (.there _ (.there _ (.there _ (.there _ (.here _)))))))))) | exact .there _ (.there _ (.there _ (.there _ (.there _ (.there _ (.there _ (.there _ (.there _ (.there _ (.there _ (.here _))))))))))))
          replace hs := hs.take (A := sl 22 1 v ps.length (ps.flatMap mF)) (by first | exact .here _ | exact .there _ (.here _) | exact .there _ (.there _ (.here _)) | exact .there _ (.there _ (.there _ (.here _))) | exact .there _ (.there _ (.there _ (.there _ (.here _)))) | exact .there _ (.there _ (.there _ (.there _ (.there _ (.here _))))) | exact .there _ (.there _ (.there _ (.there _ (.there _ (.there _ (.here _)))))) | exact .there _ (.there _ (.there _ (.there _ (.there _ (.there _ (.there _ (.here _))))))) | exact .there _ (.there _ (.there _ (.there _ (.there _ (.there _ (.there _ (.there _ (.here _)))))))) | exact .there _ (.there _ (.there _ (.there _ (.there _ (.there _ (.there _ (.there _ (.there _ (.here _))))))))) | exact .there _ (.there _ (.there _ (.there _ (.there _ (.there _ (.there _ (.there _ (.there _ (.there _ (.here _)))))))))) | exact .there _ (.there _ (.there _ (.there _ (.there _ (.there _ (.there _ (.there _ (.there _ (.there _ (.there _ (.here _))))))))))))
          have hs9 := only4 hs
          have ho9 := ho
          have hb9 := hb.up (Nat.le_succ i)
          have hf9 := hfr
          have hr9 := hrm
          have hT9 := hT
          have hp9 : ps.length ≤ i + 1 + 1 := by omega
          refine wp_exit ?_
          refine then_x ?_
          refine blk_x ?_
          refine then_n ?_
          refine wp_region_lit ?_
          refine s_m hf rfl ?_; clear hf a; intro a hf
          refine s_v hf (x_bin (hf.eval rfl) (hf.eval rfl) (r_addi _ (by omega) (by omega))) ?_; clear hf a; intro a hf
          refine s_a hf rfl ?_; clear hf a; intro a hf
          refine s_nil ?_
          exact ⟨_, _, ⟨i + 1, _, _, _, rfl, rfl, by omega, ho9, hb9, hf9, hr9, hT9, hp9, hs9⟩, by omega, hf.sub ⟨rfl, rfl, rfl, rfl, rfl, rfl, trivial⟩⟩
        · first | simp only [decide_eq_true_eq, decide_eq_false_iff_not] at hi3 | skip
          have hTs := torn_step hT hfr ops[i] (by first | (intro h; exact hg11_3 h.1) | (intro h; have := h.2; omega))
          refine wp_skip ?_
          refine then_n ?_
          refine wp_seq ?_
          refine wp_region_lit ?_
          refine s_m hf rfl ?_; clear hf a; intro a hf
          replace hs := hs.take (A := cb b7 42 (opF ops[i])) (by first | exact .here _ | exact .there _ (.here _) | exact .there _ (.there _ (.here _)) | exact .there _ (.there _ (.there _ (.here _))) | exact .there _ (.there _ (.there _ (.there _ (.here _)))) | exact .there _ (.there _ (.there _ (.there _ (.there _ (.here _))))) | exact .there _ (.there _ (.there _ (.there _ (.there _ (.there _ (.here _)))))) | exact .there _ (.there _ (.there _ (.there _ (.there _ (.there _ (.there _ (.here _))))))) | exact .there _ (.there _ (.there _ (.there _ (.there _ (.there _ (.there _ (.there _ (.here _)))))))) | exact .there _ (.there _ (.there _ (.there _ (.there _ (.there _ (.there _ (.there _ (.there _ (.here _))))))))) | exact .there _ (.there _ (.there _ (.there _ (.there _ (.there _ (.there _ (.there _ (.there _ (.there _ (.here _)))))))))) | exact .there _ (.there _ (.there _ (.there _ (.there _ (.there _ (.there _ (.there _ (.there _ (.there _ (.there _ (.here _))))))))))))
          refine s_r hf (x_loadBlk hs ag42 (hf.eval rfl) rfl (.here _)) ?_; clear hf a; intro a hf
          replace hs := hs.take (A := diskA 78 83 5 3 p s) (by first | exact .here _ | exact .there _ (.here _) | exact .there _ (.there _ (.here _)) | exact .there _ (.there _ (.there _ (.here _))) | exact .there _ (.there _ (.there _ (.there _ (.here _)))) | exact .there _ (.there _ (.there _ (.there _ (.there _ (.here _))))) | exact .there _ (.there _ (.there _ (.there _ (.there _ (.there _ (.here _)))))) | exact .there _ (.there _ (.there _ (.there _ (.there _ (.there _ (.there _ (.here _))))))) | exact .there _ (.there _ (.there _ (.there _ (.there _ (.there _ (.there _ (.there _ (.here _)))))))) | exact .there _ (.there _ (.there _ (.there _ (.there _ (.there _ (.there _ (.there _ (.there _ (.here _))))))))) | exact .there _ (.there _ (.there _ (.there _ (.there _ (.there _ (.there _ (.there _ (.there _ (.there _ (.here _)))))))))) | exact .there _ (.there _ (.there _ (.there _ (.there _ (.there _ (.there _ (.there _ (.there _ (.there _ (.there _ (.here _))))))))))))
          refine s_do hf rfl (y_call (hf.eval rfl) (hf.evals rfl) Try.call41 ((change_spec _ _ _ p s hs ops[i] (Rdy.old hg.data) hg.len ho (hb.up (by omega))).mono ?_))
          rintro e w1 ⟨rfl, hs⟩
          refine ⟨_, rfl, ?_⟩; clear hf a; intro a hf
          refine s_a hf rfl ?_; clear hf a; intro a hf
          refine s_nil ?_
          refine then_n ?_
          refine wp_seq ?_
          refine wp_seq ?_
          refine wp_region_lit ?_
          refine s_m hf rfl ?_; clear hf a; intro a hf
          replace hs := hs.take (A := cb b7 42 (opF ops[i])) (by first | exact .here _ | exact .there _ (.here _) | exact .there _ (.there _ (.here _)) | exact .there _ (.there _ (.there _ (.here _))) | exact .there _ (.there _ (.there _ (.there _ (.here _)))) | exact .there _ (.there _ (.there _ (.there _ (.there _ (.here _))))) | exact .there _ (.there _ (.there _ (.there _ (.there _ (.there _ (.here _)))))) | exact .there _ (.there _ (.there _ (.there _ (.there _ (.there _ (.there _ (.here _))))))) | exact .there _ (.there _ (.there _ (.there _ (.there _ (.there _ (.there _ (.there _ (.here _)))))))) | exact .there _ (.there _ (.there _ (.there _ (.there _ (.there _ (.there _ (.there _ (.there _ (.here _))))))))) | exact .there _ (.there _ (.there _ (.there _ (.there _ (.there _ (.there _ (.there _ (.there _ (.there _ (.here _)))))))))) | exact .there _ (.there _ (.there _ (.there _ (.there _ (.there _ (.there _ (.there _ (.there _ (.there _ (.there _ (.here _))))))))))))
          refine s_r hf (x_loadBlk hs ag42 (hf.eval rfl) rfl (.here _)) ?_; clear hf a; intro a hf
          refine s_m hf rfl ?_; clear hf a; intro a hf
          refine s_do hf rfl (y_call (hf.eval rfl) (hf.evals rfl) Try.call30 ((refused_spec _ ops[i] cap hc1 hc2 hg.len hg.b1.2).mono ?_))
          rintro e w1 ⟨rfl, hk⟩
          replace hs := hs.ext hk
          refine ⟨_, rfl, ?_⟩; clear hf a; intro a hf
          refine s_v hf (x_bin (hf.eval rfl) (hf.eval rfl) (r_ne _ _ _ _)) ?_; clear hf a; intro a hf
          refine s_nil ?_
          refine then_n ?_
          refine c_cond_f hf rfl (by rw [hcf.2.2, hrm]; simp) ?_
          refine wp_skip ?_
          refine then_n ?_
          refine c_join (N := 83) (L0 := [(1, _), (2, _), (7, _), (9, _), (11, _), (12, _), (13, _), (29, _), (30, _), (31, _), (32, _), (35, _), (36, _), (37, _), (38, _), (39, _), (40, _), (41, _), (42, _), (43, _), (44, _), (45, _), (46, _), (47, _), (48, _), (49, _), (50, _), (51, _), (52, _), (53, _), (54, _), (55, _), (56, _)]) (fun M w => ∃ (v9 : Value) (ps9 : List Pt), M = [(10, v9)] ∧ ps9 = (if ops[i].1 = 4 then [] else ps) ∧ ps9.length ≤ i + 1 ∧ St ⟨w0, None_⟩ w [sl 22 1 v9 ps9.length (ps9.flatMap mF), datA 5 ps9, diskA 78 83 5 3 p (chS s ops[i]).2, cb cx 40 [.int .i64 csz, .slice ac secs.length cc, .int .i64 rest]]) (hf.sub ⟨rfl, rfl, rfl, rfl, rfl, rfl, rfl, rfl, rfl, rfl, rfl, rfl, rfl, rfl, rfl, rfl, rfl, rfl, rfl, rfl, rfl, rfl, rfl, rfl, rfl, rfl, rfl, rfl, rfl, rfl, rfl, rfl, rfl, trivial⟩) ?_ ?_
          · refine wp_seq ?_
            refine wp_region_lit ?_
            replace hs := hs.take (A := cb b7 42 (opF ops[i])) (by first | exact .here _ | exact .there _ (.here _) | exact .there _ (.there _ (.here _)) | exact .there _ (.there _ (.there _ (.here _))) | exact .there _ (.there _ (.there _ (.there _ (.here _)))) | exact .there _ (.there _ (.there _ (.there _ (.there _ (.here _))))) | exact .there _ (.there _ (.there _ (.there _ (.there _ (.there _ (.here _)))))) | exact .there _ (.there _ (.there _ (.there _ (.there _ (.there _ (.there _ (.here _))))))) | exact .there _ (.there _ (.there _ (.there _ (.there _ (.there _ (.there _ (.there _ (.here _)))))))) | exact .there _ (.there _ (.there _ (.there _ (.there _ (.there _ (.there _ (.there _ (.there _ (.here _))))))))) | exact .there _ (.there _ (.there _ (.there _ (.there _ (.there _ (.there _ (.there _ (.there _ (.there _ (.here _)))))))))) | exact .there _ (.there _ (.there _ (.there _ (.there _ (.there _ (.there _ (.there _ (.there _ (.there _ (.there _ (.here _))))))))))))
            refine s_v hf (x_fieldAddr fo42_0 (hf.eval rfl)) ?_; clear hf a; intro a hf
            refine s_r hf (x_load sc3 (hf.eval rfl) (by first | exact hs.cell (.here _) rfl | exact hs.cell (.there _ (.here _)) rfl | exact hs.cell (.there _ (.there _ (.here _))) rfl | exact hs.cell (.there _ (.there _ (.there _ (.here _)))) rfl | exact hs.cell (.there _ (.there _ (.there _ (.there _ (.here _))))) rfl | exact hs.cell (.there _ (.there _ (.there _ (.there _ (.there _ (.here _)))))) rfl)) ?_; clear hf a; intro a hf
            refine s_v hf (x_bin (hf.eval rfl) (hf.eval rfl) (r_eq _ _ _ _)) ?_; clear hf a; intro a hf
            refine s_nil ?_
            refine then_n ?_
            refine c_cond hf rfl (fun hi5 => ?_) (fun hi5 => ?_)
            · simp only [decide_eq_true_eq, decide_eq_false_iff_not, Bool.not_eq_true', Bool.not_eq_false', Bool.not_eq_true, Int.not_lt, Int.not_le] at hi5
              replace hs := hs.take (A := cb cx 40 [.int .i64 csz, .slice ac secs.length cc, .int .i64 rest]) (by first | exact .here _ | exact .there _ (.here _) | exact .there _ (.there _ (.here _)) | exact .there _ (.there _ (.there _ (.here _))) | exact .there _ (.there _ (.there _ (.there _ (.here _)))) | exact .there _ (.there _ (.there _ (.there _ (.there _ (.here _))))) | exact .there _ (.there _ (.there _ (.there _ (.there _ (.there _ (.here _)))))) | exact .there _ (.there _ (.there _ (.there _ (.there _ (.there _ (.there _ (.here _))))))) | exact .there _ (.there _ (.there _ (.there _ (.there _ (.there _ (.there _ (.there _ (.here _)))))))) | exact .there _ (.there _ (.there _ (.there _ (.there _ (.there _ (.there _ (.there _ (.there _ (.here _))))))))) | exact .there _ (.there _ (.there _ (.there _ (.there _ (.there _ (.there _ (.there _ (.there _ (.there _ (.here _)))))))))) | exact .there _ (.there _ (.there _ (.there _ (.there _ (.there _ (.there _ (.there _ (.there _ (.there _ (.there _ (.here _))))))))))))
              replace hs := hs.take (A := diskA 78 83 5 3 p (chS s ops[i]).2) (by first | exact .here _ | exact .there _ (.here _) | exact .there _ (.there _ (.here _)) | exact .there _ (.there _ (.there _ (.here _))) | exact .there _ (.there _ (.there _ (.there _ (.here _)))) | exact .there _ (.there _ (.there _ (.there _ (.there _ (.here _))))) | exact .there _ (.there _ (.there _ (.there _ (.there _ (.there _ (.here _)))))) | exact .there _ (.there _ (.there _ (.there _ (.there _ (.there _ (.there _ (.here _))))))) | exact .there _ (.there _ (.there _ (.there _ (.there _ (.there _ (.there _ (.there _ (.here _)))))))) | exact .there _ (.there _ (.there _ (.there _ (.there _ (.there _ (.there _ (.there _ (.there _ (.here _))))))))) | exact .there _ (.there _ (.there _ (.there _ (.there _ (.there _ (.there _ (.there _ (.there _ (.there _ (.here _)))))))))) | exact .there _ (.there _ (.there _ (.there _ (.there _ (.there _ (.there _ (.there _ (.there _ (.there _ (.there _ (.here _))))))))))))
              have hs9 := only4 ((hs.emp (A := datA 5 []) (fun _ => trivial)).emp (A := sl 22 1 (.slice none 0 0) ([] : List Pt).length (([] : List Pt).flatMap mF)) (fun _ => ⟨rfl, .inl ⟨rfl, rfl⟩⟩))
              have hq9 : ([] : List Pt) = (if ops[i].1 = 4 then [] else ps) := by rw [if_pos hi5]
              have hq8 : ([] : List Pt).length ≤ i + 1 := Nat.zero_le _
              refine wp_region_lit ?_
              refine s_a hf rfl ?_; clear hf a; intro a hf
              refine s_nil ?_
              refine then_n ?_
              exact ⟨_, ⟨_, _, rfl, hq9, hq8, hs9⟩, hf.sub ⟨rfl, rfl, rfl, rfl, rfl, rfl, rfl, rfl, rfl, rfl, rfl, rfl, rfl, rfl, rfl, rfl, rfl, rfl, rfl, rfl, rfl, rfl, rfl, rfl, rfl, rfl, rfl, rfl, rfl, rfl, rfl, rfl, rfl, rfl, trivial⟩⟩
            · simp only [decide_eq_true_eq, decide_eq_false_iff_not, Bool.not_eq_true', Bool.not_eq_false', Bool.not_eq_true, Int.not_lt, Int.not_le] at hi5
              replace hs := hs.take (A := cb cx 40 [.int .i64 csz, .slice ac secs.length cc, .int .i64 rest]) (by first | exact .here _ | exact .there _ (.here _) | exact .there _ (.there _ (.here _)) | exact .there _ (.there _ (.there _ (.here _))) | exact .there _ (.there _ (.there _ (.there _ (.here _)))) | exact .there _ (.there _ (.there _ (.there _ (.there _ (.here _))))) | exact .there _ (.there _ (.there _ (.there _ (.there _ (.there _ (.here _)))))) | exact .there _ (.there _ (.there _ (.there _ (.there _ (.there _ (.there _ (.here _))))))) | exact .there _ (.there _ (.there _ (.there _ (.there _ (.there _ (.there _ (.there _ (.here _)))))))) | exact .there _ (.there _ (.there _ (.there _ (.there _ (.there _ (.there _ (.there _ (.there _ (.here _))))))))) | exact .there _ (.there _ (.there _ (.there _ (.there _ (.there _ (.there _ (.there _ (.there _ (.there _ (.here _)))))))))) | exact .there _ (.there _ (.there _ (.there _ (.there _ (.there _ (.there _ (.there _ (.there _ (.there _ (.there _ (.here _))))))))))))
              replace hs := hs.take (A := diskA 78 83 5 3 p (chS s ops[i]).2) (by first | exact .here _ | exact .there _ (.here _) | exact .there _ (.there _ (.here _)) | exact .there _ (.there _ (.there _ (.here _))) | exact .there _ (.there _ (.there _ (.there _ (.here _)))) | exact .there _ (.there _ (.there _ (.there _ (.there _ (.here _))))) | exact .there _ (.there _ (.there _ (.there _ (.there _ (.there _ (.here _)))))) | exact .there _ (.there _ (.there _ (.there _ (.there _ (.there _ (.there _ (.here _))))))) | exact .there _ (.there _ (.there _ (.there _ (.there _ (.there _ (.there _ (.there _ (.here _)))))))) | exact .there _ (.there _ (.there _ (.there _ (.there _ (.there _ (.there _ (.there _ (.there _ (.here _))))))))) | exact .there _ (.there _ (.there _ (.there _ (.there _ (.there _ (.there _ (.there _ (.there _ (.there _ (.here _)))))))))) | exact .there _ (.there _ (.there _ (.there _ (.there _ (.there _ (.there _ (.there _ (.there _ (.there _ (.there _ (.here _))))))))))))
              replace hs := hs.take (A := datA 5 ps) (by first | exact .here _ | exact .there _ (.here _) | exact .there _ (.there _ (.here _)) | exact .there _ (.there _ (.there _ (.here _))) | exact .there _ (.there _ (.there _ (.there _ (.here _)))) | exact .there _ (.there _ (.there _ (.there _ (.there _ (.here _))))) | exact .there _ (.there _ (.there _ (.there _ (.there _ (.there _ (.here _)))))) | exact .there _ (.there _ (.there _ (.there _ (.there _ (.there _ (.there _ (.here _))))))) | exact .there _ (.there _ (.there _ (.there _ (.there _ (.there _ (.there _ (.there _ (.here _)))))))) | exact .there _ (.there _ (.there _ (.there _ (.there _ (.there _ (.there _ (.there _ (.there _ (.here _))))))))) | exact .there _ (.there _ (.there _ (.there _ (.there _ (.there _ (.there _ (.there _ (.there _ (.there _ (.here _)))))))))) | exact .there _ (.there _ (.there _ (.there _ (.there _ (.there _ (.there _ (.there _ (.there _ (.there _ (.there _ (.here _))))))))))))
              replace hs := hs.take (A := sl 22 1 v ps.length (ps.flatMap mF)) (by first | exact .here _ | exact .there _ (.here _) | exact .there _ (.there _ (.here _)) | exact .there _ (.there _ (.there _ (.here _))) | exact .there _ (.there _ (.there _ (.there _ (.here _)))) | exact .there _ (.there _ (.there _ (.there _ (.there _ (.here _))))) | exact .there _ (.there _ (.there _ (.there _ (.there _ (.there _ (.here _)))))) | exact .there _ (.there _ (.there _ (.there _ (.there _ (.there _ (.there _ (.here _))))))) | exact .there _ (.there _ (.there _ (.there _ (.there _ (.there _ (.there _ (.there _ (.here _)))))))) | exact .there _ (.there _ (.there _ (.there _ (.there _ (.there _ (.there _ (.there _ (.there _ (.here _))))))))) | exact .there _ (.there _ (.there _ (.there _ (.there _ (.there _ (.there _ (.there _ (.there _ (.there _ (.here _)))))))))) | exact .there _ (.there _ (.there _ (.there _ (.there _ (.there _ (.there _ (.there _ (.there _ (.there _ (.there _ (.here _))))))))))))
              have hs9 := only4 hs
              have hq9 : ps = (if ops[i].1 = 4 then [] else ps) := by rw [if_neg hi5]
              have hq8 := hpl
              refine wp_skip ?_
              refine then_n ?_
              exact ⟨_, ⟨_, _, rfl, hq9, hq8, hs9⟩, hf.sub ⟨rfl, rfl, rfl, rfl, rfl, rfl, rfl, rfl, rfl, rfl, rfl, rfl, rfl, rfl, rfl, rfl, rfl, rfl, rfl, rfl, rfl, rfl, rfl, rfl, rfl, rfl, rfl, rfl, rfl, rfl, rfl, rfl, rfl, rfl, trivial⟩⟩
          · clear hf hs a
            rintro M a w ⟨v9, ps9, rfl, hps9, hpl9, hs⟩ hf
            refine wp_seq ?_
            refine wp_region_lit ?_
            refine s_m hf rfl ?_; clear hf a; intro a hf
            replace hs := hs.take (A := diskA 78 83 5 3 p (chS s ops[i]).2) (by first | exact .here _ | exact .there _ (.here _) | exact .there _ (.there _ (.here _)) | exact .there _ (.there _ (.there _ (.here _))) | exact .there _ (.there _ (.there _ (.there _ (.here _)))) | exact .there _ (.there _ (.there _ (.there _ (.there _ (.here _))))) | exact .there _ (.there _ (.there _ (.there _ (.there _ (.there _ (.here _)))))) | exact .there _ (.there _ (.there _ (.there _ (.there _ (.there _ (.there _ (.here _))))))) | exact .there _ (.there _ (.there _ (.there _ (.there _ (.there _ (.there _ (.there _ (.here _)))))))) | exact .there _ (.there _ (.there _ (.there _ (.there _ (.there _ (.there _ (.there _ (.there _ (.here _))))))))) | exact .there _ (.there _ (.there _ (.there _ (.there _ (.there _ (.there _ (.there _ (.there _ (.there _ (.here _)))))))))) | exact .there _ (.there _ (.there _ (.there _ (.there _ (.there _ (.there _ (.there _ (.there _ (.there _ (.there _ (.here _))))))))))))
            refine s_do hf rfl (y_call (hf.eval rfl) (hf.evals rfl) Try.call19 ((dImage_spec _ _ _ p _ hs (by have h7 := (chS_ok ho ops[i]).now; have h8 := (chS_ok ho ops[i]).room1; omega)).mono ?_))
            rintro e w1 ⟨e5, fe5, rfl, hs⟩
            refine ⟨_, rfl, ?_⟩; clear hf a; intro a hf
            refine s_a hf rfl ?_; clear hf a; intro a hf
            refine s_nil ?_
            refine then_n ?_
            refine wp_region_lit ?_
            refine s_m hf rfl ?_; clear hf a; intro a hf
            refine s_m hf rfl ?_; clear hf a; intro a hf
            refine s_do hf rfl (y_lit (xs := [.tmp 63]) hs sl57 (hf.evals rfl) rfl (by simp [Value.cells]) (by decide) ?_); clear hf hs a; intro b2 w hs a hf
            refine s_do hf rfl (y_append (n := ps9.length) (m := 1) (ys := [.slice e5 (chS s ops[i]).2.now.length fe5]) hs sl57 (hf.eval rfl) (hf.eval rfl) (by first | exact .here _ | exact .there _ (.here _) | exact .there _ (.there _ (.here _)) | exact .there _ (.there _ (.there _ (.here _))) | exact .there _ (.there _ (.there _ (.there _ (.here _)))) | exact .there _ (.there _ (.there _ (.there _ (.there _ (.here _))))) | exact .there _ (.there _ (.there _ (.there _ (.there _ (.there _ (.here _))))))) (hs.rd (.here _) fun h hb => rd_rows hb rfl) (by simp [Value.oneCell']) (by omega) (by rw [maxLen_eq]; omega) ?_); clear hf hs a; intro v2 w hs hv a hf
            replace hs := (datA_push (p := ((0, .slice e5 (chS s ops[i]).2.now.length fe5, (chS s ops[i]).2.now) : Pt)) ((hs.take (A := slB 5 (.slice e5 (chS s ops[i]).2.now.length fe5) (chS s ops[i]).2.now) (by first | exact .here _ | exact .there _ (.here _) | exact .there _ (.there _ (.here _)) | exact .there _ (.there _ (.there _ (.here _))) | exact .there _ (.there _ (.there _ (.there _ (.here _)))) | exact .there _ (.there _ (.there _ (.there _ (.there _ (.here _))))) | exact .there _ (.there _ (.there _ (.there _ (.there _ (.there _ (.here _)))))) | exact .there _ (.there _ (.there _ (.there _ (.there _ (.there _ (.there _ (.here _))))))))).take (A := datA 5 ps9) (by first | exact .here _ | exact .there _ (.here _) | exact .there _ (.there _ (.here _)) | exact .there _ (.there _ (.there _ (.here _))) | exact .there _ (.there _ (.there _ (.there _ (.here _)))) | exact .there _ (.there _ (.there _ (.there _ (.there _ (.here _))))) | exact .there _ (.there _ (.there _ (.there _ (.there _ (.there _ (.here _)))))) | exact .there _ (.there _ (.there _ (.there _ (.there _ (.there _ (.there _ (.here _))))))))))
            rw [show ps9.length + 1 = (ps9 ++ [((0, .slice e5 (chS s ops[i]).2.now.length fe5, (chS s ops[i]).2.now) : Pt)]).length by simp, show ps9.flatMap mF ++ [.slice e5 (chS s ops[i]).2.now.length fe5] = (ps9 ++ [((0, .slice e5 (chS s ops[i]).2.now.length fe5, (chS s ops[i]).2.now) : Pt)]).flatMap mF by simp [mF]] at hs
            replace hs := hs.take (A := cb cx 40 [.int .i64 csz, .slice ac secs.length cc, .int .i64 rest]) (by first | exact .here _ | exact .there _ (.here _) | exact .there _ (.there _ (.here _)) | exact .there _ (.there _ (.there _ (.here _))) | exact .there _ (.there _ (.there _ (.there _ (.here _)))) | exact .there _ (.there _ (.there _ (.there _ (.there _ (.here _))))) | exact .there _ (.there _ (.there _ (.there _ (.there _ (.there _ (.here _)))))) | exact .there _ (.there _ (.there _ (.there _ (.there _ (.there _ (.there _ (.here _))))))) | exact .there _ (.there _ (.there _ (.there _ (.there _ (.there _ (.there _ (.there _ (.here _)))))))) | exact .there _ (.there _ (.there _ (.there _ (.there _ (.there _ (.there _ (.there _ (.there _ (.here _))))))))) | exact .there _ (.there _ (.there _ (.there _ (.there _ (.there _ (.there _ (.there _ (.there _ (.there _ (.here _)))))))))) | exact .there _ (.there _ (.there _ (.there _ (.there _ (.there _ (.there _ (.there _ (.there _ (.there _ (.there _ (.here _))))))))))))
            replace hs := hs.take (A := diskA 78 83 5 3 p (chS s ops[i]).2) (by first | exact .here _ | exact .there _ (.here _) | exact .there _ (.there _ (.here _)) | exact .there _ (.there _ (.there _ (.here _))) | exact .there _ (.there _ (.there _ (.there _ (.here _)))) | exact .there _ (.there _ (.there _ (.there _ (.there _ (.here _))))) | exact .there _ (.there _ (.there _ (.there _ (.there _ (.there _ (.here _)))))) | exact .there _ (.there _ (.there _ (.there _ (.there _ (.there _ (.there _ (.here _))))))) | exact .there _ (.there _ (.there _ (.there _ (.there _ (.there _ (.there _ (.there _ (.here _)))))))) | exact .there _ (.there _ (.there _ (.there _ (.there _ (.there _ (.there _ (.there _ (.there _ (.here _))))))))) | exact .there _ (.there _ (.there _ (.there _ (.there _ (.there _ (.there _ (.there _ (.there _ (.there _ (.here _)))))))))) | exact .there _ (.there _ (.there _ (.there _ (.there _ (.there _ (.there _ (.there _ (.there _ (.there _ (.there _ (.here _))))))))))))
            replace hs := hs.take (A := datA 5 (ps9 ++ [((0, .slice e5 (chS s ops[i]).2.now.length fe5, (chS s ops[i]).2.now) : Pt)])) (by first | exact .here _ | exact .there _ (.here _) | exact .there _ (.there _ (.here _)) | exact .there _ (.there _ (.there _ (.here _))) | exact .there _ (.there _ (.there _ (.there _ (.here _)))) | exact .there _ (.there _ (.there _ (.there _ (.there _ (.here _))))) | exact .there _ (.there _ (.there _ (.there _ (.there _ (.there _ (.here _)))))) | exact .there _ (.there _ (.there _ (.there _ (.there _ (.there _ (.there _ (.here _))))))) | exact .there _ (.there _ (.there _ (.there _ (.there _ (.there _ (.there _ (.there _ (.here _)))))))) | exact .there _ (.there _ (.there _ (.there _ (.there _ (.there _ (.there _ (.there _ (.there _ (.here _))))))))) | exact .there _ (.there _ (.there _ (.there _ (.there _ (.there _ (.there _ (.there _ (.there _ (.there _ (.here _)))))))))) | exact .there _ (.there _ (.there _ (.there _ (.there _ (.there _ (.there _ (.there _ (.there _ (.there _ (.there _ (.here _))))))))))))
            replace hs := hs.take (A := sl 22 1 v2 (ps9 ++ [((0, .slice e5 (chS s ops[i]).2.now.length fe5, (chS s ops[i]).2.now) : Pt)]).length ((ps9 ++ [((0, .slice e5 (chS s ops[i]).2.now.length fe5, (chS s ops[i]).2.now) : Pt)]).flatMap mF)) (by first | exact .here _ | exact .there _ (.here _) | exact .there _ (.there _ (.here _)) | exact .there _ (.there _ (.there _ (.here _))) | exact .there _ (.there _ (.there _ (.there _ (.here _)))) | exact .there _ (.there _ (.there _ (.there _ (.there _ (.here _))))) | exact .there _ (.there _ (.there _ (.there _ (.there _ (.there _ (.here _)))))) | exact .there _ (.there _ (.there _ (.there _ (.there _ (.there _ (.there _ (.here _))))))) | exact .there _ (.there _ (.there _ (.there _ (.there _ (.there _ (.there _ (.there _ (.here _)))))))) | exact .there _ (.there _ (.there _ (.there _ (.there _ (.there _ (.there _ (.there _ (.there _ (.here _))))))))) | exact .there _ (.there _ (.there _ (.there _ (.there _ (.there _ (.there _ (.there _ (.there _ (.there _ (.here _)))))))))) | exact .there _ (.there _ (.there _ (.there _ (.there _ (.there _ (.there _ (.there _ (.there _ (.there _ (.there _ (.here _))))))))))))
            have hs9 := only4 hs
            have ho9 := chS_ok ho ops[i]
            have hb9 := chS_b ho hb ops[i]
            have hf9 := hcf.1
            have hr9 := hcf.2.1.trans hrm
            have hT9 : Torn (chS s ops[i]).2 ((ps9 ++ [((0, .slice e5 (chS s ops[i]).2.now.length fe5, (chS s ops[i]).2.now) : Pt)]).map (·.2.2)) := by rw [List.map_append, hps9]; split at hTs <;> rename_i h4 <;> simp only [h4, if_true, if_false] <;> exact hTs
            have hp9 : (ps9 ++ [((0, .slice e5 (chS s ops[i]).2.now.length fe5, (chS s ops[i]).2.now) : Pt)]).length ≤ i + 1 + 1 := by simp; omega
            refine s_a hf rfl ?_; clear hf a; intro a hf
            refine s_nil ?_
            refine blk_n ?_
            refine then_n ?_
            refine wp_region_lit ?_
            refine s_m hf rfl ?_; clear hf a; intro a hf
            refine s_v hf (x_bin (hf.eval rfl) (hf.eval rfl) (r_addi _ (by omega) (by omega))) ?_; clear hf a; intro a hf
            refine s_a hf rfl ?_; clear hf a; intro a hf
            refine s_nil ?_
            exact ⟨_, _, ⟨i + 1, _, _, _, rfl, rfl, by omega, ho9, hb9, hf9, hr9, hT9, hp9, hs9⟩, by omega, hf.sub ⟨rfl, rfl, rfl, rfl, rfl, rfl, trivial⟩⟩
      · clear hf
        have hf := hf'
        clear hf'
        simp only [decide_eq_true_eq, decide_eq_false_iff_not] at hg11_3
        refine m_pass hf rfl rfl ?_; clear hf a; intro a hf
        refine m_pass hf rfl rfl ?_; clear hf a; intro a hf
        refine m_pass hf rfl rfl ?_; clear hf a; intro a hf
        refine m_pass hf rfl rfl ?_; clear hf a; intro a hf
        refine m_pass hf rfl rfl ?_; clear hf a; intro a hf
        refine m_held hf rfl (fun w' _ => x_pick_f (hf.eval rfl) (hf.eval rfl) w') ?_; clear hf a; intro a hf
        refine m_nil ?_
        refine then_n ?_
        refine c_cond_f hf rfl rfl ?_
        have hTs := torn_step hT hfr ops[i] (by first | (intro h; exact hg11_3 h.1) | (intro h; have := h.2; omega))
        refine wp_skip ?_
        refine then_n ?_
        refine wp_seq ?_
        refine wp_region_lit ?_
        refine s_m hf rfl ?_; clear hf a; intro a hf
        replace hs := hs.take (A := cb b7 42 (opF ops[i])) (by first | exact .here _ | exact .there _ (.here _) | exact .there _ (.there _ (.here _)) | exact .there _ (.there _ (.there _ (.here _))) | exact .there _ (.there _ (.there _ (.there _ (.here _)))) | exact .there _ (.there _ (.there _ (.there _ (.there _ (.here _))))) | exact .there _ (.there _ (.there _ (.there _ (.there _ (.there _ (.here _)))))) | exact .there _ (.there _ (.there _ (.there _ (.there _ (.there _ (.there _ (.here _))))))) | exact .there _ (.there _ (.there _ (.there _ (.there _ (.there _ (.there _ (.there _ (.here _)))))))) | exact .there _ (.there _ (.there _ (.there _ (.there _ (.there _ (.there _ (.there _ (.there _ (.here _))))))))) | exact .there _ (.there _ (.there _ (.there _ (.there _ (.there _ (.there _ (.there _ (.there _ (.there _ (.here _)))))))))) | exact .there _ (.there _ (.there _ (.there _ (.there _ (.there _ (.there _ (.there _ (.there _ (.there _ (.there _ (.here _))))))))))))
        refine s_r hf (x_loadBlk hs ag42 (hf.eval rfl) rfl (.here _)) ?_; clear hf a; intro a hf
        replace hs := hs.take (A := diskA 78 83 5 3 p s) (by first | exact .here _ | exact .there _ (.here _) | exact .there _ (.there _ (.here _)) | exact .there _ (.there _ (.there _ (.here _))) | exact .there _ (.there _ (.there _ (.there _ (.here _)))) | exact .there _ (.there _ (.there _ (.there _ (.there _ (.here _))))) | exact .there _ (.there _ (.there _ (.there _ (.there _ (.there _ (.here _)))))) | exact .there _ (.there _ (.there _ (.there _ (.there _ (.there _ (.there _ (.here _))))))) | exact .there _ (.there _ (.there _ (.there _ (.there _ (.there _ (.there _ (.there _ (.here _)))))))) | exact .there _ (.there _ (.there _ (.there _ (.there _ (.there _ (.there _ (.there _ (.there _ (.here _))))))))) | exact .there _ (.there _ (.there _ (.there _ (.there _ (.there _ (.there _ (.there _ (.there _ (.there _ (.here _)))))))))) | exact .there _ (.there _ (.there _ (.there _ (.there _ (.there _ (.there _ (.there _ (.there _ (.there _ (.there _ (.here _))))))))))))
        refine s_do hf rfl (y_call (hf.eval rfl) (hf.evals rfl) Try.call41 ((change_spec _ _ _ p s hs ops[i] (Rdy.old hg.data) hg.len ho (hb.up (by omega))).mono ?_))
        rintro e w1 ⟨rfl, hs⟩
        refine ⟨_, rfl, ?_⟩; clear hf a; intro a hf
        refine s_a hf rfl ?_; clear hf a; intro a hf
        refine s_nil ?_
        refine then_n ?_
        refine wp_seq ?_
        refine wp_seq ?_
        refine wp_region_lit ?_
        refine s_m hf rfl ?_; clear hf a; intro a hf
        replace hs := hs.take (A := cb b7 42 (opF ops[i])) (by first | exact .here _ | exact .there _ (.here _) | exact .there _ (.there _ (.here _)) | exact .there _ (.there _ (.there _ (.here _))) | exact .there _ (.there _ (.there _ (.there _ (.here _)))) | exact .there _ (.there _ (.there _ (.there _ (.there _ (.here _))))) | exact .there _ (.there _ (.there _ (.there _ (.there _ (.there _ (.here _)))))) | exact .there _ (.there _ (.there _ (.there _ (.there _ (.there _ (.there _ (.here _))))))) | exact .there _ (.there _ (.there _ (.there _ (.there _ (.there _ (.there _ (.there _ (.here _)))))))) | exact .there _ (.there _ (.there _ (.there _ (.there _ (.there _ (.there _ (.there _ (.there _ (.here _))))))))) | exact .there _ (.there _ (.there _ (.there _ (.there _ (.there _ (.there _ (.there _ (.there _ (.there _ (.here _)))))))))) | exact .there _ (.there _ (.there _ (.there _ (.there _ (.there _ (.there _ (.there _ (.there _ (.there _ (.there _ (.here _))))))))))))
        refine s_r hf (x_loadBlk hs ag42 (hf.eval rfl) rfl (.here _)) ?_; clear hf a; intro a hf
        refine s_m hf rfl ?_; clear hf a; intro a hf
        refine s_do hf rfl (y_call (hf.eval rfl) (hf.evals rfl) Try.call30 ((refused_spec _ ops[i] cap hc1 hc2 hg.len hg.b1.2).mono ?_))
        rintro e w1 ⟨rfl, hk⟩
        replace hs := hs.ext hk
        refine ⟨_, rfl, ?_⟩; clear hf a; intro a hf
        refine s_v hf (x_bin (hf.eval rfl) (hf.eval rfl) (r_ne _ _ _ _)) ?_; clear hf a; intro a hf
        refine s_nil ?_
        refine then_n ?_
        refine c_cond_f hf rfl (by rw [hcf.2.2, hrm]; simp) ?_
        refine wp_skip ?_
        refine then_n ?_
        refine c_join (N := 83) (L0 := [(1, _), (2, _), (7, _), (9, _), (11, _), (12, _), (13, _), (29, _), (30, _), (31, _), (32, _), (35, _), (36, _), (37, _), (38, _), (39, _), (40, _), (41, _), (42, _), (43, _), (44, _), (45, _), (46, _), (47, _), (48, _), (49, _), (50, _), (51, _), (52, _), (53, _), (54, _), (55, _), (56, _)]) (fun M w => ∃ (v9 : Value) (ps9 : List Pt), M = [(10, v9)] ∧ ps9 = (if ops[i].1 = 4 then [] else ps) ∧ ps9.length ≤ i + 1 ∧ St ⟨w0, None_⟩ w [sl 22 1 v9 ps9.length (ps9.flatMap mF), datA 5 ps9, diskA 78 83 5 3 p (chS s ops[i]).2, cb cx 40 [.int .i64 csz, .slice ac secs.length cc, .int .i64 rest]]) (hf.sub ⟨rfl, rfl, rfl, rfl, rfl, rfl, rfl, rfl, rfl, rfl, rfl, rfl, rfl, rfl, rfl, rfl, rfl, rfl, rfl, rfl, rfl, rfl, rfl, rfl, rfl, rfl, rfl, rfl, rfl, rfl, rfl, rfl, rfl, trivial⟩) ?_ ?_
        · refine wp_seq ?_
          refine wp_region_lit ?_
          replace hs := hs.take (A := cb b7 42 (opF ops[i])) (by first | exact .here _ | exact .there _ (.here _) | exact .there _ (.there _ (.here _)) | exact .there _ (.there _ (.there _ (.here _))) | exact .there _ (.there _ (.there _ (.there _ (.here _)))) | exact .there _ (.there _ (.there _ (.there _ (.there _ (.here _))))) | exact .there _ (.there _ (.there _ (.there _ (.there _ (.there _ (.here _)))))) | exact .there _ (.there _ (.there _ (.there _ (.there _ (.there _ (.there _ (.here _))))))) | exact .there _ (.there _ (.there _ (.there _ (.there _ (.there _ (.there _ (.there _ (.here _)))))))) | exact .there _ (.there _ (.there _ (.there _ (.there _ (.there _ (.there _ (.there _ (.there _ (.here _))))))))) | exact .there _ (.there _ (.there _ (.there _ (.there _ (.there _ (.there _ (.there _ (.there _ (.there _ (.here _)))))))))) | exact .there _ (.there _ (.there _ (.there _ (.there _ (.there _ (.there _ (.there _ (.there _ (.there _ (.there _ (.here _))))))))))))
          refine s_v hf (x_fieldAddr fo42_0 (hf.eval rfl)) ?_; clear hf a; intro a hf
          refine s_r hf (x_load sc3 (hf.eval rfl) (by first | exact hs.cell (.here _) rfl | exact hs.cell (.there _ (.here _)) rfl | exact hs.cell (.there _ (.there _ (.here _))) rfl | exact hs.cell (.there _ (.there _ (.there _ (.here _)))) rfl | exact hs.cell (.there _ (.there _ (.there _ (.there _ (.here _))))) rfl | exact hs.cell (.there _ (.there _ (.there _ (.there _ (.there _ (.here _)))))) rfl)) ?_; clear hf a; intro a hf
          refine s_v hf (x_bin (hf.eval rfl) (hf.eval rfl) (r_eq _ _ _ _)) ?_; clear hf a; intro a hf
          refine s_nil ?_
          refine then_n ?_
          refine c_cond hf rfl (fun hi5 => ?_) (fun hi5 => ?_)
          · simp only [decide_eq_true_eq, decide_eq_false_iff_not, Bool.not_eq_true', Bool.not_eq_false', Bool.not_eq_true, Int.not_lt, Int.not_le] at hi5
            replace hs := hs.take (A := cb cx 40 [.int .i64 csz, .slice ac secs.length cc, .int .i64 rest]) (by first | exact .here _ | exact .there _ (.here _) | exact .there _ (.there _ (.here _)) | exact .there _ (.there _ (.there _ (.here _))) | exact .there _ (.there _ (.there _ (.there _ (.here _)))) | exact .there _ (.there _ (.there _ (.there _ (.there _ (.here _))))) | exact .there _ (.there _ (.there _ (.there _ (.there _ (.there _ (.here _)))))) | exact .there _ (.there _ (.there _ (.there _ (.there _ (.there _ (.there _ (.here _))))))) | exact .there _ (.there _ (.there _ (.there _ (.there _ (.there _ (.there _ (.there _ (.here _)))))))) | exact .there _ (.there _ (.there _ (.there _ (.there _ (.there _ (.there _ (.there _ (.there _ (.here _))))))))) | exact .there _ (.there _ (.there _ (.there _ (.there _ (.there _ (.there _ (.there _ (.there _ (.there _ (.here _)))))))))) | exact .there _ (.there _ (.there _ (.there _ (.there _ (.there _ (.there _ (.there _ (.there _ (.there _ (.there _ (.here _))))))))))))
            replace hs := hs.take (A := diskA 78 83 5 3 p (chS s ops[i]).2) (by first | exact .here _ | exact .there _ (.here _) | exact .there _ (.there _ (.here _)) | exact .there _ (.there _ (.there _ (.here _))) | exact .there _ (.there _ (.there _ (.there _ (.here _)))) | exact .there _ (.there _ (.there _ (.there _ (.there _ (.here _))))) | exact .there _ (.there _ (.there _ (.there _ (.there _ (.there _ (.here _)))))) | exact .there _ (.there _ (.there _ (.there _ (.there _ (.there _ (.there _ (.here _))))))) | exact .there _ (.there _ (.there _ (.there _ (.there _ (.there _ (.there _ (.there _ (.here _)))))))) | exact .there _ (.there _ (.there _ (.there _ (.there _ (.there _ (.there _ (.there _ (.there _ (.here _))))))))) | exact .there _ (.there _ (.there _ (.there _ (.there _ (.there _ (.there _ (.there _ (.there _ (.there _ (.here _)))))))))) | exact .there _ (.there _ (.there _ (.there _ (.there _ (.there _ (.there _ (.there _ (.there _ (.there _ (.there _ (.here _))))))))))))
            have hs9 := only4 ((hs.emp (A := datA 5 []) (fun _ => trivial)).emp (A := sl 22 1 (.slice none 0 0) ([] : List Pt).length (([] : List Pt).flatMap mF)) (fun _ => ⟨rfl, .inl ⟨rfl, rfl⟩⟩))
            have hq9 : ([] : List Pt) = (if ops[i].1 = 4 then [] else ps) := by rw [if_pos hi5]
            have hq8 : ([] : List Pt).length ≤ i + 1 := Nat.zero_le _
            refine wp_region_lit ?_
            refine s_a hf rfl ?_; clear hf a; intro a hf
            refine s_nil ?_
            refine then_n ?_
            exact ⟨_, ⟨_, _, rfl, hq9, hq8, hs9⟩, hf.sub ⟨rfl, rfl, rfl, rfl, rfl, rfl, rfl, rfl, rfl, rfl, rfl, rfl, rfl, rfl, rfl, rfl, rfl, rfl, rfl, rfl, rfl, rfl, rfl, rfl, rfl, rfl, rfl, rfl, rfl, rfl, rfl, rfl, rfl, rfl, trivial⟩⟩
          · simp only [decide_eq_true_eq, decide_eq_false_iff_not, Bool.not_eq_true', Bool.not_eq_false', Bool.not_eq_true, Int.not_lt, Int.not_le] at hi5
            replace hs := hs.take (A := cb cx 40 [.int .i64 csz, .slice ac secs.length cc, .int .i64 rest]) (by first | exact .here _ | exact .there _ (.here _) | exact .there _ (.there _ (.here _)) | exact .there _ (.there _ (.there _ (.here _))) | exact .there _ (.there _ (.there _ (.there _ (.here _)))) | exact .there _ (.there _ (.there _ (.there _ (.there _ (.here _))))) | exact .there _ (.there _ (.there _ (.there _ (.there _ (.there _ (.here _)))))) | exact .there _ (.there _ (.there _ (.there _ (.there _ (.there _ (.there _ (.here _))))))) | exact .there _ (.there _ (.there _ (.there _ (.there _ (.there _ (.there _ (.there _ (.here _)))))))) | exact .there _ (.there _ (.there _ (.there _ (.there _ (.there _ (.there _ (.there _ (.there _ (.here _))))))))) | exact .there _ (.there _ (.there _ (.there _ (.there _ (.there _ (.there _ (.there _ (.there _ (.there _ (.here _)))))))))) | exact .there _ (.there _ (.there _ (.there _ (.there _ (.there _ (.there _ (.there _ (.there _ (.there _ (.there _ (.here _))))))))))))
            replace hs := hs.take (A := diskA 78 83 5 3 p (chS s ops[i]).2) (by first | exact .here _ | exact .there _ (.here _) | exact .there _ (.there _ (.here _)) | exact .there _ (.there _ (.there _ (.here _))) | exact .there _ (.there _ (.there _ (.there _ (.here _)))) | exact .there _ (.there _ (.there _ (.there _ (.there _ (.here _))))) | exact .there _ (.there _ (.there _ (.there _ (.there _ (.there _ (.here _)))))) | exact .there _ (.there _ (.there _ (.there _ (.there _ (.there _ (.there _ (.here _))))))) | exact .there _ (.there _ (.there _ (.there _ (.there _ (.there _ (.there _ (.there _ (.here _)))))))) | exact .there _ (.there _ (.there _ (.there _ (.there _ (.there _ (.there _ (.there _ (.there _ (.here _))))))))) | exact .there _ (.there _ (.there _ (.there _ (.there _ (.there _ (.there _ (.there _ (.there _ (.there _ (.here _)))))))))) | exact .there _ (.there _ (.there _ (.there _ (.there _ (.there _ (.there _ (.there _ (.there _ (.there _ (.there _ (.here _))))))))))))
            replace hs := hs.take (A := datA 5 ps) (by first | exact .here _ | exact .there _ (.here _) | exact .there _ (.there _ (.here _)) | exact .there _ (.there _ (.there _ (.here _))) | exact .there _ (.there _ (.there _ (.there _ (.here _)))) | exact .there _ (.there _ (.there _ (.there _ (.there _ (.here _))))) | exact .there _ (.there _ (.there _ (.there _ (.there _ (.there _ (.here _)))))) | exact .there _ (.there _ (.there _ (.there _ (.there _ (.there _ (.there _ (.here _))))))) | exact .there _ (.there _ (.there _ (.there _ (.there _ (.there _ (.there _ (.there _ (.here _)))))))) | exact .there _ (.there _ (.there _ (.there _ (.there _ (.there _ (.there _ (.there _ (.there _ (.here _))))))))) | exact .there _ (.there _ (.there _ (.there _ (.there _ (.there _ (.there _ (.there _ (.there _ (.there _ (.here _)))))))))) | exact .there _ (.there _ (.there _ (.there _ (.there _ (.there _ (.there _ (.there _ (.there _ (.there _ (.there _ (.here _))))))))))))
            replace hs := hs.take (A := sl 22 1 v ps.length (ps.flatMap mF)) (by first | exact .here _ | exact .there _ (.here _) | exact .there _ (.there _ (.here _)) | exact .there _ (.there _ (.there _ (.here _))) | exact .there _ (.there _ (.there _ (.there _ (.here _)))) | exact .there _ (.there _ (.there _ (.there _ (.there _ (.here _))))) | exact .there _ (.there _ (.there _ (.there _ (.there _ (.there _ (.here _)))))) | exact .there _ (.there _ (.there _ (.there _ (.there _ (.there _ (.there _ (.here _))))))) | exact .there _ (.there _ (.there _ (.there _ (.there _ (.there _ (.there _ (.there _ (.here _)))))))) | exact .there _ (.there _ (.there _ (.there _ (.there _ (.there _ (.there _ (.there _ (.there _ (.here _))))))))) | exact .there _ (.there _ (.there _ (.there _ (.there _ (.there _ (.there _ (.there _ (.there _ (.there _ (.here _)))))))))) | exact .there _ (.there _ (.there _ (.there _ (.there _ (.there _ (.there _ (.there _ (.there _ (.there _ (.there _ (.here _))))))))))))
            have hs9 := only4 hs
            have hq9 : ps = (if ops[i].1 = 4 then [] else ps) := by rw [if_neg hi5]
            have hq8 := hpl
            refine wp_skip ?_
            refine then_n ?_
            exact ⟨_, ⟨_, _, rfl, hq9, hq8, hs9⟩, hf.sub ⟨rfl, rfl, rfl, rfl, rfl, rfl, rfl, rfl, rfl, rfl, rfl, rfl, rfl, rfl, rfl, rfl, rfl, rfl, rfl, rfl, rfl, rfl, rfl, rfl, rfl, rfl, rfl, rfl, rfl, rfl, rfl, rfl, rfl, rfl, trivial⟩⟩
        · clear hf hs a
          rintro M a w ⟨v9, ps9, rfl, hps9, hpl9, hs⟩ hf
          refine wp_seq ?_
          refine wp_region_lit ?_
          refine s_m hf rfl ?_; clear hf a; intro a hf
          replace hs := hs.take (A := diskA 78 83 5 3 p (chS s ops[i]).2) (by first | exact .here _ | exact .there _ (.here _) | exact .there _ (.there _ (.here _)) | exact .there _ (.there _ (.there _ (.here _))) | exact .there _ (.there _ (.there _ (.there _ (.here _)))) | exact .there _ (.there _ (.there _ (.there _ (.there _ (.here _))))) | exact .there _ (.there _ (.there _ (.there _ (.there _ (.there _ (.here _)))))) | exact .there _ (.there _ (.there _ (.there _ (.there _ (.there _ (.there _ (.here _))))))) | exact .there _ (.there _ (.there _ (.there _ (.there _ (.there _ (.there _ (.there _ (.here _)))))))) | exact .there _ (.there _ (.there _ (.there _ (.there _ (.there _ (.there _ (.there _ (.there _ (.here _))))))))) | exact .there _ (.there _ (.there _ (.there _ (.there _ (.there _ (.there _ (.there _ (.there _ (.there _ (.here _)))))))))) | exact .there _ (.there _ (.there _ (.there _ (.there _ (.there _ (.there _ (.there _ (.there _ (.there _ (.there _ (.here _))))))))))))
          refine s_do hf rfl (y_call (hf.eval rfl) (hf.evals rfl) Try.call19 ((dImage_spec _ _ _ p _ hs (by have h7 := (chS_ok ho ops[i]).now; have h8 := (chS_ok ho ops[i]).room1; omega)).mono ?_))
          rintro e w1 ⟨e5, fe5, rfl, hs⟩
          refine ⟨_, rfl, ?_⟩; clear hf a; intro a hf
          refine s_a hf rfl ?_; clear hf a; intro a hf
          refine s_nil ?_
          refine then_n ?_
          refine wp_region_lit ?_
          refine s_m hf rfl ?_; clear hf a; intro a hf
          refine s_m hf rfl ?_; clear hf a; intro a hf
          refine s_do hf rfl (y_lit (xs := [.tmp 63]) hs sl57 (hf.evals rfl) rfl (by simp [Value.cells]) (by decide) ?_); clear hf hs a; intro b2 w hs a hf
          refine s_do hf rfl (y_append (n := ps9.length) (m := 1) (ys := [.slice e5 (chS s ops[i]).2.now.length fe5]) hs sl57 (hf.eval rfl) (hf.eval rfl) (by first | exact .here _ | exact .there _ (.here _) | exact .there _ (.there _ (.here _)) | exact .there _ (.there _ (.there _ (.here _))) | exact .there _ (.there _ (.there _ (.there _ (.here _)))) | exact .there _ (.there _ (.there _ (.there _ (.there _ (.here _))))) | exact .there _ (.there _ (.there _ (.there _ (.there _ (.there _ (.here _))))))) (hs.rd (.here _) fun h hb => rd_rows hb rfl) (by simp [Value.oneCell']) (by omega) (by rw [maxLen_eq]; omega) ?_); clear hf hs a; intro v2 w hs hv a hf
          replace hs := (datA_push (p := ((0, .slice e5 (chS s ops[i]).2.now.length fe5, (chS s ops[i]).2.now) : Pt)) ((hs.take (A := slB 5 (.slice e5 (chS s ops[i]).2.now.length fe5) (chS s ops[i]).2.now) (by first | exact .here _ | exact .there _ (.here _) | exact .there _ (.there _ (.here _)) | exact .there _ (.there _ (.there _ (.here _))) | exact .there _ (.there _ (.there _ (.there _ (.here _)))) | exact .there _ (.there _ (.there _ (.there _ (.there _ (.here _))))) | exact .there _ (.there _ (.there _ (.there _ (.there _ (.there _ (.here _)))))) | exact .there _ (.there _ (.there _ (.there _ (.there _ (.there _ (.there _ (.here _))))))))).take (A := datA 5 ps9) (by first | exact .here _ | exact .there _ (.here _) | exact .there _ (.there _ (.here _)) | exact .there _ (.there _ (.there _ (.here _))) | exact .there _ (.there _ (.there _ (.there _ (.here _)))) | exact .there _ (.there _ (.there _ (.there _ (.there _ (.here _))))) | exact .there _ (.there _ (.there _ (.there _ (.there _ (.there _ (.here _)))))) | exact .there _ (.there _ (.there _ (.there _ (.there _ (.there _ (.there _ (.here _))))))))))
          rw [show ps9.length + 1 = (ps9 ++ [((0, .slice e5 (chS s ops[i]).2.now.length fe5, (chS s ops[i]).2.now) : Pt)]).length by simp, show ps9.flatMap mF ++ [.slice e5 (chS s ops[i]).2.now.length fe5] = (ps9 ++ [((0, .slice e5 (chS s ops[i]).2.now.length fe5, (chS s ops[i]).2.now) : Pt)]).flatMap mF by simp [mF]] at hs
          replace hs := hs.take (A := cb cx 40 [.int .i64 csz, .slice ac secs.length cc, .int .i64 rest]) (by first | exact .here _ | exact .there _ (.here _) | exact .there _ (.there _ (.here _)) | exact .there _ (.there _ (.there _ (.here _))) | exact .there _ (.there _ (.there _ (.there _ (.here _)))) | exact .there _ (.there _ (.there _ (.there _ (.there _ (.here _))))) | exact .there _ (.there _ (.there _ (.there _ (.there _ (.there _ (.here _)))))) | exact .there _ (.there _ (.there _ (.there _ (.there _ (.there _ (.there _ (.here _))))))) | exact .there _ (.there _ (.there _ (.there _ (.there _ (.there _ (.there _ (.there _ (.here _)))))))) | exact .there _ (.there _ (.there _ (.there _ (.there _ (.there _ (.there _ (.there _ (.there _ (.here _))))))))) | exact .there _ (.there _ (.there _ (.there _ (.there _ (.there _ (.there _ (.there _ (.there _ (.there _ (.here _)))))))))) | exact .there _ (.there _ (.there _ (.there _ (.there _ (.there _ (.there _ (.there _ (.there _ (.there _ (.there _ (.here _))))))))))))
          replace hs := hs.take (A := diskA 78 83 5 3 p (chS s ops[i]).2) (by first | exact .here _ | exact .there _ (.here _) | exact .there _ (.there _ (.here _)) | exact .there _ (.there _ (.there _ (.here _))) | exact .there _ (.there _ (.there _ (.there _ (.here _)))) | exact .there _ (.there _ (.there _ (.there _ (.there _ (.here _))))) | exact .there _ (.there _ (.there _ (.there _ (.there _ (.there _ (.here _)))))) | exact .there _ (.there _ (.there _ (.there _ (.there _ (.there _ (.there _ (.here _))))))) | exact .there _ (.there _ (.there _ (.there _ (.there _ (.there _ (.there _ (.there _ (.here _)))))))) | exact .there _ (.there _ (.there _ (.there _ (.there _ (.there _ (.there _ (.there _ (.there _ (.here _))))))))) | exact .there _ (.there _ (.there _ (.there _ (.there _ (.there _ (.there _ (.there _ (.there _ (.there _ (.here _)))))))))) | exact .there _ (.there _ (.there _ (.there _ (.there _ (.there _ (.there _ (.there _ (.there _ (.there _ (.there _ (.here _))))))))))))
          replace hs := hs.take (A := datA 5 (ps9 ++ [((0, .slice e5 (chS s ops[i]).2.now.length fe5, (chS s ops[i]).2.now) : Pt)])) (by first | exact .here _ | exact .there _ (.here _) | exact .there _ (.there _ (.here _)) | exact .there _ (.there _ (.there _ (.here _))) | exact .there _ (.there _ (.there _ (.there _ (.here _)))) | exact .there _ (.there _ (.there _ (.there _ (.there _ (.here _))))) | exact .there _ (.there _ (.there _ (.there _ (.there _ (.there _ (.here _)))))) | exact .there _ (.there _ (.there _ (.there _ (.there _ (.there _ (.there _ (.here _))))))) | exact .there _ (.there _ (.there _ (.there _ (.there _ (.there _ (.there _ (.there _ (.here _)))))))) | exact .there _ (.there _ (.there _ (.there _ (.there _ (.there _ (.there _ (.there _ (.there _ (.here _))))))))) | exact .there _ (.there _ (.there _ (.there _ (.there _ (.there _ (.there _ (.there _ (.there _ (.there _ (.here _)))))))))) | exact .there _ (.there _ (.there _ (.there _ (.there _ (.there _ (.there _ (.there _ (.there _ (.there _ (.there _ (.here _))))))))))))
          replace hs := hs.take (A := sl 22 1 v2 (ps9 ++ [((0, .slice e5 (chS s ops[i]).2.now.length fe5, (chS s ops[i]).2.now) : Pt)]).length ((ps9 ++ [((0, .slice e5 (chS s ops[i]).2.now.length fe5, (chS s ops[i]).2.now) : Pt)]).flatMap mF)) (by first | exact .here _ | exact .there _ (.here _) | exact .there _ (.there _ (.here _)) | exact .there _ (.there _ (.there _ (.here _))) | exact .there _ (.there _ (.there _ (.there _ (.here _)))) | exact .there _ (.there _ (.there _ (.there _ (.there _ (.here _))))) | exact .there _ (.there _ (.there _ (.there _ (.there _ (.there _ (.here _)))))) | exact .there _ (.there _ (.there _ (.there _ (.there _ (.there _ (.there _ (.here _))))))) | exact .there _ (.there _ (.there _ (.there _ (.there _ (.there _ (.there _ (.there _ (.here _)))))))) | exact .there _ (.there _ (.there _ (.there _ (.there _ (.there _ (.there _ (.there _ (.there _ (.here _))))))))) | exact .there _ (.there _ (.there _ (.there _ (.there _ (.there _ (.there _ (.there _ (.there _ (.there _ (.here _)))))))))) | exact .there _ (.there _ (.there _ (.there _ (.there _ (.there _ (.there _ (.there _ (.there _ (.there _ (.there _ (.here _))))))))))))
          have hs9 := only4 hs
          have ho9 := chS_ok ho ops[i]
          have hb9 := chS_b ho hb ops[i]
          have hf9 := hcf.1
          have hr9 := hcf.2.1.trans hrm
          have hT9 : Torn (chS s ops[i]).2 ((ps9 ++ [((0, .slice e5 (chS s ops[i]).2.now.length fe5, (chS s ops[i]).2.now) : Pt)]).map (·.2.2)) := by rw [List.map_append, hps9]; split at hTs <;> rename_i h4 <;> simp only [h4, if_true, if_false] <;> exact hTs
          have hp9 : (ps9 ++ [((0, .slice e5 (chS s ops[i]).2.now.length fe5, (chS s ops[i]).2.now) : Pt)]).length ≤ i + 1 + 1 := by simp; omega
          refine s_a hf rfl ?_; clear hf a; intro a hf
          refine s_nil ?_
          refine blk_n ?_
          refine then_n ?_
          refine wp_region_lit ?_
          refine s_m hf rfl ?_; clear hf a; intro a hf
          refine s_v hf (x_bin (hf.eval rfl) (hf.eval rfl) (r_addi _ (by omega) (by omega))) ?_; clear hf a; intro a hf
          refine s_a hf rfl ?_; clear hf a; intro a hf
          refine s_nil ?_
          exact ⟨_, _, ⟨i + 1, _, _, _, rfl, rfl, by omega, ho9, hb9, hf9, hr9, hT9, hp9, hs9⟩, by omega, hf.sub ⟨rfl, rfl, rfl, rfl, rfl, rfl, trivial⟩⟩
    · simp only [decide_eq_true_eq, decide_eq_false_iff_not, Bool.not_eq_true', Bool.not_eq_false', Bool.not_eq_true, Int.not_lt, Int.not_le] at hi2
      have hn1 := ho.now
      have hn2 := ho.room1
      have hL1 := outS_length s (csz, secs, rest)
      have hM1 := outN_le ho (csz, secs, rest)
      obtain ⟨hto1, hto2⟩ := torn_out hT (csz, secs, rest)
      obtain ⟨am, cm, rfl⟩ := sl_shape hs
      refine wp_exit ?_
      refine then_x ?_
      refine then_x ?_
      refine blk_x ?_
      refine then_n ?_
      refine wp_seq ?_
      refine wp_region_lit ?_
      refine s_m hf rfl ?_; clear hf a; intro a hf
      replace hs := hs.take (A := cb cx 40 [.int .i64 csz, .slice ac secs.length cc, .int .i64 rest]) (by first | exact .here _ | exact .there _ (.here _) | exact .there _ (.there _ (.here _)) | exact .there _ (.there _ (.there _ (.here _))) | exact .there _ (.there _ (.there _ (.there _ (.here _)))) | exact .there _ (.there _ (.there _ (.there _ (.there _ (.here _))))) | exact .there _ (.there _ (.there _ (.there _ (.there _ (.there _ (.here _)))))) | exact .there _ (.there _ (.there _ (.there _ (.there _ (.there _ (.there _ (.here _))))))) | exact .there _ (.there _ (.there _ (.there _ (.there _ (.there _ (.there _ (.there _ (.here _)))))))) | exact .there _ (.there _ (.there _ (.there _ (.there _ (.there _ (.there _ (.there _ (.there _ (.here _))))))))) | exact .there _ (.there _ (.there _ (.there _ (.there _ (.there _ (.there _ (.there _ (.there _ (.there _ (.here _)))))))))) | exact .there _ (.there _ (.there _ (.there _ (.there _ (.there _ (.there _ (.there _ (.there _ (.there _ (.there _ (.here _))))))))))))
      refine s_r hf (x_loadBlk hs ag40 (hf.eval rfl) rfl (.here _)) ?_; clear hf a; intro a hf
      refine s_do hf rfl (y_call (hf.eval rfl) (hf.evals rfl) Try.call34 ((choice_spec _ csz ac cc secs rest (hs.old hrc) hlc).mono ?_))
      rintro e w1 ⟨e3, fe3, rfl, hj⟩
      replace hs := hs.join hj
      simp only [List.cons_append, List.nil_append] at hs
      refine ⟨_, rfl, ?_⟩; clear hf a; intro a hf
      replace hs := hs.take (A := sl 3 1 (.slice e3 secs.length fe3) secs.length (secs.flatMap iF)) (by first | exact .here _ | exact .there _ (.here _) | exact .there _ (.there _ (.here _)) | exact .there _ (.there _ (.there _ (.here _))) | exact .there _ (.there _ (.there _ (.there _ (.here _)))) | exact .there _ (.there _ (.there _ (.there _ (.there _ (.here _))))) | exact .there _ (.there _ (.there _ (.there _ (.there _ (.there _ (.here _)))))) | exact .there _ (.there _ (.there _ (.there _ (.there _ (.there _ (.there _ (.here _))))))) | exact .there _ (.there _ (.there _ (.there _ (.there _ (.there _ (.there _ (.there _ (.here _)))))))) | exact .there _ (.there _ (.there _ (.there _ (.there _ (.there _ (.there _ (.there _ (.there _ (.here _))))))))) | exact .there _ (.there _ (.there _ (.there _ (.there _ (.there _ (.there _ (.there _ (.there _ (.there _ (.here _)))))))))) | exact .there _ (.there _ (.there _ (.there _ (.there _ (.there _ (.there _ (.there _ (.there _ (.there _ (.there _ (.here _))))))))))))
      replace hs := hs.take (A := diskA 78 83 5 3 p s) (by first | exact .here _ | exact .there _ (.here _) | exact .there _ (.there _ (.here _)) | exact .there _ (.there _ (.there _ (.here _))) | exact .there _ (.there _ (.there _ (.there _ (.here _)))) | exact .there _ (.there _ (.there _ (.there _ (.there _ (.here _))))) | exact .there _ (.there _ (.there _ (.there _ (.there _ (.there _ (.here _)))))) | exact .there _ (.there _ (.there _ (.there _ (.there _ (.there _ (.there _ (.here _))))))) | exact .there _ (.there _ (.there _ (.there _ (.there _ (.there _ (.there _ (.there _ (.here _)))))))) | exact .there _ (.there _ (.there _ (.there _ (.there _ (.there _ (.there _ (.there _ (.there _ (.here _))))))))) | exact .there _ (.there _ (.there _ (.there _ (.there _ (.there _ (.there _ (.there _ (.there _ (.there _ (.here _)))))))))) | exact .there _ (.there _ (.there _ (.there _ (.there _ (.there _ (.there _ (.there _ (.there _ (.there _ (.there _ (.here _))))))))))))
      refine s_do hf rfl (y_call (hf.eval rfl) (hf.evals rfl) Try.call33 ((dCrash_spec _ _ _ p s hs csz e3 fe3 secs rest ho (RdyS.own (.here _)) (by have := hb.sizes; omega) (by have := hb.pcs; omega)).mono ?_))
      rintro e w1 ⟨p2, rfl, hs⟩
      refine ⟨_, rfl, ?_⟩; clear hf a; intro a hf
      refine s_m hf rfl ?_; clear hf a; intro a hf
      refine s_v hf (x_extract (hf.eval rfl) rfl) ?_; clear hf a; intro a hf
      refine s_v hf (x_extract (hf.eval rfl) rfl) ?_; clear hf a; intro a hf
      refine s_a hf rfl ?_; clear hf a; intro a hf
      refine s_a hf rfl ?_; clear hf a; intro a hf
      refine s_nil ?_
      refine then_n ?_
      refine wp_seq ?_
      refine wp_seq ?_
      refine wp_region_lit ?_
      refine s_m hf rfl ?_; clear hf a; intro a hf
      refine s_v hf (x_bin (hf.eval rfl) (hf.eval rfl) (r_ne _ _ _ _)) ?_; clear hf a; intro a hf
      refine s_m hf rfl ?_; clear hf a; intro a hf
      replace hf := hf.now (k := 75) (v' := .bool false) rfl (congrArg Value.bool rfl)
      refine s_do hf (wanted_of hf rfl rfl rfl) (.value (x_move (hf.eval rfl) _) ?_); clear hf a; intro a hf
      refine s_do hf (wanted_of hf rfl rfl rfl) (.value (x_eqNil Try.underlying23 (hf.eval rfl) (hf.eval rfl) _) ?_); clear hf a; intro a hf
      refine s_v hf (x_pick_f (hf.eval rfl) (hf.eval rfl)) ?_; clear hf a; intro a hf
      refine s_nil ?_
      refine then_n ?_
      refine c_cond_f hf rfl (by first | rfl | simp) ?_
      refine wp_skip ?_
      refine then_n ?_
      refine wp_seq ?_
      refine wp_region_lit ?_
      refine s_m hf rfl ?_; clear hf a; intro a hf
      replace hs := hs.take (A := diskA 78 83 5 3 p2 (newS (outS s (csz, secs, rest)) s.room)) (by first | exact .here _ | exact .there _ (.here _) | exact .there _ (.there _ (.here _)) | exact .there _ (.there _ (.there _ (.here _))) | exact .there _ (.there _ (.there _ (.there _ (.here _)))) | exact .there _ (.there _ (.there _ (.there _ (.there _ (.here _))))) | exact .there _ (.there _ (.there _ (.there _ (.there _ (.there _ (.here _)))))) | exact .there _ (.there _ (.there _ (.there _ (.there _ (.there _ (.there _ (.here _))))))) | exact .there _ (.there _ (.there _ (.there _ (.there _ (.there _ (.there _ (.there _ (.here _)))))))) | exact .there _ (.there _ (.there _ (.there _ (.there _ (.there _ (.there _ (.there _ (.there _ (.here _))))))))) | exact .there _ (.there _ (.there _ (.there _ (.there _ (.there _ (.there _ (.there _ (.there _ (.there _ (.here _)))))))))) | exact .there _ (.there _ (.there _ (.there _ (.there _ (.there _ (.there _ (.there _ (.there _ (.there _ (.there _ (.here _))))))))))))
      refine s_do hf rfl (y_call (hf.eval rfl) (hf.evals rfl) Try.call19 ((dImage_spec _ _ _ p2 _ hs (by show (outS s (csz, secs, rest)).length ≤ _; omega)).mono ?_))
      rintro e w1 ⟨e6, fe6, rfl, hs⟩
      replace hs : St _ _ (slB 5 (.slice e6 (outS s (csz, secs, rest)).length fe6) (outS s (csz, secs, rest)) :: _) := hs
      refine ⟨_, rfl, ?_⟩; clear hf a; intro a hf
      refine s_m hf rfl ?_; clear hf a; intro a hf
      replace hs := hs.take (A := datA 5 ps) (by first | exact .here _ | exact .there _ (.here _) | exact .there _ (.there _ (.here _)) | exact .there _ (.there _ (.there _ (.here _))) | exact .there _ (.there _ (.there _ (.there _ (.here _)))) | exact .there _ (.there _ (.there _ (.there _ (.there _ (.here _))))) | exact .there _ (.there _ (.there _ (.there _ (.there _ (.there _ (.here _)))))) | exact .there _ (.there _ (.there _ (.there _ (.there _ (.there _ (.there _ (.here _))))))) | exact .there _ (.there _ (.there _ (.there _ (.there _ (.there _ (.there _ (.there _ (.here _)))))))) | exact .there _ (.there _ (.there _ (.there _ (.there _ (.there _ (.there _ (.there _ (.there _ (.here _))))))))) | exact .there _ (.there _ (.there _ (.there _ (.there _ (.there _ (.there _ (.there _ (.there _ (.there _ (.here _)))))))))) | exact .there _ (.there _ (.there _ (.there _ (.there _ (.there _ (.there _ (.there _ (.there _ (.there _ (.there _ (.here _))))))))))))
      replace hs := hs.take (A := sl 22 1 (.slice am ps.length cm) ps.length (ps.flatMap mF)) (by first | exact .here _ | exact .there _ (.here _) | exact .there _ (.there _ (.here _)) | exact .there _ (.there _ (.there _ (.here _))) | exact .there _ (.there _ (.there _ (.there _ (.here _)))) | exact .there _ (.there _ (.there _ (.there _ (.there _ (.here _))))) | exact .there _ (.there _ (.there _ (.there _ (.there _ (.there _ (.here _)))))) | exact .there _ (.there _ (.there _ (.there _ (.there _ (.there _ (.there _ (.here _))))))) | exact .there _ (.there _ (.there _ (.there _ (.there _ (.there _ (.there _ (.there _ (.here _)))))))) | exact .there _ (.there _ (.there _ (.there _ (.there _ (.there _ (.there _ (.there _ (.there _ (.here _))))))))) | exact .there _ (.there _ (.there _ (.there _ (.there _ (.there _ (.there _ (.there _ (.there _ (.there _ (.here _)))))))))) | exact .there _ (.there _ (.there _ (.there _ (.there _ (.there _ (.there _ (.there _ (.there _ (.there _ (.there _ (.here _))))))))))))
      refine s_do hf rfl (y_call (hf.eval rfl) (hf.evals rfl) Try.call43 ((sectors_spec _ _ _ _ _ (outS s (csz, secs, rest)) (Rdy.own (.here _)) am cm ps hs (by omega) (by omega) (torn_sz hto1) (fun k => torn_sec hto2 k)).mono ?_))
      rintro e w1 ⟨rfl, hs⟩
      refine ⟨_, rfl, ?_⟩; clear hf a; intro a hf
      refine s_a hf rfl ?_; clear hf a; intro a hf
      refine s_nil ?_
      refine then_n ?_
      refine wp_ret ?_
      refine r_1 hf Try.results10 rfl ?_
      exact ⟨by simp, hs.kept⟩

end Go.Proofs.Ytjfnpbeehjhmbaa
