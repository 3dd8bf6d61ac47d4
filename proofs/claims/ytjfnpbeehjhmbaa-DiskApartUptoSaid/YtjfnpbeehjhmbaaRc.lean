/- The disk of the document: Crash. -/
import Derived.Test.YtjfnpbeehjhmbaaVP
import Derived.Test.YtjfnpbeehjhmbaaRw
import Derived.Test.YtjfnpbeehjhmbaaProg
import Derived.Test.YtjfnpbeehjhmbaaFacts
set_option maxRecDepth 100000
set_option linter.all false
namespace Go.Proofs.Ytjfnpbeehjhmbaa
open Go Vw
theorem kept_spec (w0 : World) (csz : Int) (ac : Option Addr) (cc : Nat) (secs : List Int) (rest : Int) (sec : Nat) (hrc : RdS iF 1 (hp w0) (.slice ac secs.length cc) secs) : Calls Try.prog 71 #[.agg #[.int .i64 csz, .slice ac secs.length cc, .int .i64 rest], .int .i64 (sec : Int)] w0 fun e w' => e = .returned (.int .i64 (keepOf (csz, secs, rest) sec)) ∧ Kept w0 w' None_ := by
  have hs := St.start w0 None_
  refine c_enter (N := 17) Try.func71 rfl Try.ntmps71 (by simp) ?_
  intro a hf
  refine wp_seq ?_
  refine wp_region_lit ?_
  refine s_do hf rfl (y_box hs (hf.eval rfl) ?_); clear hf hs a; intro cb0 w hs a hf
  replace hs : St ⟨w0, None_⟩ w [cb cb0 40 [.int .i64 csz, .slice ac secs.length cc, .int .i64 rest]] := hs
  refine s_a hf rfl ?_; clear hf a; intro a hf
  refine s_nil ?_
  refine then_n ?_
  refine wp_seq ?_
  refine wp_seq ?_
  refine wp_region_lit ?_
  refine s_m hf rfl ?_; clear hf a; intro a hf
  refine s_v hf (x_fieldAddr fo40_1 (hf.eval rfl)) ?_; clear hf a; intro a hf
  refine s_r hf (x_load sc38 (hf.eval rfl) (by first | exact hs.cell (.here _) rfl | exact hs.cell (.there _ (.here _)) rfl | exact hs.cell (.there _ (.there _ (.here _))) rfl | exact hs.cell (.there _ (.there _ (.there _ (.here _)))) rfl | exact hs.cell (.there _ (.there _ (.there _ (.there _ (.here _))))) rfl | exact hs.cell (.there _ (.there _ (.there _ (.there _ (.there _ (.here _)))))) rfl)) ?_; clear hf a; intro a hf
  refine s_v hf (x_len Try.underlying38 (hf.eval rfl)) ?_; clear hf a; intro a hf
  refine s_v hf (x_bin (hf.eval rfl) (hf.eval rfl) (r_lt _ _ _ _)) ?_; clear hf a; intro a hf
  refine s_nil ?_
  refine then_n ?_
  refine c_cond hf rfl (fun hi0 => ?_) (fun hi0 => ?_)
  · simp only [decide_eq_true_eq, decide_eq_false_iff_not, Bool.not_eq_true', Bool.not_eq_false', Bool.not_eq_true, Int.not_lt, Int.not_le] at hi0
    have hsl : sec < secs.length := by omega
    obtain ⟨ac, rfl⟩ := hrc.some (by omega)
    refine wp_seq ?_
    refine wp_region_lit ?_
    refine s_v hf (x_fieldAddr fo40_1 (hf.eval rfl)) ?_; clear hf a; intro a hf
    refine s_r hf (x_load sc38 (hf.eval rfl) (by first | exact hs.cell (.here _) rfl | exact hs.cell (.there _ (.here _)) rfl | exact hs.cell (.there _ (.there _ (.here _))) rfl | exact hs.cell (.there _ (.there _ (.there _ (.here _)))) rfl | exact hs.cell (.there _ (.there _ (.there _ (.there _ (.here _))))) rfl | exact hs.cell (.there _ (.there _ (.there _ (.there _ (.there _ (.here _)))))) rfl)) ?_; clear hf a; intro a hf
    refine s_m hf rfl ?_; clear hf a; intro a hf
    refine s_v hf (x_indexAddr sl38 (hf.eval rfl) (hf.eval rfl) (by omega) (by omega)) ?_; clear hf a; intro a hf
    refine s_r hf (x_loadI (i := (sec : Int)) sc3 (hs.old hrc) rfl (hf.eval rfl) (by simpa using hsl)) ?_; clear hf a; intro a hf
    refine s_a hf rfl ?_; clear hf a; intro a hf
    refine s_nil ?_
    refine then_n ?_
    refine wp_ret ?_
    refine then_r ?_
    refine r_1 hf Try.results71 rfl ?_
    exact ⟨by rw [keepOf_in (c := (csz, secs, rest)) hsl]; rfl, hs.kept⟩
  · simp only [decide_eq_true_eq, decide_eq_false_iff_not, Bool.not_eq_true', Bool.not_eq_false', Bool.not_eq_true, Int.not_lt, Int.not_le] at hi0
    refine wp_skip ?_
    refine then_n ?_
    refine wp_seq ?_
    refine wp_region_lit ?_
    refine s_v hf (x_fieldAddr fo40_2 (hf.eval rfl)) ?_; clear hf a; intro a hf
    refine s_r hf (x_load sc3 (hf.eval rfl) (by first | exact hs.cell (.here _) rfl | exact hs.cell (.there _ (.here _)) rfl | exact hs.cell (.there _ (.there _ (.here _))) rfl | exact hs.cell (.there _ (.there _ (.there _ (.here _)))) rfl | exact hs.cell (.there _ (.there _ (.there _ (.there _ (.here _))))) rfl | exact hs.cell (.there _ (.there _ (.there _ (.there _ (.there _ (.here _)))))) rfl)) ?_; clear hf a; intro a hf
    refine s_a hf rfl ?_; clear hf a; intro a hf
    refine s_nil ?_
    refine then_n ?_
    refine wp_ret ?_
    refine r_1 hf Try.results71 rfl ?_
    exact ⟨by rw [keepOf_out (c := (csz, secs, rest)) (by simp only; omega)], hs.kept⟩

theorem outcome_spec (σ : Sig) (w : World) (R : List Asrt) (p : Nat) (s : DS) (hs : St σ w (refA 90 94 5 3 p s :: R)) (csz : Int) (ac : Option Addr) (cc : Nat) (secs : List Int) (rest : Int) (ho : DOk s) (hrc : RdyS iF 1 σ R (.slice ac secs.length cc) secs) (hsz : s.sizes.length ≤ 1099511600000) (hpc : s.pcs.length ≤ 1099511600000) : Calls Try.prog 62 #[.pointer (some ⟨p, 0, none⟩), .agg #[.int .i64 csz, .slice ac secs.length cc, .int .i64 rest]] w fun e w' => ∃ a c, e = .returned (.slice a (outS s (csz, secs, rest)).length c) ∧ St σ w' (slB 5 (.slice a (outS s (csz, secs, rest)).length c) (outS s (csz, secs, rest)) :: refA 90 94 5 3 p s :: R) := by
  have hroom0 := ho.room0
  have hroom1 := ho.room1
  obtain ⟨⟨v1, v2, v3, v4, ps⟩, hps, hs⟩ := refA_open hs
  dsimp only at hps hs
  obtain ⟨a1, c1, rfl, hc1⟩ := slB_shape (hs.take (.there _ (.here _)))
  obtain ⟨a2, c2, rfl, hc2⟩ := slB_shape (hs.take (.there _ (.there _ (.here _))))
  obtain ⟨a3, c3, rfl⟩ := sl_shape (hs.take (.there _ (.there _ (.there _ (.here _)))))
  obtain ⟨a4, c4, rfl⟩ := sl_shape (hs.take (.there _ (.there _ (.there _ (.there _ (.there _ (.here _)))))))
  refine c_enter (N := 146) Try.func62 rfl Try.ntmps62 (by simp) ?_
  intro a hf
  refine wp_seq ?_
  refine wp_region_lit ?_
  refine s_do hf rfl (y_box hs (hf.eval rfl) ?_); clear hf hs a; intro cb0 w hs a hf
  replace hs : St σ w (cb cb0 40 [.int .i64 csz, .slice ac secs.length cc, .int .i64 rest] :: rcell 90 p s ⟨.slice a1 s.now.length c1, .slice a2 s.dur.length c2, .slice a3 ps.length c3, .slice a4 s.sizes.length c4, ps⟩ :: _) := hs
  refine s_a hf rfl ?_; clear hf a; intro a hf
  refine s_nil ?_
  refine then_n ?_
  refine wp_seq ?_
  refine wp_region_lit ?_
  refine s_m hf rfl ?_; clear hf a; intro a hf
  refine s_v hf (x_nilCheck (hf.eval rfl)) ?_; clear hf a; intro a hf
  refine s_v hf (x_fieldAddr fo90_2 (hf.eval rfl)) ?_; clear hf a; intro a hf
  refine s_r hf (x_load sc22 (hf.eval rfl) (by first | exact hs.cell (.here _) rfl | exact hs.cell (.there _ (.here _)) rfl | exact hs.cell (.there _ (.there _ (.here _))) rfl | exact hs.cell (.there _ (.there _ (.there _ (.here _)))) rfl | exact hs.cell (.there _ (.there _ (.there _ (.there _ (.here _))))) rfl | exact hs.cell (.there _ (.there _ (.there _ (.there _ (.there _ (.here _)))))) rfl)) ?_; clear hf a; intro a hf
  refine s_v hf (x_len Try.underlying22 (hf.eval rfl)) ?_; clear hf a; intro a hf
  refine s_a hf rfl ?_; clear hf a; intro a hf
  refine s_nil ?_
  refine then_n ?_
  refine wp_seq ?_
  refine wp_region_lit ?_
  refine s_v hf (x_fieldAddr fo40_0 (hf.eval rfl)) ?_; clear hf a; intro a hf
  refine s_r hf (x_load sc3 (hf.eval rfl) (by first | exact hs.cell (.here _) rfl | exact hs.cell (.there _ (.here _)) rfl | exact hs.cell (.there _ (.there _ (.here _))) rfl | exact hs.cell (.there _ (.there _ (.there _ (.here _)))) rfl | exact hs.cell (.there _ (.there _ (.there _ (.there _ (.here _))))) rfl | exact hs.cell (.there _ (.there _ (.there _ (.there _ (.there _ (.here _)))))) rfl)) ?_; clear hf a; intro a hf
  refine s_a hf rfl ?_; clear hf a; intro a hf
  refine s_nil ?_
  refine then_n ?_
  refine c_join (N := 146) (L0 := [(0, _), (3, _), (4, _), (5, _)]) (fun M w => M = [(6, .int .i64 (szIx s (csz, secs, rest)))] ∧ St σ w (cb cb0 40 [.int .i64 csz, .slice ac secs.length cc, .int .i64 rest] :: rcell 90 p s ⟨.slice a1 s.now.length c1, .slice a2 s.dur.length c2, .slice a3 ps.length c3, .slice a4 s.sizes.length c4, ps⟩ :: slB 5 (.slice a1 s.now.length c1) s.now :: slB 5 (.slice a2 s.dur.length c2) s.dur :: sl 94 3 (.slice a3 ps.length c3) ps.length (ps.flatMap rpF) :: datA 5 ps :: sl 3 1 (.slice a4 s.sizes.length c4) s.sizes.length (szC s.sizes) :: R)) (hf.sub ⟨rfl, rfl, rfl, rfl, trivial⟩) ?_ ?_
  · refine wp_seq ?_
    refine wp_region_lit ?_
    refine s_m hf rfl ?_; clear hf a; intro a hf
    refine s_m hf rfl ?_; clear hf a; intro a hf
    refine s_v hf (x_nilCheck (hf.eval rfl)) ?_; clear hf a; intro a hf
    refine s_v hf (x_fieldAddr fo90_4 (hf.eval rfl)) ?_; clear hf a; intro a hf
    refine s_r hf (x_load sc38 (hf.eval rfl) (by first | exact hs.cell (.here _) rfl | exact hs.cell (.there _ (.here _)) rfl | exact hs.cell (.there _ (.there _ (.here _))) rfl | exact hs.cell (.there _ (.there _ (.there _ (.here _)))) rfl | exact hs.cell (.there _ (.there _ (.there _ (.there _ (.here _))))) rfl | exact hs.cell (.there _ (.there _ (.there _ (.there _ (.there _ (.here _)))))) rfl)) ?_; clear hf a; intro a hf
    refine s_v hf (x_len Try.underlying38 (hf.eval rfl)) ?_; clear hf a; intro a hf
    refine s_v hf (x_bin (hf.eval rfl) (hf.eval rfl) (r_gt _ _ _ _)) ?_; clear hf a; intro a hf
    refine s_nil ?_
    refine then_n ?_
    refine c_cond hf rfl (fun hi0 => ?_) (fun hi0 => ?_)
    · simp only [decide_eq_true_eq, decide_eq_false_iff_not, Bool.not_eq_true', Bool.not_eq_false', Bool.not_eq_true, Int.not_lt, Int.not_le] at hi0
      refine wp_region_lit ?_
      refine s_m hf rfl ?_; clear hf a; intro a hf
      refine s_v hf (x_nilCheck (hf.eval rfl)) ?_; clear hf a; intro a hf
      refine s_v hf (x_fieldAddr fo90_4 (hf.eval rfl)) ?_; clear hf a; intro a hf
      refine s_r hf (x_load sc38 (hf.eval rfl) (by first | exact hs.cell (.here _) rfl | exact hs.cell (.there _ (.here _)) rfl | exact hs.cell (.there _ (.there _ (.here _))) rfl | exact hs.cell (.there _ (.there _ (.there _ (.here _)))) rfl | exact hs.cell (.there _ (.there _ (.there _ (.there _ (.here _))))) rfl | exact hs.cell (.there _ (.there _ (.there _ (.there _ (.there _ (.here _)))))) rfl)) ?_; clear hf a; intro a hf
      refine s_v hf (x_len Try.underlying38 (hf.eval rfl)) ?_; clear hf a; intro a hf
      refine s_a hf rfl ?_; clear hf a; intro a hf
      replace hf := hf.now (k := 6) (v' := .int .i64 (szIx s (csz, secs, rest))) rfl (by unfold szIx; congr 1; simp only; omega)
      refine s_nil ?_
      refine then_n ?_
      exact ⟨_, ⟨rfl, hs⟩, hf.sub ⟨rfl, rfl, rfl, rfl, rfl, trivial⟩⟩
    · simp only [decide_eq_true_eq, decide_eq_false_iff_not, Bool.not_eq_true', Bool.not_eq_false', Bool.not_eq_true, Int.not_lt, Int.not_le] at hi0
      replace hf := hf.now (k := 6) (v' := .int .i64 (szIx s (csz, secs, rest))) rfl (by unfold szIx; congr 1; simp only; omega)
      refine wp_skip ?_
      refine then_n ?_
      exact ⟨_, ⟨rfl, hs⟩, hf.sub ⟨rfl, rfl, rfl, rfl, rfl, trivial⟩⟩
  · clear hf hs a
    rintro M a w ⟨rfl, hs⟩ hf
    refine c_join (N := 146) (L0 := [(0, _), (3, _), (4, _)]) (fun M w => M = [(5, .int .i64 (outN s (csz, secs, rest) : Int))] ∧ St σ w (cb cb0 40 [.int .i64 csz, .slice ac secs.length cc, .int .i64 rest] :: rcell 90 p s ⟨.slice a1 s.now.length c1, .slice a2 s.dur.length c2, .slice a3 ps.length c3, .slice a4 s.sizes.length c4, ps⟩ :: slB 5 (.slice a1 s.now.length c1) s.now :: slB 5 (.slice a2 s.dur.length c2) s.dur :: sl 94 3 (.slice a3 ps.length c3) ps.length (ps.flatMap rpF) :: datA 5 ps :: sl 3 1 (.slice a4 s.sizes.length c4) s.sizes.length (szC s.sizes) :: R)) (hf.sub ⟨rfl, rfl, rfl, trivial⟩) ?_ ?_
    · refine wp_seq ?_
      refine wp_region_lit ?_
      refine s_m hf rfl ?_; clear hf a; intro a hf
      refine s_v hf (x_bin (hf.eval rfl) (hf.eval rfl) (r_gt _ _ _ _)) ?_; clear hf a; intro a hf
      refine s_nil ?_
      refine then_n ?_
      refine c_cond hf rfl (fun hi1 => ?_) (fun hi1 => ?_)
      · simp only [decide_eq_true_eq, decide_eq_false_iff_not, Bool.not_eq_true', Bool.not_eq_false', Bool.not_eq_true, Int.not_lt, Int.not_le] at hi1
        have hix : 0 < szIx s (csz, secs, rest) := by omega
        have hix2 : szIx s (csz, secs, rest) ≤ s.sizes.length := by unfold szIx; omega
        obtain ⟨a4, rfl⟩ := sl_some (hs.take (.there _ (.there _ (.there _ (.there _ (.there _ (.there _ (.here _)))))))) (by omega)
        refine wp_region_lit ?_
        refine s_m hf rfl ?_; clear hf a; intro a hf
        refine s_v hf (x_nilCheck (hf.eval rfl)) ?_; clear hf a; intro a hf
        refine s_v hf (x_fieldAddr fo90_4 (hf.eval rfl)) ?_; clear hf a; intro a hf
        refine s_r hf (x_load sc38 (hf.eval rfl) (by first | exact hs.cell (.here _) rfl | exact hs.cell (.there _ (.here _)) rfl | exact hs.cell (.there _ (.there _ (.here _))) rfl | exact hs.cell (.there _ (.there _ (.there _ (.here _)))) rfl | exact hs.cell (.there _ (.there _ (.there _ (.there _ (.here _))))) rfl | exact hs.cell (.there _ (.there _ (.there _ (.there _ (.there _ (.here _)))))) rfl)) ?_; clear hf a; intro a hf
        refine s_m hf rfl ?_; clear hf a; intro a hf
        refine s_v hf (x_bin (hf.eval rfl) (hf.eval rfl) (r_subi _ (by omega) (by omega))) ?_; clear hf a; intro a hf
        replace hf := hf.now (k := 41) (v' := .int .i64 (((szIx s (csz, secs, rest)).toNat - 1 : Nat) : Int)) rfl (by congr 1; omega)
        refine s_v hf (x_indexAddr sl38 (hf.eval rfl) (hf.eval rfl) (by omega) (by omega)) ?_; clear hf a; intro a hf
        refine s_r hf (x_loadC hs sc3 (.there _ (.there _ (.there _ (.there _ (.there _ (.there _ (.here _))))))) (hf.eval rfl) (szC_get (i := (szIx s (csz, secs, rest)).toNat - 1) (by omega))) ?_; clear hf a; intro a hf
        refine s_a hf rfl ?_; clear hf a; intro a hf
        replace hf := hf.now (k := 5) (v' := .int .i64 (outN s (csz, secs, rest) : Int)) rfl (by rw [outN_some hix])
        refine s_nil ?_
        refine then_n ?_
        exact ⟨_, ⟨rfl, hs⟩, hf.sub ⟨rfl, rfl, rfl, rfl, trivial⟩⟩
      · simp only [decide_eq_true_eq, decide_eq_false_iff_not, Bool.not_eq_true', Bool.not_eq_false', Bool.not_eq_true, Int.not_lt, Int.not_le] at hi1
        have hix : ¬ 0 < szIx s (csz, secs, rest) := by omega
        replace hf := hf.now (k := 5) (v' := .int .i64 (outN s (csz, secs, rest) : Int)) rfl (by rw [outN_none hix])
        refine wp_skip ?_
        refine then_n ?_
        exact ⟨_, ⟨rfl, hs⟩, hf.sub ⟨rfl, rfl, rfl, rfl, trivial⟩⟩
    · clear hf hs a
      rintro M a w ⟨rfl, hs⟩ hf
      refine wp_seq ?_
      refine wp_region_lit ?_
      refine s_m hf rfl ?_; clear hf a; intro a hf
      have hoN := outN_le ho (csz, secs, rest)
      refine s_do hf rfl (y_makeB (m := outN s (csz, secs, rest)) (c := outN s (csz, secs, rest)) hs sl22 (hf.eval rfl) (hf.eval rfl) rfl rfl (Nat.le_refl _) (by omega) ?_); clear hf hs a; intro fb w hs a hf
      refine s_a hf rfl ?_; clear hf a; intro a hf
      refine s_nil ?_
      refine then_n ?_
      refine wp_seq ?_
      refine wp_region_lit ?_
      refine s_m hf rfl ?_; clear hf a; intro a hf
      refine s_m hf rfl ?_; clear hf a; intro a hf
      refine s_v hf (x_nilCheck (hf.eval rfl)) ?_; clear hf a; intro a hf
      refine s_v hf (x_fieldAddr fo90_2 (hf.eval rfl)) ?_; clear hf a; intro a hf
      refine s_r hf (x_load sc22 (hf.eval rfl) (by first | exact hs.cell (.here _) rfl | exact hs.cell (.there _ (.here _)) rfl | exact hs.cell (.there _ (.there _ (.here _))) rfl | exact hs.cell (.there _ (.there _ (.there _ (.here _)))) rfl | exact hs.cell (.there _ (.there _ (.there _ (.there _ (.here _))))) rfl | exact hs.cell (.there _ (.there _ (.there _ (.there _ (.there _ (.here _)))))) rfl)) ?_; clear hf a; intro a hf
      refine s_do hf rfl (y_copyB (o := 0) (cur' := spl (List.replicate (outN s (csz, secs, rest)) 0) 0 (s.dur.take (min s.dur.length (outN s (csz, secs, rest))))) hs sl22 (hf.eval rfl) (hf.eval rfl) (fun _ => rfl) (hs.rdB (.there _ (.there _ (.there _ (.there _ (.here _))))) fun h => slB_rd) rfl (.here _) rfl (by simp) ?_); clear hf hs a; intro w hs a hf
      obtain ⟨out0, ho0⟩ : ∃ o, o = spl (List.replicate (outN s (csz, secs, rest)) 0) 0 (s.dur.take (min s.dur.length (outN s (csz, secs, rest)))) := ⟨_, rfl⟩
      rw [← ho0] at hs
      obtain ⟨hd1, hd2⟩ := dur_start s _ ho0
      have hpl : ps.length = s.pcs.length := by have h9 := congrArg List.length hps; rw [List.length_map] at h9; exact h9
      refine s_nil ?_
      refine then_n ?_
      refine wp_seq ?_
      refine wp_region_lit ?_
      refine s_a hf rfl ?_; clear hf a; intro a hf
      refine s_nil ?_
      refine then_n ?_
      refine wp_seq ?_
      refine wp_seq ?_
      refine wp_region_lit ?_
      refine s_a hf rfl ?_; clear hf a; intro a hf
      refine s_nil ?_
      refine then_n ?_
      refine wp_block ?_
      refine c_loop (L0 := [(0, _), (3, _), (4, _), (5, _), (7, _)]) (fun M w m => ∃ (i lst : Nat), M = [(8, .int .i64 (lst : Int)), (9, .int .i64 (i : Int))] ∧ ps.length - i = m ∧ i ≤ ps.length ∧ lst ≤ 16777216 ∧ (∀ q ∈ ps.take i, q.1 / 512 ≤ lst) ∧ St σ w (bb fb 5 (out0) :: cb cb0 40 [.int .i64 csz, .slice ac secs.length cc, .int .i64 rest] :: rcell 90 p s ⟨.slice a1 s.now.length c1, .slice a2 s.dur.length c2, .slice a3 ps.length c3, .slice a4 s.sizes.length c4, ps⟩ :: slB 5 (.slice a1 s.now.length c1) s.now :: slB 5 (.slice a2 s.dur.length c2) s.dur :: sl 94 3 (.slice a3 ps.length c3) ps.length (ps.flatMap rpF) :: datA 5 ps :: sl 3 1 (.slice a4 s.sizes.length c4) s.sizes.length (szC s.sizes) :: R)) (M0 := [(8, .int .i64 0), (9, .int .i64 0)]) (⟨0, 0, rfl, rfl, Nat.zero_le _, Nat.zero_le _, by simp, hs⟩) (hf.sub ⟨rfl, rfl, rfl, rfl, rfl, rfl, rfl, trivial⟩) ?_
      clear hf hs a
      rintro M m a w ⟨i, lst, rfl, rfl, hi, hl0, hlm, hs⟩ hf
      refine wp_seq ?_
      refine wp_seq ?_
      refine wp_region_lit ?_
      refine s_m hf rfl ?_; clear hf a; intro a hf
      refine s_m hf rfl ?_; clear hf a; intro a hf
      refine s_v hf (x_nilCheck (hf.eval rfl)) ?_; clear hf a; intro a hf
      refine s_v hf (x_fieldAddr fo90_3 (hf.eval rfl)) ?_; clear hf a; intro a hf
      refine s_r hf (x_load sc88 (hf.eval rfl) (by first | exact hs.cell (.here _) rfl | exact hs.cell (.there _ (.here _)) rfl | exact hs.cell (.there _ (.there _ (.here _))) rfl | exact hs.cell (.there _ (.there _ (.there _ (.here _)))) rfl | exact hs.cell (.there _ (.there _ (.there _ (.there _ (.here _))))) rfl | exact hs.cell (.there _ (.there _ (.there _ (.there _ (.there _ (.here _)))))) rfl)) ?_; clear hf a; intro a hf
      refine s_v hf (x_len Try.underlying88 (hf.eval rfl)) ?_; clear hf a; intro a hf
      refine s_v hf (x_bin (hf.eval rfl) (hf.eval rfl) (r_lt _ _ _ _)) ?_; clear hf a; intro a hf
      refine s_nil ?_
      refine then_n ?_
      refine c_cond hf rfl (fun hi2 => ?_) (fun hi2 => ?_)
      · simp only [decide_eq_true_eq, decide_eq_false_iff_not, Bool.not_eq_true', Bool.not_eq_false', Bool.not_eq_true, Int.not_lt, Int.not_le] at hi2
        have hlt : i < ps.length := by omega
        obtain ⟨ab, rfl⟩ := sl_blk (hs.take (.there _ (.there _ (.there _ (.there _ (.there _ (.here _))))))) (by omega)
        obtain ⟨hip, hpi⟩ := pcs_get hps hlt
        have hpo := ho.pcs _ (List.getElem_mem hip)
        rw [hpi] at hpo
        have hpo3 : ((ps[i].1 + ps[i].2.2.length : Nat) : Int) ≤ s.room := hpo.2.2
        refine wp_skip ?_
        refine then_n ?_
        refine wp_seq ?_
        refine wp_block ?_
        refine wp_seq ?_
        refine wp_region_lit ?_
        refine s_m hf rfl ?_; clear hf a; intro a hf
        refine s_v hf (x_nilCheck (hf.eval rfl)) ?_; clear hf a; intro a hf
        refine s_v hf (x_fieldAddr fo90_3 (hf.eval rfl)) ?_; clear hf a; intro a hf
        refine s_r hf (x_load sc88 (hf.eval rfl) (by first | exact hs.cell (.here _) rfl | exact hs.cell (.there _ (.here _)) rfl | exact hs.cell (.there _ (.there _ (.here _))) rfl | exact hs.cell (.there _ (.there _ (.there _ (.here _)))) rfl | exact hs.cell (.there _ (.there _ (.there _ (.there _ (.here _))))) rfl | exact hs.cell (.there _ (.there _ (.there _ (.there _ (.there _ (.here _)))))) rfl)) ?_; clear hf a; intro a hf
        refine s_m hf rfl ?_; clear hf a; intro a hf
        refine s_v hf (x_indexAddr sl88 (hf.eval rfl) (hf.eval rfl) (by omega) (by omega)) ?_; clear hf a; intro a hf
        replace hf := hf.now (k := 66) (v' := .pointer (some ⟨ab, 0 + i * 3, none⟩)) rfl (by rw [addr_add]; rfl)
        refine s_v hf (x_fieldAddr fo94_0 (hf.eval rfl)) ?_; clear hf a; intro a hf
        refine s_r hf (x_load sc3 (hf.eval rfl) (rdS_cellAt (f := rpF) (sz := 3) (fun _ => rfl) (hs.rd (.there _ (.there _ (.there _ (.there _ (.there _ (.here _)))))) fun h hh => sl_rd hh) (k := 0) hlt rfl)) ?_; clear hf a; intro a hf
        refine s_m hf rfl ?_; clear hf a; intro a hf
        refine s_v hf (x_bin (hf.eval rfl) (hf.eval rfl) (r_gt _ _ _ _)) ?_; clear hf a; intro a hf
        refine s_nil ?_
        refine then_n ?_
        refine c_cond hf rfl (fun hi3 => ?_) (fun hi3 => ?_)
        · simp only [decide_eq_true_eq, decide_eq_false_iff_not, Bool.not_eq_true', Bool.not_eq_false', Bool.not_eq_true, Int.not_lt, Int.not_le] at hi3
          refine wp_region_lit ?_
          refine s_m hf rfl ?_; clear hf a; intro a hf
          refine s_v hf (x_nilCheck (hf.eval rfl)) ?_; clear hf a; intro a hf
          refine s_v hf (x_fieldAddr fo90_3 (hf.eval rfl)) ?_; clear hf a; intro a hf
          refine s_r hf (x_load sc88 (hf.eval rfl) (by first | exact hs.cell (.here _) rfl | exact hs.cell (.there _ (.here _)) rfl | exact hs.cell (.there _ (.there _ (.here _))) rfl | exact hs.cell (.there _ (.there _ (.there _ (.here _)))) rfl | exact hs.cell (.there _ (.there _ (.there _ (.there _ (.here _))))) rfl | exact hs.cell (.there _ (.there _ (.there _ (.there _ (.there _ (.here _)))))) rfl)) ?_; clear hf a; intro a hf
          refine s_m hf rfl ?_; clear hf a; intro a hf
          refine s_v hf (x_indexAddr sl88 (hf.eval rfl) (hf.eval rfl) (by omega) (by omega)) ?_; clear hf a; intro a hf
          replace hf := hf.now (k := 76) (v' := .pointer (some ⟨ab, 0 + i * 3, none⟩)) rfl (by rw [addr_add]; rfl)
          refine s_v hf (x_fieldAddr fo94_0 (hf.eval rfl)) ?_; clear hf a; intro a hf
          refine s_r hf (x_load sc3 (hf.eval rfl) (rdS_cellAt (f := rpF) (sz := 3) (fun _ => rfl) (hs.rd (.there _ (.there _ (.there _ (.there _ (.there _ (.here _)))))) fun h hh => sl_rd hh) (k := 0) hlt rfl)) ?_; clear hf a; intro a hf
          refine s_a hf rfl ?_; clear hf a; intro a hf
          replace hf := hf.now (k := 8) (v' := .int .i64 ((max lst (ps[i].1 / 512) : Nat) : Int)) rfl (by congr 1; omega)
          refine s_nil ?_
          refine blk_n ?_
          refine then_n ?_
          refine wp_region_lit ?_
          refine s_m hf rfl ?_; clear hf a; intro a hf
          refine s_v hf (x_bin (hf.eval rfl) (hf.eval rfl) (r_addi _ (by omega) (by omega))) ?_; clear hf a; intro a hf
          refine s_a hf rfl ?_; clear hf a; intro a hf
          refine s_nil ?_
          exact ⟨_, _, ⟨i + 1, max lst (ps[i].1 / 512), rfl, rfl, by omega, by omega, mem_take_get hlt (fun q hq => by have := hlm q hq; omega) (by omega), hs⟩, by omega, hf.sub ⟨rfl, rfl, rfl, rfl, rfl, rfl, rfl, trivial⟩⟩
        · simp only [decide_eq_true_eq, decide_eq_false_iff_not, Bool.not_eq_true', Bool.not_eq_false', Bool.not_eq_true, Int.not_lt, Int.not_le] at hi3
          replace hf := hf.now (k := 8) (v' := .int .i64 ((max lst (ps[i].1 / 512) : Nat) : Int)) rfl (by congr 1; omega)
          refine wp_skip ?_
          refine blk_n ?_
          refine then_n ?_
          refine wp_region_lit ?_
          refine s_m hf rfl ?_; clear hf a; intro a hf
          refine s_v hf (x_bin (hf.eval rfl) (hf.eval rfl) (r_addi _ (by omega) (by omega))) ?_; clear hf a; intro a hf
          refine s_a hf rfl ?_; clear hf a; intro a hf
          refine s_nil ?_
          exact ⟨_, _, ⟨i + 1, max lst (ps[i].1 / 512), rfl, rfl, by omega, by omega, mem_take_get hlt (fun q hq => by have := hlm q hq; omega) (by omega), hs⟩, by omega, hf.sub ⟨rfl, rfl, rfl, rfl, rfl, rfl, rfl, trivial⟩⟩
      · simp only [decide_eq_true_eq, decide_eq_false_iff_not, Bool.not_eq_true', Bool.not_eq_false', Bool.not_eq_true, Int.not_lt, Int.not_le] at hi2
        obtain rfl : i = ps.length := by omega
        rw [List.take_length] at hlm
        refine wp_exit ?_
        refine then_x ?_
        refine then_x ?_
        refine blk_x ?_
        refine then_n ?_
        refine wp_seq ?_
        refine wp_region_lit ?_
        refine s_m hf rfl ?_; clear hf a; intro a hf
        refine s_v hf (x_bin (hf.eval rfl) (hf.eval rfl) (r_addi _ (by omega) (by omega))) ?_; clear hf a; intro a hf
        refine s_do hf rfl (y_makeSlice hs sl38 (hf.eval rfl) (hf.eval rfl) (by omega) (by omega) (by omega) (by omega) ?_); clear hf hs a; intro b4 w hs a hf
        rw [show ((lst : Int) + 1).toNat = lst + 1 by omega, cntC_0 s.pcs] at hs
        replace hf := hf.now (k := 81) (v' := .slice (some ⟨b4, 0, none⟩) (lst + 1) (lst + 1)) rfl (by rw [show ((lst : Int) + 1).toNat = lst + 1 by omega])
        refine s_a hf rfl ?_; clear hf a; intro a hf
        refine s_nil ?_
        refine then_n ?_
        refine wp_seq ?_
        refine wp_seq ?_
        refine wp_region_lit ?_
        refine s_a hf rfl ?_; clear hf a; intro a hf
        refine s_nil ?_
        refine then_n ?_
        refine wp_block ?_
        refine c_loop (L0 := [(0, _), (3, _), (4, _), (5, _), (7, _), (8, _), (9, _), (10, _), (52, _), (53, _), (54, _), (55, _), (56, _), (57, _), (58, _), (79, _), (80, _), (81, _)]) (fun M w m => ∃ (i : Nat) (out : List UInt8), M = [(11, .int .i64 (i : Int))] ∧ ps.length - i = m ∧ i ≤ ps.length ∧ Fre s (csz, secs, rest) i out ∧ St σ w (cb b4 3 (cntC s.pcs i (lst + 1)) :: bb fb 5 (out) :: cb cb0 40 [.int .i64 csz, .slice ac secs.length cc, .int .i64 rest] :: rcell 90 p s ⟨.slice a1 s.now.length c1, .slice a2 s.dur.length c2, .slice a3 ps.length c3, .slice a4 s.sizes.length c4, ps⟩ :: slB 5 (.slice a1 s.now.length c1) s.now :: slB 5 (.slice a2 s.dur.length c2) s.dur :: sl 94 3 (.slice a3 ps.length c3) ps.length (ps.flatMap rpF) :: datA 5 ps :: sl 3 1 (.slice a4 s.sizes.length c4) s.sizes.length (szC s.sizes) :: R)) (M0 := [(11, .int .i64 0)]) (⟨0, out0, rfl, rfl, Nat.zero_le _, fre_start hd1 hd2, hs⟩) (hf.sub ⟨rfl, rfl, rfl, rfl, rfl, rfl, rfl, rfl, rfl, rfl, rfl, rfl, rfl, rfl, rfl, rfl, rfl, rfl, rfl, trivial⟩) ?_
        clear hf hs a
        rintro M m a w ⟨i, out, rfl, rfl, hi, hfr, hs⟩ hf
        clear hd1 hd2
        refine wp_seq ?_
        refine wp_seq ?_
        refine wp_region_lit ?_
        refine s_m hf rfl ?_; clear hf a; intro a hf
        refine s_m hf rfl ?_; clear hf a; intro a hf
        refine s_v hf (x_nilCheck (hf.eval rfl)) ?_; clear hf a; intro a hf
        refine s_v hf (x_fieldAddr fo90_3 (hf.eval rfl)) ?_; clear hf a; intro a hf
        refine s_r hf (x_load sc88 (hf.eval rfl) (by first | exact hs.cell (.here _) rfl | exact hs.cell (.there _ (.here _)) rfl | exact hs.cell (.there _ (.there _ (.here _))) rfl | exact hs.cell (.there _ (.there _ (.there _ (.here _)))) rfl | exact hs.cell (.there _ (.there _ (.there _ (.there _ (.here _))))) rfl | exact hs.cell (.there _ (.there _ (.there _ (.there _ (.there _ (.here _)))))) rfl)) ?_; clear hf a; intro a hf
        refine s_v hf (x_len Try.underlying88 (hf.eval rfl)) ?_; clear hf a; intro a hf
        refine s_v hf (x_bin (hf.eval rfl) (hf.eval rfl) (r_lt _ _ _ _)) ?_; clear hf a; intro a hf
        refine s_nil ?_
        refine then_n ?_
        refine c_cond hf rfl (fun hi4 => ?_) (fun hi4 => ?_)
        · simp only [decide_eq_true_eq, decide_eq_false_iff_not, Bool.not_eq_true', Bool.not_eq_false', Bool.not_eq_true, Int.not_lt, Int.not_le] at hi4
          have hlt : i < ps.length := by omega
          obtain ⟨ab, rfl⟩ := sl_blk (hs.take (.there _ (.there _ (.there _ (.there _ (.there _ (.there _ (.here _)))))))) (by omega)
          obtain ⟨hip, hpi⟩ := pcs_get hps hlt
          have hpo := ho.pcs _ (List.getElem_mem hip)
          rw [hpi] at hpo
          have hpo3 : ((ps[i].1 + ps[i].2.2.length : Nat) : Int) ≤ s.room := hpo.2.2
          have hsec := hlm _ (List.getElem_mem hlt)
          have hpd := hs.datRd (.there _ (.there _ (.there _ (.there _ (.there _ (.there _ (.there _ (.here _)))))))) hlt
          obtain ⟨pa, pk, hpv⟩ := hpd.shape
          have hpo1 : s.pcs[i].1 / 512 = ps[i].1 / 512 := by rw [hpi]
          have hcl9 : (secP (s.pcs.take i) (ps[i].1 / 512)).length ≤ s.pcs.length := by unfold secP; exact Nat.le_trans (List.length_filter_le _ _) (by rw [List.length_take]; omega)
          refine wp_skip ?_
          refine then_n ?_
          refine wp_seq ?_
          refine wp_block ?_
          refine wp_seq ?_
          refine wp_region_lit ?_
          refine s_m hf rfl ?_; clear hf a; intro a hf
          refine s_v hf (x_nilCheck (hf.eval rfl)) ?_; clear hf a; intro a hf
          refine s_v hf (x_fieldAddr fo90_3 (hf.eval rfl)) ?_; clear hf a; intro a hf
          refine s_r hf (x_load sc88 (hf.eval rfl) (by first | exact hs.cell (.here _) rfl | exact hs.cell (.there _ (.here _)) rfl | exact hs.cell (.there _ (.there _ (.here _))) rfl | exact hs.cell (.there _ (.there _ (.there _ (.here _)))) rfl | exact hs.cell (.there _ (.there _ (.there _ (.there _ (.here _))))) rfl | exact hs.cell (.there _ (.there _ (.there _ (.there _ (.there _ (.here _)))))) rfl)) ?_; clear hf a; intro a hf
          refine s_m hf rfl ?_; clear hf a; intro a hf
          refine s_v hf (x_indexAddr sl88 (hf.eval rfl) (hf.eval rfl) (by omega) (by omega)) ?_; clear hf a; intro a hf
          refine s_r hf (x_loadS (f := rpF) ag94 (fun _ => rfl) (hs.rd (.there _ (.there _ (.there _ (.there _ (.there _ (.there _ (.here _))))))) fun h hh => sl_rd hh) (hf.eval rfl) (by simpa using hlt)) ?_; clear hf a; intro a hf
          refine s_do hf rfl (y_alloc hs Try.zeroValue94 ?_); clear hf hs a; intro b7 w hs a hf
          change St _ _ (cb b7 94 [.int .i64 0, .int .i64 0, .slice none 0 0] :: _) at hs
          refine s_do0 hf rfl (y_storeAgg (cs := rpF ps[i]) hs (n := 3) (by kernel_rfl) (hf.eval rfl) (hf.eval rfl) (rpF_one hpd) rfl rfl (.here _) ?_); clear hf hs a; intro w hs a hf
          refine s_nil ?_
          refine then_n ?_
          refine wp_seq ?_
          refine wp_region_lit ?_
          refine s_r hf (x_loadBlk hs ag40 (hf.eval rfl) rfl (.there _ (.there _ (.there _ (.here _))))) ?_; clear hf a; intro a hf
          refine s_v hf (x_fieldAddr fo94_0 (hf.eval rfl)) ?_; clear hf a; intro a hf
          refine s_r hf (x_load sc3 (hf.eval rfl) (by first | exact hs.cell (.here _) rfl | exact hs.cell (.there _ (.here _)) rfl | exact hs.cell (.there _ (.there _ (.here _))) rfl | exact hs.cell (.there _ (.there _ (.there _ (.here _)))) rfl | exact hs.cell (.there _ (.there _ (.there _ (.there _ (.here _))))) rfl | exact hs.cell (.there _ (.there _ (.there _ (.there _ (.there _ (.here _)))))) rfl)) ?_; clear hf a; intro a hf
          refine s_do hf rfl (y_call (hf.eval rfl) (hf.evals rfl) Try.call71 ((kept_spec _ csz ac cc secs rest (ps[i].1 / 512) (hrc _ [_, _, _, _, _, _, _, _, _, _] hs)).mono ?_))
          rintro e w1 ⟨rfl, hk⟩
          replace hs := hs.ext hk
          refine ⟨_, rfl, ?_⟩; clear hf a; intro a hf
          refine s_a hf rfl ?_; clear hf a; intro a hf
          refine s_nil ?_
          refine then_n ?_
          refine wp_seq ?_
          refine wp_seq ?_
          refine wp_region_lit ?_
          refine s_m hf rfl ?_; clear hf a; intro a hf
          refine s_v hf (x_fieldAddr fo94_0 (hf.eval rfl)) ?_; clear hf a; intro a hf
          refine s_r hf (x_load sc3 (hf.eval rfl) (by first | exact hs.cell (.here _) rfl | exact hs.cell (.there _ (.here _)) rfl | exact hs.cell (.there _ (.there _ (.here _))) rfl | exact hs.cell (.there _ (.there _ (.there _ (.here _)))) rfl | exact hs.cell (.there _ (.there _ (.there _ (.there _ (.here _))))) rfl | exact hs.cell (.there _ (.there _ (.there _ (.there _ (.there _ (.here _)))))) rfl)) ?_; clear hf a; intro a hf
          refine s_v hf (x_indexAddr sl38 (hf.eval rfl) (hf.eval rfl) (by omega) (by omega)) ?_; clear hf a; intro a hf
          replace hf := hf.now (k := 105) (v' := .pointer (some ⟨b4, ps[i].1 / 512, none⟩)) rfl (by rw [addr_add, Int.toNat_natCast, Nat.mul_one, Nat.zero_add])
          refine s_r hf (x_load sc3 (hf.eval rfl) (hs.cell (.there _ (.here _)) (cntC_get s.pcs i (show ps[i].1 / 512 < lst + 1 by omega)))) ?_; clear hf a; intro a hf
          refine s_m hf rfl ?_; clear hf a; intro a hf
          refine s_v hf (x_bin (hf.eval rfl) (hf.eval rfl) (r_lt _ _ _ _)) ?_; clear hf a; intro a hf
          refine s_nil ?_
          refine then_n ?_
          refine c_cond hf rfl (fun hi5 => ?_) (fun hi5 => ?_)
          · simp only [decide_eq_true_eq, decide_eq_false_iff_not, Bool.not_eq_true', Bool.not_eq_false', Bool.not_eq_true, Int.not_lt, Int.not_le] at hi5
            have hfr2 := fre_put ho hip hfr (by rw [hpo1]; exact hi5)
            rw [hpi] at hfr2
            refine wp_seq ?_
            refine wp_region_lit ?_
            refine s_a hf rfl ?_; clear hf a; intro a hf
            refine s_nil ?_
            refine then_n ?_
            refine wp_block ?_
            refine c_loop (L0 := [(0, _), (3, _), (4, _), (5, _), (7, _), (8, _), (9, _), (10, _), (11, _), (12, _), (13, _), (52, _), (53, _), (54, _), (55, _), (56, _), (57, _), (58, _), (79, _), (80, _), (81, _), (82, _), (83, _), (84, _), (85, _), (86, _), (87, _), (88, _), (91, _), (92, _), (93, _), (94, _), (95, _), (96, _), (97, _), (98, _), (99, _), (100, _), (101, _), (102, _), (103, _), (104, _), (105, _), (106, _), (107, _), (108, _)]) (fun M w m => ∃ (j : Nat), M = [(14, .int .i64 (j : Int))] ∧ ps[i].2.2.length - j = m ∧ j ≤ ps[i].2.2.length ∧ St σ w (cb b7 94 (rpF ps[i]) :: cb b4 3 (cntC s.pcs i (lst + 1)) :: bb fb 5 (putP out (ps[i].1, ps[i].2.2.take j)) :: cb cb0 40 [.int .i64 csz, .slice ac secs.length cc, .int .i64 rest] :: rcell 90 p s ⟨.slice a1 s.now.length c1, .slice a2 s.dur.length c2, .slice (some ⟨ab, 0, none⟩) ps.length c3, .slice a4 s.sizes.length c4, ps⟩ :: slB 5 (.slice a1 s.now.length c1) s.now :: slB 5 (.slice a2 s.dur.length c2) s.dur :: sl 94 3 (.slice (some ⟨ab, 0, none⟩) ps.length c3) ps.length (ps.flatMap rpF) :: datA 5 ps :: sl 3 1 (.slice a4 s.sizes.length c4) s.sizes.length (szC s.sizes) :: R)) (M0 := [(14, .int .i64 0)]) (⟨0, rfl, rfl, Nat.zero_le _, by rw [putP_zero]; exact hs⟩) (hf.sub ⟨rfl, rfl, rfl, rfl, rfl, rfl, rfl, rfl, rfl, rfl, rfl, rfl, rfl, rfl, rfl, rfl, rfl, rfl, rfl, rfl, rfl, rfl, rfl, rfl, rfl, rfl, rfl, rfl, rfl, rfl, rfl, rfl, rfl, rfl, rfl, rfl, rfl, rfl, rfl, rfl, rfl, rfl, rfl, rfl, rfl, rfl, rfl, trivial⟩) ?_
            clear hf hs a
            rintro M m a w ⟨j, rfl, rfl, hj, hs⟩ hf
            have hol := hfr.1
            have hol2 : (putP out (ps[i].1, ps[i].2.2.take j)).length = out.length := putP_len _ _
            refine wp_seq ?_
            refine wp_seq ?_
            refine wp_region_lit ?_
            refine s_m hf rfl ?_; clear hf a; intro a hf
            refine s_v hf (x_fieldAddr fo94_2 (hf.eval rfl)) ?_; clear hf a; intro a hf
            refine s_r hf (x_load sc22 (hf.eval rfl) (by first | exact hs.cell (.here _) rfl | exact hs.cell (.there _ (.here _)) rfl | exact hs.cell (.there _ (.there _ (.here _))) rfl | exact hs.cell (.there _ (.there _ (.there _ (.here _)))) rfl | exact hs.cell (.there _ (.there _ (.there _ (.there _ (.here _))))) rfl | exact hs.cell (.there _ (.there _ (.there _ (.there _ (.there _ (.here _)))))) rfl)) ?_; clear hf a; intro a hf
            replace hf := hf.now (k := 111) (v' := .slice pa ps[i].2.2.length pk) rfl (by first | rfl | rw [← hpv] | (rw [← hpv]; rfl))
            refine s_v hf (x_len Try.underlying22 (hf.eval rfl)) ?_; clear hf a; intro a hf
            refine s_v hf (x_bin (hf.eval rfl) (hf.eval rfl) (r_lt _ _ _ _)) ?_; clear hf a; intro a hf
            refine s_m hf rfl ?_; clear hf a; intro a hf
            refine s_bool hf (k := 114) rfl (fun hg23_5 hf' => ?_) (fun hg23_5 hf' => ?_)
            · clear hf
              have hf := hf'
              clear hf'
              simp only [decide_eq_true_eq, decide_eq_false_iff_not] at hg23_5
              refine s_do hf (wanted_of hf rfl rfl rfl) (.value (x_fieldAddr fo94_1 (hf.eval rfl) _) ?_); clear hf a; intro a hf
              refine s_do hf (wanted_of hf rfl rfl rfl) (.value (x_load sc3 (hf.eval rfl) (by first | exact hs.cell (.here _) rfl | exact hs.cell (.there _ (.here _)) rfl | exact hs.cell (.there _ (.there _ (.here _))) rfl | exact hs.cell (.there _ (.there _ (.there _ (.here _)))) rfl | exact hs.cell (.there _ (.there _ (.there _ (.there _ (.here _))))) rfl | exact hs.cell (.there _ (.there _ (.there _ (.there _ (.there _ (.here _)))))) rfl)) ?_); clear hf a; intro a hf
              refine s_do hf (wanted_of hf rfl rfl rfl) (.value (x_move (hf.eval rfl) _) ?_); clear hf a; intro a hf
              refine s_do hf (wanted_of hf rfl rfl rfl) (.value (x_bin (hf.eval rfl) (hf.eval rfl) (r_addi _ (by omega) (by omega)) _) ?_); clear hf a; intro a hf
              refine s_do hf (wanted_of hf rfl rfl rfl) (.value (x_move (hf.eval rfl) _) ?_); clear hf a; intro a hf
              refine s_do hf (wanted_of hf rfl rfl rfl) (.value (x_bin (hf.eval rfl) (hf.eval rfl) (r_lt _ _ _ _) _) ?_); clear hf a; intro a hf
              refine s_v hf (x_pick_t (hf.eval rfl) (hf.eval rfl)) ?_; clear hf a; intro a hf
              refine s_nil ?_
              refine then_n ?_
              refine c_cond hf rfl (fun hi6 => ?_) (fun hi6 => ?_)
              · simp only [decide_eq_true_eq, decide_eq_false_iff_not, Bool.not_eq_true', Bool.not_eq_false', Bool.not_eq_true, Int.not_lt, Int.not_le] at hi6
                have hjl : j < ps[i].2.2.length := by omega
                have hpd2 := hs.datRd (.there _ (.there _ (.there _ (.there _ (.there _ (.there _ (.there _ (.there _ (.here _))))))))) hlt
                rw [hpv] at hpd2
                obtain ⟨pa, rfl⟩ := hpd2.some (by omega)
                refine wp_skip ?_
                refine then_n ?_
                refine wp_seq ?_
                refine wp_block ?_
                refine c_draw hs (fun _ => True) [.held, .held, .read, .held, .held, .held, .read, .held, .held, .read, .held, .fin] (by kernel_rfl) (by kernel_rfl) (fun _ _ _ => trivial) ?_
                clear hs; intro w hs hC hw
                have hpd2 := hs.datRd (.there _ (.there _ (.there _ (.there _ (.there _ (.there _ (.there _ (.there _ (.here _))))))))) hlt
                rw [hpv] at hpd2
                refine m_held hf rfl (fun w' _ => x_move (hf.eval rfl) w') ?_; clear hf a; intro a hf
                refine m_held hf rfl (fun w' _ => x_fieldAddr fo94_1 (hf.eval rfl) w') ?_; clear hf a; intro a hf
                refine m_read hf rfl (x_load sc3 (hf.eval rfl) (by first | exact hs.cell (.here _) rfl | exact hs.cell (.there _ (.here _)) rfl | exact hs.cell (.there _ (.there _ (.here _))) rfl | exact hs.cell (.there _ (.there _ (.there _ (.here _)))) rfl | exact hs.cell (.there _ (.there _ (.there _ (.there _ (.here _))))) rfl | exact hs.cell (.there _ (.there _ (.there _ (.there _ (.there _ (.here _)))))) rfl)) ?_; clear hf a; intro a hf
                refine m_held hf rfl (fun w' _ => x_move (hf.eval rfl) w') ?_; clear hf a; intro a hf
                refine m_held hf rfl (fun w' _ => x_bin (hf.eval rfl) (hf.eval rfl) (r_addi _ (by omega) (by omega)) w') ?_; clear hf a; intro a hf
                refine m_held hf rfl (fun w' _ => x_fieldAddr fo94_2 (hf.eval rfl) w') ?_; clear hf a; intro a hf
                refine m_read hf rfl (x_load sc22 (hf.eval rfl) (by first | exact hs.cell (.here _) rfl | exact hs.cell (.there _ (.here _)) rfl | exact hs.cell (.there _ (.there _ (.here _))) rfl | exact hs.cell (.there _ (.there _ (.there _ (.here _)))) rfl | exact hs.cell (.there _ (.there _ (.there _ (.there _ (.here _))))) rfl | exact hs.cell (.there _ (.there _ (.there _ (.there _ (.there _ (.here _)))))) rfl)) ?_; clear hf a; intro a hf
                replace hf := hf.now (k := 130) (v' := .slice (some pa) ps[i].2.2.length pk) rfl (by first | rfl | rw [← hpv] | (rw [← hpv]; rfl))
                refine m_held hf rfl (fun w' _ => x_move (hf.eval rfl) w') ?_; clear hf a; intro a hf
                refine m_held hf rfl (fun w' _ => x_indexAddr sl22 (hf.eval rfl) (hf.eval rfl) (by omega) (by omega) w') ?_; clear hf a; intro a hf
                refine m_read hf rfl (x_loadB (i := (j : Int)) sc5 hpd2 (hf.eval rfl) (by simpa using hjl)) ?_; clear hf a; intro a hf
                refine m_held hf rfl (fun w' _ => x_indexAddr sl22 (hf.eval rfl) (hf.eval rfl) (by omega) (by omega) w') ?_; clear hf a; intro a hf
                replace hf := hf.now (k := 134) (v' := .pointer (some ⟨fb, ps[i].1 + j, none⟩)) rfl (by rw [addr_add]; congr 3; omega)
                refine m_fin0 hf rfl (y_storeB (u := ps[i].2.2[j]) hs sc5 (hf.eval rfl) (hf.eval rfl) rfl (.there _ (.there _ (.here _))) (by omega) ?_); clear hf hs a; intro w hs; intro a hf
                refine blk_n ?_
                refine then_n ?_
                refine wp_region_lit ?_
                refine s_m hf rfl ?_; clear hf a; intro a hf
                refine s_v hf (x_bin (hf.eval rfl) (hf.eval rfl) (r_addi _ (by omega) (by omega))) ?_; clear hf a; intro a hf
                refine s_a hf rfl ?_; clear hf a; intro a hf
                refine s_nil ?_
                exact ⟨_, _, ⟨j + 1, rfl, rfl, by omega, by rw [← putP_step (by omega) hjl]; exact hs⟩, by omega, hf.sub ⟨rfl, rfl, rfl, rfl, rfl, rfl, rfl, rfl, rfl, rfl, rfl, rfl, rfl, rfl, rfl, rfl, rfl, rfl, rfl, rfl, rfl, rfl, rfl, rfl, rfl, rfl, rfl, rfl, rfl, rfl, rfl, rfl, rfl, rfl, rfl, rfl, rfl, rfl, rfl, rfl, rfl, rfl, rfl, rfl, rfl, rfl, rfl, trivial⟩⟩
              · simp only [decide_eq_true_eq, decide_eq_false_iff_not, Bool.not_eq_true', Bool.not_eq_false', Bool.not_eq_true, Int.not_lt, Int.not_le] at hi6
                rw [putP_stop (by omega)] at hs
                refine wp_exit ?_
                refine then_x ?_
                refine then_x ?_
                refine blk_x ?_
                refine then_n ?_
                refine c_draw hs (fun _ => True) [.held, .held, .read, .held, .held, .read, .held, .read, .held, .held, .fin] (by kernel_rfl) (by kernel_rfl) (fun _ _ _ => trivial) ?_
                clear hs; intro w hs hC hw
                refine m_held hf rfl (fun w' _ => x_move (hf.eval rfl) w') ?_; clear hf a; intro a hf
                refine m_held hf rfl (fun w' _ => x_fieldAddr fo94_0 (hf.eval rfl) w') ?_; clear hf a; intro a hf
                refine m_read hf rfl (x_load sc3 (hf.eval rfl) (by first | exact hs.cell (.here _) rfl | exact hs.cell (.there _ (.here _)) rfl | exact hs.cell (.there _ (.there _ (.here _))) rfl | exact hs.cell (.there _ (.there _ (.there _ (.here _)))) rfl | exact hs.cell (.there _ (.there _ (.there _ (.there _ (.here _))))) rfl | exact hs.cell (.there _ (.there _ (.there _ (.there _ (.there _ (.here _)))))) rfl)) ?_; clear hf a; intro a hf
                refine m_held hf rfl (fun w' _ => x_move (hf.eval rfl) w') ?_; clear hf a; intro a hf
                refine m_held hf rfl (fun w' _ => x_fieldAddr fo94_0 (hf.eval rfl) w') ?_; clear hf a; intro a hf
                refine m_read hf rfl (x_load sc3 (hf.eval rfl) (by first | exact hs.cell (.here _) rfl | exact hs.cell (.there _ (.here _)) rfl | exact hs.cell (.there _ (.there _ (.here _))) rfl | exact hs.cell (.there _ (.there _ (.there _ (.here _)))) rfl | exact hs.cell (.there _ (.there _ (.there _ (.there _ (.here _))))) rfl | exact hs.cell (.there _ (.there _ (.there _ (.there _ (.there _ (.here _)))))) rfl)) ?_; clear hf a; intro a hf
                refine m_held hf rfl (fun w' _ => x_indexAddr sl38 (hf.eval rfl) (hf.eval rfl) (by omega) (by omega) w') ?_; clear hf a; intro a hf
                replace hf := hf.now (k := 141) (v' := .pointer (some ⟨b4, ps[i].1 / 512, none⟩)) rfl (by rw [addr_add, Int.toNat_natCast, Nat.mul_one, Nat.zero_add])
                refine m_read hf rfl (x_load sc3 (hf.eval rfl) (hs.cell (.there _ (.here _)) (cntC_get s.pcs i (show ps[i].1 / 512 < lst + 1 by omega)))) ?_; clear hf a; intro a hf
                refine m_held hf rfl (fun w' _ => x_bin (hf.eval rfl) (hf.eval rfl) (r_addi _ (by omega) (by omega)) w') ?_; clear hf a; intro a hf
                refine m_held hf rfl (fun w' _ => x_indexAddr sl38 (hf.eval rfl) (hf.eval rfl) (by omega) (by omega) w') ?_; clear hf a; intro a hf
                replace hf := hf.now (k := 144) (v' := .pointer (some ⟨b4, ps[i].1 / 512, none⟩)) rfl (by rw [addr_add, Int.toNat_natCast, Nat.mul_one, Nat.zero_add])
                refine m_fin0 hf rfl (y_store hs sc3 (hf.eval rfl) (hf.eval rfl) rfl (.there _ (.here _)) (by rw [cntC_len]; omega) ?_); clear hf hs a; intro w hs; intro a hf
                rw [cntC_set s.pcs hip hpo1.symm (by omega)] at hs
                replace hs := hs.drop
                refine blk_n ?_
                refine then_n ?_
                refine wp_region_lit ?_
                refine s_m hf rfl ?_; clear hf a; intro a hf
                refine s_v hf (x_bin (hf.eval rfl) (hf.eval rfl) (r_addi _ (by omega) (by omega))) ?_; clear hf a; intro a hf
                refine s_a hf rfl ?_; clear hf a; intro a hf
                refine s_nil ?_
                exact ⟨_, _, ⟨i + 1, _, rfl, rfl, by omega, hfr2, hs⟩, by omega, hf.sub ⟨rfl, rfl, rfl, rfl, rfl, rfl, rfl, rfl, rfl, rfl, rfl, rfl, rfl, rfl, rfl, rfl, rfl, rfl, rfl, trivial⟩⟩
            · clear hf
              have hf := hf'
              clear hf'
              simp only [decide_eq_true_eq, decide_eq_false_iff_not] at hg23_5
              refine s_pass hf rfl rfl ?_; clear hf a; intro a hf
              refine s_pass hf rfl rfl ?_; clear hf a; intro a hf
              refine s_pass hf rfl rfl ?_; clear hf a; intro a hf
              refine s_pass hf rfl rfl ?_; clear hf a; intro a hf
              refine s_pass hf rfl rfl ?_; clear hf a; intro a hf
              refine s_pass hf rfl rfl ?_; clear hf a; intro a hf
              refine s_v hf (x_pick_f (hf.eval rfl) (hf.eval rfl)) ?_; clear hf a; intro a hf
              refine s_nil ?_
              refine then_n ?_
              refine c_cond_f hf rfl rfl ?_
              rw [putP_stop (by omega)] at hs
              refine wp_exit ?_
              refine then_x ?_
              refine then_x ?_
              refine blk_x ?_
              refine then_n ?_
              refine c_draw hs (fun _ => True) [.held, .held, .read, .held, .held, .read, .held, .read, .held, .held, .fin] (by kernel_rfl) (by kernel_rfl) (fun _ _ _ => trivial) ?_
              clear hs; intro w hs hC hw
              refine m_held hf rfl (fun w' _ => x_move (hf.eval rfl) w') ?_; clear hf a; intro a hf
              refine m_held hf rfl (fun w' _ => x_fieldAddr fo94_0 (hf.eval rfl) w') ?_; clear hf a; intro a hf
              refine m_read hf rfl (x_load sc3 (hf.eval rfl) (by first | exact hs.cell (.here _) rfl | exact hs.cell (.there _ (.here _)) rfl | exact hs.cell (.there _ (.there _ (.here _))) rfl | exact hs.cell (.there _ (.there _ (.there _ (.here _)))) rfl | exact hs.cell (.there _ (.there _ (.there _ (.there _ (.here _))))) rfl | exact hs.cell (.there _ (.there _ (.there _ (.there _ (.there _ (.here _)))))) rfl)) ?_; clear hf a; intro a hf
              refine m_held hf rfl (fun w' _ => x_move (hf.eval rfl) w') ?_; clear hf a; intro a hf
              refine m_held hf rfl (fun w' _ => x_fieldAddr fo94_0 (hf.eval rfl) w') ?_; clear hf a; intro a hf
              refine m_read hf rfl (x_load sc3 (hf.eval rfl) (by first | exact hs.cell (.here _) rfl | exact hs.cell (.there _ (.here _)) rfl | exact hs.cell (.there _ (.there _ (.here _))) rfl | exact hs.cell (.there _ (.there _ (.there _ (.here _)))) rfl | exact hs.cell (.there _ (.there _ (.there _ (.there _ (.here _))))) rfl | exact hs.cell (.there _ (.there _ (.there _ (.there _ (.there _ (.here _)))))) rfl)) ?_; clear hf a; intro a hf
              refine m_held hf rfl (fun w' _ => x_indexAddr sl38 (hf.eval rfl) (hf.eval rfl) (by omega) (by omega) w') ?_; clear hf a; intro a hf
              replace hf := hf.now (k := 141) (v' := .pointer (some ⟨b4, ps[i].1 / 512, none⟩)) rfl (by rw [addr_add, Int.toNat_natCast, Nat.mul_one, Nat.zero_add])
              refine m_read hf rfl (x_load sc3 (hf.eval rfl) (hs.cell (.there _ (.here _)) (cntC_get s.pcs i (show ps[i].1 / 512 < lst + 1 by omega)))) ?_; clear hf a; intro a hf
              refine m_held hf rfl (fun w' _ => x_bin (hf.eval rfl) (hf.eval rfl) (r_addi _ (by omega) (by omega)) w') ?_; clear hf a; intro a hf
              refine m_held hf rfl (fun w' _ => x_indexAddr sl38 (hf.eval rfl) (hf.eval rfl) (by omega) (by omega) w') ?_; clear hf a; intro a hf
              replace hf := hf.now (k := 144) (v' := .pointer (some ⟨b4, ps[i].1 / 512, none⟩)) rfl (by rw [addr_add, Int.toNat_natCast, Nat.mul_one, Nat.zero_add])
              refine m_fin0 hf rfl (y_store hs sc3 (hf.eval rfl) (hf.eval rfl) rfl (.there _ (.here _)) (by rw [cntC_len]; omega) ?_); clear hf hs a; intro w hs; intro a hf
              rw [cntC_set s.pcs hip hpo1.symm (by omega)] at hs
              replace hs := hs.drop
              refine blk_n ?_
              refine then_n ?_
              refine wp_region_lit ?_
              refine s_m hf rfl ?_; clear hf a; intro a hf
              refine s_v hf (x_bin (hf.eval rfl) (hf.eval rfl) (r_addi _ (by omega) (by omega))) ?_; clear hf a; intro a hf
              refine s_a hf rfl ?_; clear hf a; intro a hf
              refine s_nil ?_
              exact ⟨_, _, ⟨i + 1, _, rfl, rfl, by omega, hfr2, hs⟩, by omega, hf.sub ⟨rfl, rfl, rfl, rfl, rfl, rfl, rfl, rfl, rfl, rfl, rfl, rfl, rfl, rfl, rfl, rfl, rfl, rfl, rfl, trivial⟩⟩
          · simp only [decide_eq_true_eq, decide_eq_false_iff_not, Bool.not_eq_true', Bool.not_eq_false', Bool.not_eq_true, Int.not_lt, Int.not_le] at hi5
            have hfr2 := fre_skip hip hfr (by rw [hpo1]; exact hi5)
            refine wp_skip ?_
            refine then_n ?_
            refine c_draw hs (fun _ => True) [.held, .held, .read, .held, .held, .read, .held, .read, .held, .held, .fin] (by kernel_rfl) (by kernel_rfl) (fun _ _ _ => trivial) ?_
            clear hs; intro w hs hC hw
            refine m_held hf rfl (fun w' _ => x_move (hf.eval rfl) w') ?_; clear hf a; intro a hf
            refine m_held hf rfl (fun w' _ => x_fieldAddr fo94_0 (hf.eval rfl) w') ?_; clear hf a; intro a hf
            refine m_read hf rfl (x_load sc3 (hf.eval rfl) (by first | exact hs.cell (.here _) rfl | exact hs.cell (.there _ (.here _)) rfl | exact hs.cell (.there _ (.there _ (.here _))) rfl | exact hs.cell (.there _ (.there _ (.there _ (.here _)))) rfl | exact hs.cell (.there _ (.there _ (.there _ (.there _ (.here _))))) rfl | exact hs.cell (.there _ (.there _ (.there _ (.there _ (.there _ (.here _)))))) rfl)) ?_; clear hf a; intro a hf
            refine m_held hf rfl (fun w' _ => x_move (hf.eval rfl) w') ?_; clear hf a; intro a hf
            refine m_held hf rfl (fun w' _ => x_fieldAddr fo94_0 (hf.eval rfl) w') ?_; clear hf a; intro a hf
            refine m_read hf rfl (x_load sc3 (hf.eval rfl) (by first | exact hs.cell (.here _) rfl | exact hs.cell (.there _ (.here _)) rfl | exact hs.cell (.there _ (.there _ (.here _))) rfl | exact hs.cell (.there _ (.there _ (.there _ (.here _)))) rfl | exact hs.cell (.there _ (.there _ (.there _ (.there _ (.here _))))) rfl | exact hs.cell (.there _ (.there _ (.there _ (.there _ (.there _ (.here _)))))) rfl)) ?_; clear hf a; intro a hf
            refine m_held hf rfl (fun w' _ => x_indexAddr sl38 (hf.eval rfl) (hf.eval rfl) (by omega) (by omega) w') ?_; clear hf a; intro a hf
            replace hf := hf.now (k := 141) (v' := .pointer (some ⟨b4, ps[i].1 / 512, none⟩)) rfl (by rw [addr_add, Int.toNat_natCast, Nat.mul_one, Nat.zero_add])
            refine m_read hf rfl (x_load sc3 (hf.eval rfl) (hs.cell (.there _ (.here _)) (cntC_get s.pcs i (show ps[i].1 / 512 < lst + 1 by omega)))) ?_; clear hf a; intro a hf
            refine m_held hf rfl (fun w' _ => x_bin (hf.eval rfl) (hf.eval rfl) (r_addi _ (by omega) (by omega)) w') ?_; clear hf a; intro a hf
            refine m_held hf rfl (fun w' _ => x_indexAddr sl38 (hf.eval rfl) (hf.eval rfl) (by omega) (by omega) w') ?_; clear hf a; intro a hf
            replace hf := hf.now (k := 144) (v' := .pointer (some ⟨b4, ps[i].1 / 512, none⟩)) rfl (by rw [addr_add, Int.toNat_natCast, Nat.mul_one, Nat.zero_add])
            refine m_fin0 hf rfl (y_store hs sc3 (hf.eval rfl) (hf.eval rfl) rfl (.there _ (.here _)) (by rw [cntC_len]; omega) ?_); clear hf hs a; intro w hs; intro a hf
            rw [cntC_set s.pcs hip hpo1.symm (by omega)] at hs
            replace hs := hs.drop
            refine blk_n ?_
            refine then_n ?_
            refine wp_region_lit ?_
            refine s_m hf rfl ?_; clear hf a; intro a hf
            refine s_v hf (x_bin (hf.eval rfl) (hf.eval rfl) (r_addi _ (by omega) (by omega))) ?_; clear hf a; intro a hf
            refine s_a hf rfl ?_; clear hf a; intro a hf
            refine s_nil ?_
            exact ⟨_, _, ⟨i + 1, _, rfl, rfl, by omega, hfr2, hs⟩, by omega, hf.sub ⟨rfl, rfl, rfl, rfl, rfl, rfl, rfl, rfl, rfl, rfl, rfl, rfl, rfl, rfl, rfl, rfl, rfl, rfl, rfl, trivial⟩⟩
        · simp only [decide_eq_true_eq, decide_eq_false_iff_not, Bool.not_eq_true', Bool.not_eq_false', Bool.not_eq_true, Int.not_lt, Int.not_le] at hi4
          obtain rfl : i = s.pcs.length := by omega
          obtain rfl := fre_end hfr
          refine wp_exit ?_
          refine then_x ?_
          refine then_x ?_
          refine blk_x ?_
          refine then_n ?_
          refine wp_seq ?_
          refine wp_region_lit ?_
          refine s_m hf rfl ?_; clear hf a; intro a hf
          refine s_a hf rfl ?_; clear hf a; intro a hf
          refine s_nil ?_
          refine then_n ?_
          refine wp_ret ?_
          refine r_1 hf Try.results62 rfl ?_
          replace hs := (hs.lose (.here _)).ofBb (n := (outS s (csz, secs, rest)).length) rfl (by rw [outS_length]; omega)
          replace hs := St.give (L := _) (hs.lose (.there _ (.here _))) (.there _ (.there _ (.there _ (.there _ (.there _ (.there _ (.here _)))))))
          refine ⟨some ⟨fb, 0, none⟩, (outS s (csz, secs, rest)).length, by rw [outS_length], ?_⟩
          exact (refA_close (s := s) (x := ⟨.slice a1 s.now.length c1, .slice a2 s.dur.length c2, .slice a3 ps.length c3, .slice a4 s.sizes.length c4, ps⟩) hps hs).take (.there _ (.here _))

theorem rCrash_spec (σ : Sig) (w : World) (R : List Asrt) (p : Nat) (s : DS) (hs : St σ w (refA 90 94 5 3 p s :: R)) (csz : Int) (ac : Option Addr) (cc : Nat) (secs : List Int) (rest : Int) (ho : DOk s) (hrc : RdyS iF 1 σ R (.slice ac secs.length cc) secs) (hsz : s.sizes.length ≤ 1099511600000) (hpc : s.pcs.length ≤ 1099511600000) : Calls Try.prog 48 #[.pointer (some ⟨p, 0, none⟩), .agg #[.int .i64 csz, .slice ac secs.length cc, .int .i64 rest]] w fun e w' => ∃ p', e = .returned (.tuple #[.pointer (some ⟨p', 0, none⟩), .int .i64 0]) ∧ St σ w' (refA 90 94 5 3 p' (newS (outS s (csz, secs, rest)) s.room) :: refA 90 94 5 3 p (kilS s) :: R) := by
  have hroom1 := ho.room1
  have hoN := outN_le ho (csz, secs, rest)
  refine c_enter (N := 24) Try.func48 rfl Try.ntmps48 (by simp) ?_
  intro a hf
  refine wp_seq ?_
  refine wp_region_lit ?_
  refine s_do hf rfl (y_box hs (hf.eval rfl) ?_); clear hf hs a; intro cb0 w hs a hf
  replace hs : St σ w (cb cb0 40 [.int .i64 csz, .slice ac secs.length cc, .int .i64 rest] :: _) := hs
  refine s_a hf rfl ?_; clear hf a; intro a hf
  refine s_a hf rfl ?_; clear hf a; intro a hf
  refine s_nil ?_
  refine then_n ?_
  refine wp_seq ?_
  refine wp_seq ?_
  refine wp_region_lit ?_
  refine s_m hf rfl ?_; clear hf a; intro a hf
  refine s_v hf (x_eqNil Try.underlying24 (hf.eval rfl) (hf.eval rfl)) ?_; clear hf a; intro a hf
  replace hf := hf.now (k := 8) (v' := .bool false) rfl rfl
  refine s_nil ?_
  refine then_n ?_
  refine c_cond_f hf rfl rfl ?_
  refine wp_skip ?_
  refine then_n ?_
  refine wp_seq ?_
  refine wp_region_lit ?_
  refine s_m hf rfl ?_; clear hf a; intro a hf
  refine s_r hf (x_loadBlk hs ag40 (hf.eval rfl) rfl (.here _)) ?_; clear hf a; intro a hf
  replace hs := hs.drop
  refine s_do hf rfl (y_call (hf.eval rfl) (hf.evals rfl) Try.call62 ((outcome_spec σ _ R p s hs csz ac cc secs rest ho hrc hsz hpc).mono ?_))
  rintro e w1 ⟨oa, oc, rfl, hs⟩
  refine ⟨_, rfl, ?_⟩; clear hf a; intro a hf
  refine s_a hf rfl ?_; clear hf a; intro a hf
  refine s_nil ?_
  refine then_n ?_
  refine wp_seq ?_
  refine wp_region_lit ?_
  replace hs := hs.take (.there _ (.here _))
  obtain ⟨⟨v1, v2, v3, v4, ps⟩, hps, hs⟩ := refA_open hs
  dsimp only at hps hs
  obtain ⟨a1, c1, rfl, hc1⟩ := slB_shape (hs.take (.there _ (.here _)))
  obtain ⟨a2, c2, rfl, hc2⟩ := slB_shape (hs.take (.there _ (.there _ (.here _))))
  obtain ⟨a3, c3, rfl⟩ := sl_shape (hs.take (.there _ (.there _ (.there _ (.here _)))))
  obtain ⟨a4, c4, rfl⟩ := sl_shape (hs.take (.there _ (.there _ (.there _ (.there _ (.there _ (.here _)))))))
  refine s_m hf rfl ?_; clear hf a; intro a hf
  refine s_v hf (x_nilCheck (hf.eval rfl)) ?_; clear hf a; intro a hf
  refine s_v hf (x_fieldAddr fo90_7 (hf.eval rfl)) ?_; clear hf a; intro a hf
  refine s_do0 hf rfl (y_store hs sc4 (hf.eval rfl) (hf.eval rfl) rfl (by first | exact .here _ | exact .there _ (.here _) | exact .there _ (.there _ (.here _)) | exact .there _ (.there _ (.there _ (.here _))) | exact .there _ (.there _ (.there _ (.there _ (.here _)))) | exact .there _ (.there _ (.there _ (.there _ (.there _ (.here _)))))) (by simp) ?_); clear hf hs a; intro w hs a hf
  refine s_nil ?_
  refine then_n ?_
  refine wp_seq ?_
  refine c_draw hs (fun w' => w'.cell? ⟨p, 0, none⟩ = some (.int .i64 s.room) ∧ RdB (hp w') (.slice oa (outS s (csz, secs, rest)).length oc) (outS s (csz, secs, rest))) [.held, .held, .held, .held, .held, .held, .eff, .held, .eff, .held, .held] (by kernel_rfl) (by kernel_rfl) (fun w' _ hs => ⟨hs.cell (k := 0) (.here _) rfl, hs.rdB (.there _ (.there _ (.there _ (.there _ (.there _ (.there _ (.here _))))))) fun h => slB_rd⟩) ?_
  clear hs; intro w hs hC hw
  refine m_held hf rfl (fun w' _ => x_move (hf.eval rfl) w') ?_; clear hf a; intro a hf
  refine m_held hf rfl (fun w' _ => x_nilCheck (hf.eval rfl) w') ?_; clear hf a; intro a hf
  refine m_held hf rfl (fun w' _ => x_fieldAddr fo90_0 (hf.eval rfl) w') ?_; clear hf a; intro a hf
  refine m_held hf rfl (fun w' hc => x_load sc3 (hf.eval rfl) hc.1) ?_; clear hf a; intro a hf
  refine m_held hf rfl (fun w' _ => x_move (hf.eval rfl) w') ?_; clear hf a; intro a hf
  refine m_held hf rfl (fun w' _ => x_move (hf.eval rfl) w') ?_; clear hf a; intro a hf
  refine m_eff hf rfl (y_call (hf.eval rfl) (hf.evals rfl) Try.call63 ((rclone_spec _ _ _ (outS s (csz, secs, rest)) hC.2 (by rw [outS_length]; omega)).mono ?_))
  rintro e w1 ⟨e1, fe1, rfl, hj⟩
  replace hs := hs.join hj
  simp only [List.cons_append, List.nil_append] at hs
  refine ⟨_, rfl, ⟨⟨hs.cell (k := 0) (.there _ (.here _)) rfl, hs.rdB (.there _ (.there _ (.there _ (.there _ (.there _ (.there _ (.there _ (.here _)))))))) fun h => slB_rd⟩, ?_⟩⟩; clear hf a; intro a hf
  refine m_held hf rfl (fun w' hc => x_build (v := .agg #[.int .i64 s.room, .slice oa (outS s (csz, secs, rest)).length oc, .slice e1 (outS s (csz, secs, rest)).length fe1, .slice none 0 0, .slice none 0 0, .int .i64 0, .int .i64 (-1), .bool true]) (hf.parts rfl) (fun w => by kernel_rfl) _) ?_; clear hf a; intro a hf
  refine m_eff hf rfl (y_box hs (hf.eval rfl) ?_); clear hf hs a; intro p2 w hs; refine ⟨⟨hs.cell (k := 0) (.there _ (.there _ (.here _))) rfl, hs.rdB (.there _ (.there _ (.there _ (.there _ (.there _ (.there _ (.there _ (.there _ (.here _))))))))) fun h => slB_rd⟩, ?_⟩; intro a hf
  refine m_held hf rfl (fun w' _ => x_assign (hf.eval rfl) w') ?_; clear hf a; intro a hf
  refine m_held hf rfl (fun w' _ => x_assign (hf.eval rfl) w') ?_; clear hf a; intro a hf
  refine m_nil ?_
  refine then_n ?_
  refine wp_ret ?_
  refine r_2 hf Try.results48 rfl rfl ?_
  refine ⟨p2, rfl, ?_⟩
  replace hs := (hs.take (.there _ (.here _))).take (.there _ (.there _ (.there _ (.there _ (.there _ (.there _ (.there _ (.there _ (.here _)))))))))
  replace hs := hs.take (.there _ (.there _ (.here _)))
  replace hs := St.give (L := _) (hs.emp (A := sl 94 3 (.slice none 0 0) 0 []) (fun _ => ⟨rfl, .inl ⟨rfl, rfl⟩⟩)) (.there _ (.there _ (.there _ (.here _))))
  replace hs := St.give (L := _) (hs.emp (A := datA 5 []) (fun _ => trivial)) (.there _ (.there _ (.there _ (.there _ (.here _)))))
  replace hs := St.give (L := _) (hs.emp (A := sl 3 1 (.slice none 0 0) 0 []) (fun _ => ⟨rfl, .inl ⟨rfl, rfl⟩⟩)) (.there _ (.there _ (.there _ (.there _ (.there _ (.here _))))))
  replace hs := refA_close (s := newS (outS s (csz, secs, rest)) s.room) (x := ⟨.slice oa (outS s (csz, secs, rest)).length oc, .slice e1 (outS s (csz, secs, rest)).length fe1, .slice none 0 0, .slice none 0 0, []⟩) rfl hs
  replace hs := St.give (L := _) hs (.there _ (.there _ (.there _ (.there _ (.there _ (.there _ (.here _)))))))
  exact (refA_close (s := kilS s) (x := ⟨.slice a1 s.now.length c1, .slice a2 s.dur.length c2, .slice a3 ps.length c3, .slice a4 s.sizes.length c4, ps⟩) hps hs).take (.there _ (.here _))

end Go.Proofs.Ytjfnpbeehjhmbaa
