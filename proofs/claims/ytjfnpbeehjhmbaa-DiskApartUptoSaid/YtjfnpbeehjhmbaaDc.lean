/- The disk of the program: New, Crash. -/
import Derived.Test.YtjfnpbeehjhmbaaVO
import Derived.Test.YtjfnpbeehjhmbaaDw
import Derived.Test.YtjfnpbeehjhmbaaProg
import Derived.Test.YtjfnpbeehjhmbaaFacts
set_option maxRecDepth 100000
set_option linter.all false
namespace Go.Proofs.Ytjfnpbeehjhmbaa
open Go Vw
theorem dNew_in (w0 : World) (a1 : Option Addr) (c1 : Nat) (image : List UInt8) (hr1 : RdB (hp w0) (.slice a1 image.length c1) image) (hl1 : image.length ≤ 140737488351232) (cap : Int) (hc1 : 0 ≤ cap) (hc2 : cap ≤ 16777216) (hc3 : image.length ≤ cap) : Calls Try.prog 36 #[.slice a1 image.length c1, .int .i64 cap] w0 fun e w' => ∃ p, e = .returned (.tuple #[.pointer (some ⟨p, 0, none⟩), .int .i64 0]) ∧ St ⟨w0, None_⟩ w' [diskA 78 83 5 3 p (newS image cap)] := by
  refine (dNew_ok w0 a1 c1 image hr1 hl1 cap hc1 hc2 hc3).mono fun e w' h => ?_
  obtain ⟨p, v1, v2, m, rfl, hs⟩ := h
  refine ⟨p, rfl, ?_⟩
  replace hs := St.give (L := _) (hs.emp (A := entsA 83 5 []) (fun _ => trivial)) (.there _ (.there _ (.there _ (.there _ (.here _)))))
  replace hs := St.give (L := _) (hs.emp (A := sl 3 1 (.slice none 0 0) 0 []) (fun _ => ⟨rfl, .inl ⟨rfl, rfl⟩⟩)) (.there _ (.there _ (.there _ (.there _ (.there _ (.here _))))))
  exact diskA_close (s := newS image cap) (x := ⟨v1, v2, m, .slice none 0 0, [], 0⟩) (MOk.nil 0) Grp.nil hs

theorem upTo_spec (w : World) (k n : Int) : Calls Try.prog 56 #[.int .i64 k, .int .i64 n] w fun e w' => e = .returned (.int .i64 (max 0 (min k n))) ∧ w' = w := by
  refine c_enter (N := 9) Try.func56 rfl Try.ntmps56 (by simp) ?_
  intro a hf
  refine wp_seq ?_
  refine wp_region_lit ?_
  refine s_a hf rfl ?_; clear hf a; intro a hf
  refine s_nil ?_
  refine then_n ?_
  refine wp_seq ?_
  refine wp_region_lit ?_
  refine s_m hf rfl ?_; clear hf a; intro a hf
  refine s_m hf rfl ?_; clear hf a; intro a hf
  refine s_v hf (x_minI (hf.eval rfl) (hf.eval rfl)) ?_; clear hf a; intro a hf
  refine s_v hf (x_maxI (hf.eval rfl) (hf.eval rfl)) ?_; clear hf a; intro a hf
  refine s_a hf rfl ?_; clear hf a; intro a hf
  refine s_nil ?_
  refine then_n ?_
  refine wp_ret ?_
  refine r_1 hf Try.results56 rfl ?_
  exact ⟨rfl, rfl⟩

theorem dCrash_spec (σ : Sig) (w : World) (R : List Asrt) (p : Nat) (s : DS) (hs : St σ w (diskA 78 83 5 3 p s :: R)) (csz : Int) (ac : Option Addr) (cc : Nat) (secs : List Int) (rest : Int) (ho : DOk s) (hrc : RdyS iF 1 σ R (.slice ac secs.length cc) secs) (hsz : s.sizes.length ≤ 1099511600000) (hpc : s.pcs.length ≤ 1099511600000) : Calls Try.prog 33 #[.pointer (some ⟨p, 0, none⟩), .agg #[.int .i64 csz, .slice ac secs.length cc, .int .i64 rest]] w fun e w' => ∃ p', e = .returned (.tuple #[.pointer (some ⟨p', 0, none⟩), .int .i64 0]) ∧ St σ w' (diskA 78 83 5 3 p' (newS (outS s (csz, secs, rest)) s.room) :: diskA 78 83 5 3 p (kilS s) :: R) := by
  have hroom0 := ho.room0
  have hroom1 := ho.room1
  obtain ⟨⟨v1, v2, mp, v4, es, clk⟩, hm, hg, hs⟩ := diskA_open hs
  dsimp only at hm hg hs
  obtain ⟨a1, c1, rfl, hc1⟩ := slB_shape (hs.take (.there _ (.here _)))
  obtain ⟨a2, c2, rfl, hc2⟩ := slB_shape (hs.take (.there _ (.there _ (.here _))))
  obtain ⟨a4, c4, rfl⟩ := sl_shape (hs.take (.there _ (.there _ (.there _ (.there _ (.there _ (.here _)))))))
  refine c_enter (N := 103) Try.func33 rfl Try.ntmps33 (by simp) ?_
  intro a hf
  refine wp_seq ?_
  refine wp_region_lit ?_
  refine s_do hf rfl (y_box hs (hf.eval rfl) ?_); clear hf hs a; intro cb0 w hs a hf
  replace hs : St σ w (cb cb0 40 [.int .i64 csz, .slice ac secs.length cc, .int .i64 rest] :: _) := hs
  refine s_a hf rfl ?_; clear hf a; intro a hf
  refine s_a hf rfl ?_; clear hf a; intro a hf
  refine s_nil ?_
  refine then_n ?_
  refine wp_seq ?_
  refine wp_seq ?_
  refine wp_region_lit ?_
  refine s_m hf rfl ?_; clear hf a; intro a hf
  refine s_v hf (x_eqNil Try.underlying23 (hf.eval rfl) (hf.eval rfl)) ?_; clear hf a; intro a hf
  replace hf := hf.now (k := 15) (v' := .bool false) rfl rfl
  refine s_nil ?_
  refine then_n ?_
  refine c_cond_f hf rfl rfl ?_
  refine wp_skip ?_
  refine then_n ?_
  refine wp_seq ?_
  refine wp_region_lit ?_
  refine s_m hf rfl ?_; clear hf a; intro a hf
  refine s_v hf (x_nilCheck (hf.eval rfl)) ?_; clear hf a; intro a hf
  refine s_v hf (x_fieldAddr fo78_7 (hf.eval rfl)) ?_; clear hf a; intro a hf
  refine s_do0 hf rfl (y_store hs sc4 (hf.eval rfl) (hf.eval rfl) rfl (by first | exact .here _ | exact .there _ (.here _) | exact .there _ (.there _ (.here _)) | exact .there _ (.there _ (.there _ (.here _))) | exact .there _ (.there _ (.there _ (.there _ (.here _)))) | exact .there _ (.there _ (.there _ (.there _ (.there _ (.here _)))))) (by simp) ?_); clear hf hs a; intro w hs a hf
  replace hs : St σ w (cb cb0 _ _ :: dcell 78 p (kilS s) ⟨.slice a1 s.now.length c1, .slice a2 s.dur.length c2, mp, .slice a4 s.sizes.length c4, es, clk⟩ :: _) := hs
  refine s_nil ?_
  refine then_n ?_
  refine wp_seq ?_
  refine wp_region_lit ?_
  refine s_m hf rfl ?_; clear hf a; intro a hf
  refine s_v hf (x_nilCheck (hf.eval rfl)) ?_; clear hf a; intro a hf
  refine s_v hf (x_fieldAddr fo78_2 (hf.eval rfl)) ?_; clear hf a; intro a hf
  refine s_r hf (x_load sc22 (hf.eval rfl) (by first | exact hs.cell (.here _) rfl | exact hs.cell (.there _ (.here _)) rfl | exact hs.cell (.there _ (.there _ (.here _))) rfl | exact hs.cell (.there _ (.there _ (.there _ (.here _)))) rfl | exact hs.cell (.there _ (.there _ (.there _ (.there _ (.here _))))) rfl | exact hs.cell (.there _ (.there _ (.there _ (.there _ (.there _ (.here _)))))) rfl)) ?_; clear hf a; intro a hf
  refine s_v hf (x_len Try.underlying22 (hf.eval rfl)) ?_; clear hf a; intro a hf
  refine s_a hf rfl ?_; clear hf a; intro a hf
  refine s_nil ?_
  refine then_n ?_
  refine wp_seq ?_
  refine wp_seq ?_
  refine c_draw hs (fun _ => True) [.held, .read, .held, .held, .held, .read, .held, .eff, .held] (by kernel_rfl) (by kernel_rfl) (fun _ _ _ => trivial) ?_
  clear hs; intro w hs hC hw
  refine m_held hf rfl (fun w' _ => x_fieldAddr fo40_0 (hf.eval rfl) w') ?_; clear hf a; intro a hf
  refine m_read hf rfl (x_load sc3 (hf.eval rfl) (by first | exact hs.cell (.here _) rfl | exact hs.cell (.there _ (.here _)) rfl | exact hs.cell (.there _ (.there _ (.here _))) rfl | exact hs.cell (.there _ (.there _ (.there _ (.here _)))) rfl | exact hs.cell (.there _ (.there _ (.there _ (.there _ (.here _))))) rfl | exact hs.cell (.there _ (.there _ (.there _ (.there _ (.there _ (.here _)))))) rfl)) ?_; clear hf a; intro a hf
  refine m_held hf rfl (fun w' _ => x_move (hf.eval rfl) w') ?_; clear hf a; intro a hf
  refine m_held hf rfl (fun w' _ => x_nilCheck (hf.eval rfl) w') ?_; clear hf a; intro a hf
  refine m_held hf rfl (fun w' _ => x_fieldAddr fo78_4 (hf.eval rfl) w') ?_; clear hf a; intro a hf
  refine m_read hf rfl (x_load sc38 (hf.eval rfl) (by first | exact hs.cell (.here _) rfl | exact hs.cell (.there _ (.here _)) rfl | exact hs.cell (.there _ (.there _ (.here _))) rfl | exact hs.cell (.there _ (.there _ (.there _ (.here _)))) rfl | exact hs.cell (.there _ (.there _ (.there _ (.there _ (.here _))))) rfl | exact hs.cell (.there _ (.there _ (.there _ (.there _ (.there _ (.here _)))))) rfl)) ?_; clear hf a; intro a hf
  refine m_held hf rfl (fun w' _ => x_len Try.underlying38 (hf.eval rfl) w') ?_; clear hf a; intro a hf
  refine m_eff hf rfl (y_call (hf.eval rfl) (hf.evals rfl) Try.call56 ((upTo_spec _ csz s.sizes.length).mono ?_))
  rintro e w1 ⟨rfl, rfl⟩
  refine ⟨_, rfl, ⟨trivial, ?_⟩⟩; clear hf a; intro a hf
  refine m_held hf rfl (fun w' _ => x_assign (hf.eval rfl) w') ?_; clear hf a; intro a hf
  replace hf := hf.now (k := 7) (v' := .int .i64 (max 0 (szIx s (csz, secs, rest)))) rfl (rfl)
  refine m_nil ?_
  refine then_n ?_
  refine wp_seq ?_
  refine wp_region_lit ?_
  refine s_m hf rfl ?_; clear hf a; intro a hf
  refine s_v hf (x_bin (hf.eval rfl) (hf.eval rfl) (r_gt _ _ _ _)) ?_; clear hf a; intro a hf
  refine s_nil ?_
  refine then_n ?_
  refine c_cond hf rfl (fun hi1 => ?_) (fun hi1 => ?_)
  · simp only [decide_eq_true_eq, decide_eq_false_iff_not, Bool.not_eq_true', Bool.not_eq_false', Bool.not_eq_true, Int.not_lt, Int.not_le] at hi1
    have hix : 0 < szIx s (csz, secs, rest) := by omega
    have hix2 : szIx s (csz, secs, rest) ≤ s.sizes.length := by unfold szIx; omega
    obtain ⟨a4, rfl⟩ := sl_some (hs.take (.there _ (.there _ (.there _ (.there _ (.there _ (.there _ (.here _)))))))) (by omega)
    refine wp_region_lit ?_
    refine s_m hf rfl ?_; clear hf a; intro a hf
    refine s_v hf (x_nilCheck (hf.eval rfl)) ?_; clear hf a; intro a hf
    refine s_v hf (x_fieldAddr fo78_4 (hf.eval rfl)) ?_; clear hf a; intro a hf
    refine s_r hf (x_load sc38 (hf.eval rfl) (by first | exact hs.cell (.here _) rfl | exact hs.cell (.there _ (.here _)) rfl | exact hs.cell (.there _ (.there _ (.here _))) rfl | exact hs.cell (.there _ (.there _ (.there _ (.here _)))) rfl | exact hs.cell (.there _ (.there _ (.there _ (.there _ (.here _))))) rfl | exact hs.cell (.there _ (.there _ (.there _ (.there _ (.there _ (.here _)))))) rfl)) ?_; clear hf a; intro a hf
    refine s_m hf rfl ?_; clear hf a; intro a hf
    refine s_v hf (x_bin (hf.eval rfl) (hf.eval rfl) (r_subi _ (by omega) (by omega))) ?_; clear hf a; intro a hf
    replace hf := hf.now (k := 39) (v' := .int .i64 (((szIx s (csz, secs, rest)).toNat - 1 : Nat) : Int)) rfl (by congr 1; omega)
    refine s_v hf (x_indexAddr sl38 (hf.eval rfl) (hf.eval rfl) (by omega) (by omega)) ?_; clear hf a; intro a hf
    refine s_r hf (x_loadC hs sc3 (.there _ (.there _ (.there _ (.there _ (.there _ (.there _ (.here _))))))) (hf.eval rfl) (szC_get (i := (szIx s (csz, secs, rest)).toNat - 1) (by omega))) ?_; clear hf a; intro a hf
    refine s_a hf rfl ?_; clear hf a; intro a hf
    replace hf := hf.now (k := 6) (v' := .int .i64 (outN s (csz, secs, rest) : Int)) rfl (by rw [outN_some hix])
    refine s_nil ?_
    refine then_n ?_
    refine wp_seq ?_
    refine wp_region_lit ?_
    refine s_m hf rfl ?_; clear hf a; intro a hf
    have hoN := outN_le ho (csz, secs, rest)
    refine s_do hf rfl (y_makeB (m := outN s (csz, secs, rest)) (c := outN s (csz, secs, rest)) hs sl22 (hf.eval rfl) (hf.eval rfl) rfl rfl (Nat.le_refl _) (by omega) ?_); clear hf hs a; intro fb w hs a hf
    refine s_a hf rfl ?_; clear hf a; intro a hf
    refine s_nil ?_
    refine then_n ?_
    refine wp_seq ?_
    refine wp_region_lit ?_
    refine s_m hf rfl ?_; clear hf a; intro a hf
    refine s_m hf rfl ?_; clear hf a; intro a hf
    refine s_v hf (x_nilCheck (hf.eval rfl)) ?_; clear hf a; intro a hf
    refine s_v hf (x_fieldAddr fo78_2 (hf.eval rfl)) ?_; clear hf a; intro a hf
    refine s_r hf (x_load sc22 (hf.eval rfl) (by first | exact hs.cell (.here _) rfl | exact hs.cell (.there _ (.here _)) rfl | exact hs.cell (.there _ (.there _ (.here _))) rfl | exact hs.cell (.there _ (.there _ (.there _ (.here _)))) rfl | exact hs.cell (.there _ (.there _ (.there _ (.there _ (.here _))))) rfl | exact hs.cell (.there _ (.there _ (.there _ (.there _ (.there _ (.here _)))))) rfl)) ?_; clear hf a; intro a hf
    refine s_do hf rfl (y_copyB (o := 0) (cur' := spl (List.replicate (outN s (csz, secs, rest)) 0) 0 (s.dur.take (min s.dur.length (outN s (csz, secs, rest))))) hs sl22 (hf.eval rfl) (hf.eval rfl) (fun _ => rfl) (hs.rdB (.there _ (.there _ (.there _ (.there _ (.here _))))) fun h => slB_rd) rfl (.here _) rfl (by simp) ?_); clear hf hs a; intro w hs a hf
    obtain ⟨out0, ho0⟩ : ∃ o, o = spl (List.replicate (outN s (csz, secs, rest)) 0) 0 (s.dur.take (min s.dur.length (outN s (csz, secs, rest)))) := ⟨_, rfl⟩
    rw [← ho0] at hs
    obtain ⟨hd1, hd2⟩ := dur_start s _ ho0
    refine s_nil ?_
    refine then_n ?_
    refine wp_seq ?_
    refine wp_seq ?_
    refine wp_region_lit ?_
    refine s_m hf rfl ?_; clear hf a; intro a hf
    refine s_v hf (x_nilCheck (hf.eval rfl)) ?_; clear hf a; intro a hf
    refine s_v hf (x_fieldAddr fo78_3 (hf.eval rfl)) ?_; clear hf a; intro a hf
    refine s_r hf (x_load sc76 (hf.eval rfl) (by first | exact hs.cell (.here _) rfl | exact hs.cell (.there _ (.here _)) rfl | exact hs.cell (.there _ (.there _ (.here _))) rfl | exact hs.cell (.there _ (.there _ (.there _ (.here _)))) rfl | exact hs.cell (.there _ (.there _ (.there _ (.there _ (.here _))))) rfl | exact hs.cell (.there _ (.there _ (.there _ (.there _ (.there _ (.here _)))))) rfl)) ?_; clear hf a; intro a hf
    refine s_do hf rfl (y_range hs Try.underlying76 (hf.eval rfl) (.there _ (.there _ (.there _ (.there _ (.there _ (.here _)))))) ?_); clear hf hs a; intro r w hs a hf
    refine s_nil ?_
    refine then_n ?_
    refine wp_block ?_
    refine c_loop (L0 := [(0, _), (3, _), (4, _), (5, _), (6, _), (8, _), (54, _)]) (fun M w m => ∃ (seen : Array Nat) (out : List UInt8), M = [] ∧ (es.filter fun x => decide (x.born ∉ seen.toList)).length = m ∧ Fnd s (csz, secs, rest) es seen.toList out ∧ St σ w (blk r (.mapIter (some mp) clk seen clk) :: bb fb 5 (out) :: cb cb0 40 [.int .i64 csz, .slice ac secs.length cc, .int .i64 rest] :: dcell 78 p (kilS s) ⟨.slice a1 s.now.length c1, .slice a2 s.dur.length c2, mp, .slice a4 s.sizes.length c4, es, clk⟩ :: slB 5 (.slice a1 s.now.length c1) s.now :: slB 5 (.slice a2 s.dur.length c2) s.dur :: mapA mp es clk :: entsA 83 5 es :: sl 3 1 (.slice a4 s.sizes.length c4) s.sizes.length (szC s.sizes) :: R)) (M0 := _) (⟨#[], out0, rfl, rfl, fnd_start s (csz, secs, rest) es hd1 hd2, hs⟩) (hf.sub ⟨rfl, rfl, rfl, rfl, rfl, rfl, rfl, trivial⟩) ?_
    clear hf hs a
    rintro M m a w ⟨seen, out, rfl, rfl, hfd, hs⟩ hf
    clear hd1 hd2
    refine wp_seq ?_
    refine wp_region_lit ?_
    refine s_do hf rfl (y_nextB hs (hf.eval rfl) (.there _ (.there _ (.there _ (.there _ (.there _ (.here _)))))) hm ?_); clear hf hs a; intro b e w hs hbt hbf a hf
    refine s_v hf (x_extract (hf.eval rfl) (nxt_0 b e)) ?_; clear hf a; intro a hf
    refine s_nil ?_
    refine then_n ?_
    refine wp_seq ?_
    refine c_cond hf rfl (fun hi2 => ?_) (fun hi2 => ?_)
    · obtain ⟨he, hns⟩ := hbt hi2
      subst hi2
      replace hs : St σ w (blk r (.mapIter (some mp) clk (seen.push e.born) clk) :: bb fb 5 (out) :: cb cb0 40 [.int .i64 csz, .slice ac secs.length cc, .int .i64 rest] :: dcell 78 p (kilS s) ⟨.slice a1 s.now.length c1, .slice a2 s.dur.length c2, mp, .slice a4 s.sizes.length c4, es, clk⟩ :: slB 5 (.slice a1 s.now.length c1) s.now :: slB 5 (.slice a2 s.dur.length c2) s.dur :: mapA mp es clk :: entsA 83 5 es :: sl 3 1 (.slice a4 s.sizes.length c4) s.sizes.length (szC s.sizes) :: R) := hs
      clear hbt hbf
      obtain ⟨⟨ea, ec, hev⟩, hrd0, _⟩ := hs.ents (.there _ (.there _ (.there _ (.there _ (.there _ (.there _ (.there _ (.here _)))))))) he
      rw [hev] at hrd0
      have hec := RdC.cap hrd0
      clear hrd0
      refine wp_skip ?_
      refine then_n ?_
      refine wp_block ?_
      refine wp_seq ?_
      refine wp_region_lit ?_
      refine s_r hf (x_entry (hf.eval rfl) hs.head (hs.blk_at (.there _ (.there _ (.there _ (.there _ (.there _ (.there _ (.here _)))))))) he hm) ?_; clear hf a; intro a hf
      replace hf := hf.now (k := 57) (v' := .tuple #[.int .i64 (e.sec : Int), .slice ea e.ps.length ec]) rfl (by rw [hev])
      refine s_v hf (x_extract (hf.eval rfl) rfl) ?_; clear hf a; intro a hf
      refine s_v hf (x_extract (hf.eval rfl) rfl) ?_; clear hf a; intro a hf
      refine s_a hf rfl ?_; clear hf a; intro a hf
      refine s_a hf rfl ?_; clear hf a; intro a hf
      refine s_nil ?_
      refine then_n ?_
      refine wp_seq ?_
      refine wp_region_lit ?_
      refine s_v hf (x_fieldAddr fo40_2 (hf.eval rfl)) ?_; clear hf a; intro a hf
      refine s_r hf (x_load sc3 (hf.eval rfl) (by first | exact hs.cell (.here _) rfl | exact hs.cell (.there _ (.here _)) rfl | exact hs.cell (.there _ (.there _ (.here _))) rfl | exact hs.cell (.there _ (.there _ (.there _ (.here _)))) rfl | exact hs.cell (.there _ (.there _ (.there _ (.there _ (.here _))))) rfl | exact hs.cell (.there _ (.there _ (.there _ (.there _ (.there _ (.here _)))))) rfl)) ?_; clear hf a; intro a hf
      refine s_a hf rfl ?_; clear hf a; intro a hf
      refine s_nil ?_
      refine then_n ?_
      refine wp_seq ?_
      refine wp_seq ?_
      refine wp_region_lit ?_
      refine s_m hf rfl ?_; clear hf a; intro a hf
      refine s_v hf (x_fieldAddr fo40_1 (hf.eval rfl)) ?_; clear hf a; intro a hf
      refine s_r hf (x_load sc38 (hf.eval rfl) (by first | exact hs.cell (.here _) rfl | exact hs.cell (.there _ (.here _)) rfl | exact hs.cell (.there _ (.there _ (.here _))) rfl | exact hs.cell (.there _ (.there _ (.there _ (.here _)))) rfl | exact hs.cell (.there _ (.there _ (.there _ (.there _ (.here _))))) rfl | exact hs.cell (.there _ (.there _ (.there _ (.there _ (.there _ (.here _)))))) rfl)) ?_; clear hf a; intro a hf
      refine s_v hf (x_len Try.underlying38 (hf.eval rfl)) ?_; clear hf a; intro a hf
      refine s_v hf (x_bin (hf.eval rfl) (hf.eval rfl) (r_lt _ _ _ _)) ?_; clear hf a; intro a hf
      refine s_nil ?_
      refine then_n ?_
      refine c_cond hf rfl (fun hi3 => ?_) (fun hi3 => ?_)
      · simp only [decide_eq_true_eq, decide_eq_false_iff_not, Bool.not_eq_true', Bool.not_eq_false', Bool.not_eq_true, Int.not_lt, Int.not_le] at hi3
        have hsl : e.sec < secs.length := by omega
        have hrd := hrc _ [_, _, _, _, _, _, _, _, _] hs
        obtain ⟨ac, rfl⟩ := hrd.some (by omega)
        clear hrd
        refine wp_region_lit ?_
        refine s_v hf (x_fieldAddr fo40_1 (hf.eval rfl)) ?_; clear hf a; intro a hf
        refine s_r hf (x_load sc38 (hf.eval rfl) (by first | exact hs.cell (.here _) rfl | exact hs.cell (.there _ (.here _)) rfl | exact hs.cell (.there _ (.there _ (.here _))) rfl | exact hs.cell (.there _ (.there _ (.there _ (.here _)))) rfl | exact hs.cell (.there _ (.there _ (.there _ (.there _ (.here _))))) rfl | exact hs.cell (.there _ (.there _ (.there _ (.there _ (.there _ (.here _)))))) rfl)) ?_; clear hf a; intro a hf
        refine s_m hf rfl ?_; clear hf a; intro a hf
        refine s_v hf (x_indexAddr sl38 (hf.eval rfl) (hf.eval rfl) (by omega) (by omega)) ?_; clear hf a; intro a hf
        refine s_r hf (x_loadI sc3 (hrc _ [_, _, _, _, _, _, _, _, _] hs) rfl (hf.eval rfl) (by simpa using hsl)) ?_; clear hf a; intro a hf
        refine s_a hf rfl ?_; clear hf a; intro a hf
        replace hf := hf.now (k := 11) (v' := .int .i64 (keepOf (csz, secs, rest) e.sec)) rfl (by rw [keepOf_in (c := (csz, secs, rest)) hsl]; rfl)
        refine s_nil ?_
        refine then_n ?_
        refine wp_seq ?_
        refine wp_region_lit ?_
        refine s_m hf rfl ?_; clear hf a; intro a hf
        refine s_m hf rfl ?_; clear hf a; intro a hf
        refine s_m hf rfl ?_; clear hf a; intro a hf
        refine s_v hf (x_len Try.underlying81 (hf.eval rfl)) ?_; clear hf a; intro a hf
        refine s_do hf rfl (y_call (hf.eval rfl) (hf.evals rfl) Try.call56 ((upTo_spec _ (keepOf (csz, secs, rest) e.sec) e.ps.length).mono ?_))
        rintro e w1 ⟨rfl, rfl⟩
        obtain ⟨N, hN⟩ : ∃ N : Nat, (N : Int) = max 0 (min (keepOf (csz, secs, rest) e.sec) (e.ps.length : Int)) := ⟨(max 0 (min (keepOf (csz, secs, rest) e.sec) (e.ps.length : Int))).toNat, by omega⟩
        rw [← hN]
        have hNl : N ≤ e.ps.length := by omega
        have hpl9 := ps_len hm hg he
        have hkp : keptP s (csz, secs, rest) e.sec = (e.ps.map pcOf).take N := by rw [kept_eq hm hg he, show N = min (e.ps.map pcOf).length (keepOf (csz, secs, rest) e.sec).toNat by rw [List.length_map]; omega, take_min]
        refine ⟨_, rfl, ?_⟩; clear hf a; intro a hf
        refine s_v hf (x_slice_hi sl81 (hf.eval rfl) (hf.eval rfl)  (by omega) (by omega) ) ?_; clear hf a; intro a hf
        replace hf := hf.now (k := 77) (v' := .slice ea N ec) rfl (rfl)
        refine s_v hf (x_len Try.underlying81 (hf.eval rfl)) ?_; clear hf a; intro a hf
        refine s_m hf rfl ?_; clear hf a; intro a hf
        refine s_nil ?_
        refine then_n ?_
        refine wp_block ?_
        refine c_loop (L0 := [(0, _), (3, _), (4, _), (5, _), (6, _), (8, _), (9, _), (10, _), (11, _), (54, _), (55, _), (56, _), (57, _), (58, _), (59, _), (60, _), (61, _), (62, _), (63, _), (64, _), (65, _), (66, _), (67, _), (68, _), (69, _), (70, _), (71, _), (72, _), (73, _), (74, _), (75, _), (76, _), (77, _), (78, _)]) (fun M w m => ∃ (i : Nat), M = [(79, .int .i64 (i : Int))] ∧ N - i = m ∧ i ≤ N ∧ St σ w (blk r (.mapIter (some mp) clk (seen.push e.born) clk) :: bb fb 5 (putsP out ((e.ps.map pcOf).take i)) :: cb cb0 40 [.int .i64 csz, .slice ac secs.length cc, .int .i64 rest] :: dcell 78 p (kilS s) ⟨.slice a1 s.now.length c1, .slice a2 s.dur.length c2, mp, .slice a4 s.sizes.length c4, es, clk⟩ :: slB 5 (.slice a1 s.now.length c1) s.now :: slB 5 (.slice a2 s.dur.length c2) s.dur :: mapA mp es clk :: entsA 83 5 es :: sl 3 1 (.slice a4 s.sizes.length c4) s.sizes.length (szC s.sizes) :: R)) (M0 := [(79, .int .i64 0)]) (⟨0, rfl, rfl, Nat.zero_le _, hs⟩) (hf.sub ⟨rfl, rfl, rfl, rfl, rfl, rfl, rfl, rfl, rfl, rfl, rfl, rfl, rfl, rfl, rfl, rfl, rfl, rfl, rfl, rfl, rfl, rfl, rfl, rfl, rfl, rfl, rfl, rfl, rfl, rfl, rfl, rfl, rfl, rfl, rfl, trivial⟩) ?_
        clear hf hs a
        rintro M m a w ⟨i, rfl, rfl, hi, hs⟩ hf
        refine wp_seq ?_
        refine wp_region_lit ?_
        refine s_v hf (x_bin (hf.eval rfl) (hf.eval rfl) (r_lt _ _ _ _)) ?_; clear hf a; intro a hf
        refine s_nil ?_
        refine then_n ?_
        refine wp_seq ?_
        refine c_cond hf rfl (fun hi4 => ?_) (fun hi4 => ?_)
        · simp only [decide_eq_true_eq, decide_eq_false_iff_not, Bool.not_eq_true', Bool.not_eq_false', Bool.not_eq_true, Int.not_lt, Int.not_le] at hi4
          have hlt : i < N := by omega
          have hlt2 : i < e.ps.length := by omega
          have hlm : i < (e.ps.map pcOf).length := by rw [List.length_map]; omega
          obtain ⟨_, hrd, hdt⟩ := hs.ents (.there _ (.there _ (.there _ (.there _ (.there _ (.there _ (.there _ (.here _)))))))) he
          rw [hev] at hrd
          replace hrd := RdS.pre (f := pcF) (sz := 2) (fun _ => rfl) hrd hNl
          have hltk : (e.ps.take N)[i]'(by rw [List.length_take]; omega) = e.ps[i] := List.getElem_take ..
          obtain ⟨ea, rfl⟩ := hrd.some (by rw [List.length_take]; omega)
          have hpd := hdt _ (List.getElem_mem hlt2)
          clear hdt
          have hok9 := ho.pcs
          have hlo : (putsP out ((e.ps.map pcOf).take i)).length = outN s (csz, secs, rest) := by rw [putsP_len]; exact hfd.1
          refine wp_skip ?_
          refine then_n ?_
          refine wp_seq ?_
          refine wp_block ?_
          refine wp_seq ?_
          refine wp_region_lit ?_
          refine s_v hf (x_indexAddr sl81 (hf.eval rfl) (hf.eval rfl) (by omega) (by omega)) ?_; clear hf a; intro a hf
          refine s_r hf (x_loadS (f := pcF) ag83 (fun _ => rfl) hrd (hf.eval rfl) (by simp; omega)) ?_; clear hf a; intro a hf
          replace hf := hf.now (k := 82) (v' := .agg (pcF e.ps[i]).toArray) rfl (by rw [← hltk]; rfl)
          refine s_do hf rfl (y_alloc hs Try.zeroValue83 ?_); clear hf hs a; intro b7 w hs a hf
          change St _ _ (cb b7 83 [.int .i64 0, .slice none 0 0] :: _) at hs
          refine s_do0 hf rfl (y_storeAgg (cs := pcF e.ps[i]) hs (n := 2) (by kernel_rfl) (hf.eval rfl) (hf.eval rfl) (pcF_one hpd) rfl rfl (.here _) ?_); clear hf hs a; intro w hs a hf
          refine s_nil ?_
          refine then_n ?_
          refine wp_seq ?_
          refine wp_region_lit ?_
          refine s_v hf (x_fieldAddr fo83_0 (hf.eval rfl)) ?_; clear hf a; intro a hf
          refine s_r hf (x_load sc3 (hf.eval rfl) (by first | exact hs.cell (.here _) rfl | exact hs.cell (.there _ (.here _)) rfl | exact hs.cell (.there _ (.there _ (.here _))) rfl | exact hs.cell (.there _ (.there _ (.there _ (.here _)))) rfl | exact hs.cell (.there _ (.there _ (.there _ (.there _ (.here _))))) rfl | exact hs.cell (.there _ (.there _ (.there _ (.there _ (.there _ (.here _)))))) rfl)) ?_; clear hf a; intro a hf
          refine s_m hf rfl ?_; clear hf a; intro a hf
          refine s_v hf (x_bin (hf.eval rfl) (hf.eval rfl) (r_lt _ _ _ _)) ?_; clear hf a; intro a hf
          refine s_nil ?_
          refine then_n ?_
          refine c_cond hf rfl (fun hi5 => ?_) (fun hi5 => ?_)
          · simp only [decide_eq_true_eq, decide_eq_false_iff_not, Bool.not_eq_true', Bool.not_eq_false', Bool.not_eq_true, Int.not_lt, Int.not_le] at hi5
            have hat5 : e.ps[i].1 < outN s (csz, secs, rest) := by omega
            refine c_draw hs (fun _ => True) [.held, .held, .read, .held, .held, .read, .fin] (by kernel_rfl) (by kernel_rfl) (fun _ _ _ => trivial) ?_
            clear hs; intro w hs hC hw
            refine m_held hf rfl (fun w' _ => x_move (hf.eval rfl) w') ?_; clear hf a; intro a hf
            refine m_held hf rfl (fun w' _ => x_fieldAddr fo83_0 (hf.eval rfl) w') ?_; clear hf a; intro a hf
            refine m_read hf rfl (x_load sc3 (hf.eval rfl) (by first | exact hs.cell (.here _) rfl | exact hs.cell (.there _ (.here _)) rfl | exact hs.cell (.there _ (.there _ (.here _))) rfl | exact hs.cell (.there _ (.there _ (.there _ (.here _)))) rfl | exact hs.cell (.there _ (.there _ (.there _ (.there _ (.here _))))) rfl | exact hs.cell (.there _ (.there _ (.there _ (.there _ (.there _ (.here _)))))) rfl)) ?_; clear hf a; intro a hf
            refine m_held hf rfl (fun w' _ => x_slice_lo sl22 (hf.eval rfl) (hf.eval rfl)  (by omega) (by omega)  w') ?_; clear hf a; intro a hf
            replace hf := hf.now (k := 90) (v' := .slice (some ⟨fb, e.ps[i].1, none⟩) (outN s (csz, secs, rest) - e.ps[i].1) (outN s (csz, secs, rest) - e.ps[i].1)) rfl (by rw [Int.toNat_natCast, subA_at hat5])
            refine m_held hf rfl (fun w' _ => x_fieldAddr fo83_1 (hf.eval rfl) w') ?_; clear hf a; intro a hf
            refine m_read hf rfl (x_load sc22 (hf.eval rfl) (by first | exact hs.cell (.here _) rfl | exact hs.cell (.there _ (.here _)) rfl | exact hs.cell (.there _ (.there _ (.here _))) rfl | exact hs.cell (.there _ (.there _ (.there _ (.here _)))) rfl | exact hs.cell (.there _ (.there _ (.there _ (.there _ (.here _))))) rfl | exact hs.cell (.there _ (.there _ (.there _ (.there _ (.there _ (.here _)))))) rfl)) ?_; clear hf a; intro a hf
            refine m_fin hf rfl (y_copyB (o := e.ps[i].1) (cur' := putP (putsP out ((e.ps.map pcOf).take i)) (pcOf e.ps[i])) hs sl22 (hf.eval rfl) (hf.eval rfl) (fun _ => rfl) ((hs.ents (.there _ (.there _ (.there _ (.there _ (.there _ (.there _ (.there _ (.there _ (.here _))))))))) he).2.2 _ (List.getElem_mem hlt2)) rfl (.there _ (.there _ (.here _))) (by rw [putP_in (p := pcOf e.ps[i]) (by rw [hlo]; exact hat5), hlo]; rfl) (by rw [hlo]; omega) ?_); clear hf hs a; intro w hs; intro a hf
            have hs9 := hs.drop
            refine blk_n ?_
            refine then_n ?_
            refine wp_region_lit ?_
            refine s_v hf (x_bin (hf.eval rfl) (hf.eval rfl) (r_addi _ (by omega) (by omega))) ?_; clear hf a; intro a hf
            refine s_m hf rfl ?_; clear hf a; intro a hf
            refine s_nil ?_
            exact ⟨_, _, ⟨i + 1, rfl, rfl, by omega, by rw [putsP_take hlm, List.getElem_map]; exact hs9⟩, by omega, hf.sub ⟨rfl, rfl, rfl, rfl, rfl, rfl, rfl, rfl, rfl, rfl, rfl, rfl, rfl, rfl, rfl, rfl, rfl, rfl, rfl, rfl, rfl, rfl, rfl, rfl, rfl, rfl, rfl, rfl, rfl, rfl, rfl, rfl, rfl, rfl, rfl, trivial⟩⟩
          · simp only [decide_eq_true_eq, decide_eq_false_iff_not, Bool.not_eq_true', Bool.not_eq_false', Bool.not_eq_true, Int.not_lt, Int.not_le] at hi5
            have hs9 : St σ w (blk r (.mapIter (some mp) clk (seen.push e.born) clk) :: bb fb 5 (putP (putsP out ((e.ps.map pcOf).take i)) (pcOf e.ps[i])) :: cb cb0 40 [.int .i64 csz, .slice ac secs.length cc, .int .i64 rest] :: dcell 78 p (kilS s) ⟨.slice a1 s.now.length c1, .slice a2 s.dur.length c2, mp, .slice a4 s.sizes.length c4, es, clk⟩ :: slB 5 (.slice a1 s.now.length c1) s.now :: slB 5 (.slice a2 s.dur.length c2) s.dur :: mapA mp es clk :: entsA 83 5 es :: sl 3 1 (.slice a4 s.sizes.length c4) s.sizes.length (szC s.sizes) :: R) := by rw [putP_out (p := pcOf e.ps[i]) (by rw [hlo]; show outN s (csz, secs, rest) ≤ e.ps[i].1; omega)]; exact hs.drop
            refine wp_skip ?_
            refine blk_n ?_
            refine then_n ?_
            refine wp_region_lit ?_
            refine s_v hf (x_bin (hf.eval rfl) (hf.eval rfl) (r_addi _ (by omega) (by omega))) ?_; clear hf a; intro a hf
            refine s_m hf rfl ?_; clear hf a; intro a hf
            refine s_nil ?_
            exact ⟨_, _, ⟨i + 1, rfl, rfl, by omega, by rw [putsP_take hlm, List.getElem_map]; exact hs9⟩, by omega, hf.sub ⟨rfl, rfl, rfl, rfl, rfl, rfl, rfl, rfl, rfl, rfl, rfl, rfl, rfl, rfl, rfl, rfl, rfl, rfl, rfl, rfl, rfl, rfl, rfl, rfl, rfl, rfl, rfl, rfl, rfl, rfl, rfl, rfl, rfl, rfl, rfl, trivial⟩⟩
        · simp only [decide_eq_true_eq, decide_eq_false_iff_not, Bool.not_eq_true', Bool.not_eq_false', Bool.not_eq_true, Int.not_lt, Int.not_le] at hi4
          have hN9 : N = i := by omega
          refine wp_exit ?_
          refine then_x ?_
          refine then_x ?_
          refine blk_x ?_
          refine blk_n ?_
          obtain rfl : i = N := by omega
          have hfd2 := fnd_step ho hm hfd he hns
          exact ⟨_, _, ⟨seen.push e.born, putsP out (keptP s (csz, secs, rest) e.sec), rfl, rfl, by simpa using hfd2, by rw [hkp, ← hN9]; exact hs⟩, unseen_lt he hns, hf.sub ⟨rfl, rfl, rfl, rfl, rfl, rfl, rfl, trivial⟩⟩
      · simp only [decide_eq_true_eq, decide_eq_false_iff_not, Bool.not_eq_true', Bool.not_eq_false', Bool.not_eq_true, Int.not_lt, Int.not_le] at hi3
        replace hf := hf.now (k := 11) (v' := .int .i64 (keepOf (csz, secs, rest) e.sec)) rfl (by rw [keepOf_out (by simp only; omega)])
        refine wp_skip ?_
        refine then_n ?_
        refine wp_seq ?_
        refine wp_region_lit ?_
        refine s_m hf rfl ?_; clear hf a; intro a hf
        refine s_m hf rfl ?_; clear hf a; intro a hf
        refine s_m hf rfl ?_; clear hf a; intro a hf
        refine s_v hf (x_len Try.underlying81 (hf.eval rfl)) ?_; clear hf a; intro a hf
        refine s_do hf rfl (y_call (hf.eval rfl) (hf.evals rfl) Try.call56 ((upTo_spec _ (keepOf (csz, secs, rest) e.sec) e.ps.length).mono ?_))
        rintro e w1 ⟨rfl, rfl⟩
        obtain ⟨N, hN⟩ : ∃ N : Nat, (N : Int) = max 0 (min (keepOf (csz, secs, rest) e.sec) (e.ps.length : Int)) := ⟨(max 0 (min (keepOf (csz, secs, rest) e.sec) (e.ps.length : Int))).toNat, by omega⟩
        rw [← hN]
        have hNl : N ≤ e.ps.length := by omega
        have hpl9 := ps_len hm hg he
        have hkp : keptP s (csz, secs, rest) e.sec = (e.ps.map pcOf).take N := by rw [kept_eq hm hg he, show N = min (e.ps.map pcOf).length (keepOf (csz, secs, rest) e.sec).toNat by rw [List.length_map]; omega, take_min]
        refine ⟨_, rfl, ?_⟩; clear hf a; intro a hf
        refine s_v hf (x_slice_hi sl81 (hf.eval rfl) (hf.eval rfl)  (by omega) (by omega) ) ?_; clear hf a; intro a hf
        replace hf := hf.now (k := 77) (v' := .slice ea N ec) rfl (rfl)
        refine s_v hf (x_len Try.underlying81 (hf.eval rfl)) ?_; clear hf a; intro a hf
        refine s_m hf rfl ?_; clear hf a; intro a hf
        refine s_nil ?_
        refine then_n ?_
        refine wp_block ?_
        refine c_loop (L0 := [(0, _), (3, _), (4, _), (5, _), (6, _), (8, _), (9, _), (10, _), (11, _), (54, _), (55, _), (56, _), (57, _), (58, _), (59, _), (60, _), (61, _), (62, _), (63, _), (64, _), (65, _), (66, _), (72, _), (73, _), (74, _), (75, _), (76, _), (77, _), (78, _)]) (fun M w m => ∃ (i : Nat), M = [(79, .int .i64 (i : Int))] ∧ N - i = m ∧ i ≤ N ∧ St σ w (blk r (.mapIter (some mp) clk (seen.push e.born) clk) :: bb fb 5 (putsP out ((e.ps.map pcOf).take i)) :: cb cb0 40 [.int .i64 csz, .slice ac secs.length cc, .int .i64 rest] :: dcell 78 p (kilS s) ⟨.slice a1 s.now.length c1, .slice a2 s.dur.length c2, mp, .slice a4 s.sizes.length c4, es, clk⟩ :: slB 5 (.slice a1 s.now.length c1) s.now :: slB 5 (.slice a2 s.dur.length c2) s.dur :: mapA mp es clk :: entsA 83 5 es :: sl 3 1 (.slice a4 s.sizes.length c4) s.sizes.length (szC s.sizes) :: R)) (M0 := [(79, .int .i64 0)]) (⟨0, rfl, rfl, Nat.zero_le _, hs⟩) (hf.sub ⟨rfl, rfl, rfl, rfl, rfl, rfl, rfl, rfl, rfl, rfl, rfl, rfl, rfl, rfl, rfl, rfl, rfl, rfl, rfl, rfl, rfl, rfl, rfl, rfl, rfl, rfl, rfl, rfl, rfl, rfl, trivial⟩) ?_
        clear hf hs a
        rintro M m a w ⟨i, rfl, rfl, hi, hs⟩ hf
        refine wp_seq ?_
        refine wp_region_lit ?_
        refine s_v hf (x_bin (hf.eval rfl) (hf.eval rfl) (r_lt _ _ _ _)) ?_; clear hf a; intro a hf
        refine s_nil ?_
        refine then_n ?_
        refine wp_seq ?_
        refine c_cond hf rfl (fun hi4 => ?_) (fun hi4 => ?_)
        · simp only [decide_eq_true_eq, decide_eq_false_iff_not, Bool.not_eq_true', Bool.not_eq_false', Bool.not_eq_true, Int.not_lt, Int.not_le] at hi4
          have hlt : i < N := by omega
          have hlt2 : i < e.ps.length := by omega
          have hlm : i < (e.ps.map pcOf).length := by rw [List.length_map]; omega
          obtain ⟨_, hrd, hdt⟩ := hs.ents (.there _ (.there _ (.there _ (.there _ (.there _ (.there _ (.there _ (.here _)))))))) he
          rw [hev] at hrd
          replace hrd := RdS.pre (f := pcF) (sz := 2) (fun _ => rfl) hrd hNl
          have hltk : (e.ps.take N)[i]'(by rw [List.length_take]; omega) = e.ps[i] := List.getElem_take ..
          obtain ⟨ea, rfl⟩ := hrd.some (by rw [List.length_take]; omega)
          have hpd := hdt _ (List.getElem_mem hlt2)
          clear hdt
          have hok9 := ho.pcs
          have hlo : (putsP out ((e.ps.map pcOf).take i)).length = outN s (csz, secs, rest) := by rw [putsP_len]; exact hfd.1
          refine wp_skip ?_
          refine then_n ?_
          refine wp_seq ?_
          refine wp_block ?_
          refine wp_seq ?_
          refine wp_region_lit ?_
          refine s_v hf (x_indexAddr sl81 (hf.eval rfl) (hf.eval rfl) (by omega) (by omega)) ?_; clear hf a; intro a hf
          refine s_r hf (x_loadS (f := pcF) ag83 (fun _ => rfl) hrd (hf.eval rfl) (by simp; omega)) ?_; clear hf a; intro a hf
          replace hf := hf.now (k := 82) (v' := .agg (pcF e.ps[i]).toArray) rfl (by rw [← hltk]; rfl)
          refine s_do hf rfl (y_alloc hs Try.zeroValue83 ?_); clear hf hs a; intro b7 w hs a hf
          change St _ _ (cb b7 83 [.int .i64 0, .slice none 0 0] :: _) at hs
          refine s_do0 hf rfl (y_storeAgg (cs := pcF e.ps[i]) hs (n := 2) (by kernel_rfl) (hf.eval rfl) (hf.eval rfl) (pcF_one hpd) rfl rfl (.here _) ?_); clear hf hs a; intro w hs a hf
          refine s_nil ?_
          refine then_n ?_
          refine wp_seq ?_
          refine wp_region_lit ?_
          refine s_v hf (x_fieldAddr fo83_0 (hf.eval rfl)) ?_; clear hf a; intro a hf
          refine s_r hf (x_load sc3 (hf.eval rfl) (by first | exact hs.cell (.here _) rfl | exact hs.cell (.there _ (.here _)) rfl | exact hs.cell (.there _ (.there _ (.here _))) rfl | exact hs.cell (.there _ (.there _ (.there _ (.here _)))) rfl | exact hs.cell (.there _ (.there _ (.there _ (.there _ (.here _))))) rfl | exact hs.cell (.there _ (.there _ (.there _ (.there _ (.there _ (.here _)))))) rfl)) ?_; clear hf a; intro a hf
          refine s_m hf rfl ?_; clear hf a; intro a hf
          refine s_v hf (x_bin (hf.eval rfl) (hf.eval rfl) (r_lt _ _ _ _)) ?_; clear hf a; intro a hf
          refine s_nil ?_
          refine then_n ?_
          refine c_cond hf rfl (fun hi5 => ?_) (fun hi5 => ?_)
          · simp only [decide_eq_true_eq, decide_eq_false_iff_not, Bool.not_eq_true', Bool.not_eq_false', Bool.not_eq_true, Int.not_lt, Int.not_le] at hi5
            have hat5 : e.ps[i].1 < outN s (csz, secs, rest) := by omega
            refine c_draw hs (fun _ => True) [.held, .held, .read, .held, .held, .read, .fin] (by kernel_rfl) (by kernel_rfl) (fun _ _ _ => trivial) ?_
            clear hs; intro w hs hC hw
            refine m_held hf rfl (fun w' _ => x_move (hf.eval rfl) w') ?_; clear hf a; intro a hf
            refine m_held hf rfl (fun w' _ => x_fieldAddr fo83_0 (hf.eval rfl) w') ?_; clear hf a; intro a hf
            refine m_read hf rfl (x_load sc3 (hf.eval rfl) (by first | exact hs.cell (.here _) rfl | exact hs.cell (.there _ (.here _)) rfl | exact hs.cell (.there _ (.there _ (.here _))) rfl | exact hs.cell (.there _ (.there _ (.there _ (.here _)))) rfl | exact hs.cell (.there _ (.there _ (.there _ (.there _ (.here _))))) rfl | exact hs.cell (.there _ (.there _ (.there _ (.there _ (.there _ (.here _)))))) rfl)) ?_; clear hf a; intro a hf
            refine m_held hf rfl (fun w' _ => x_slice_lo sl22 (hf.eval rfl) (hf.eval rfl)  (by omega) (by omega)  w') ?_; clear hf a; intro a hf
            replace hf := hf.now (k := 90) (v' := .slice (some ⟨fb, e.ps[i].1, none⟩) (outN s (csz, secs, rest) - e.ps[i].1) (outN s (csz, secs, rest) - e.ps[i].1)) rfl (by rw [Int.toNat_natCast, subA_at hat5])
            refine m_held hf rfl (fun w' _ => x_fieldAddr fo83_1 (hf.eval rfl) w') ?_; clear hf a; intro a hf
            refine m_read hf rfl (x_load sc22 (hf.eval rfl) (by first | exact hs.cell (.here _) rfl | exact hs.cell (.there _ (.here _)) rfl | exact hs.cell (.there _ (.there _ (.here _))) rfl | exact hs.cell (.there _ (.there _ (.there _ (.here _)))) rfl | exact hs.cell (.there _ (.there _ (.there _ (.there _ (.here _))))) rfl | exact hs.cell (.there _ (.there _ (.there _ (.there _ (.there _ (.here _)))))) rfl)) ?_; clear hf a; intro a hf
            refine m_fin hf rfl (y_copyB (o := e.ps[i].1) (cur' := putP (putsP out ((e.ps.map pcOf).take i)) (pcOf e.ps[i])) hs sl22 (hf.eval rfl) (hf.eval rfl) (fun _ => rfl) ((hs.ents (.there _ (.there _ (.there _ (.there _ (.there _ (.there _ (.there _ (.there _ (.here _))))))))) he).2.2 _ (List.getElem_mem hlt2)) rfl (.there _ (.there _ (.here _))) (by rw [putP_in (p := pcOf e.ps[i]) (by rw [hlo]; exact hat5), hlo]; rfl) (by rw [hlo]; omega) ?_); clear hf hs a; intro w hs; intro a hf
            have hs9 := hs.drop
            refine blk_n ?_
            refine then_n ?_
            refine wp_region_lit ?_
            refine s_v hf (x_bin (hf.eval rfl) (hf.eval rfl) (r_addi _ (by omega) (by omega))) ?_; clear hf a; intro a hf
            refine s_m hf rfl ?_; clear hf a; intro a hf
            refine s_nil ?_
            exact ⟨_, _, ⟨i + 1, rfl, rfl, by omega, by rw [putsP_take hlm, List.getElem_map]; exact hs9⟩, by omega, hf.sub ⟨rfl, rfl, rfl, rfl, rfl, rfl, rfl, rfl, rfl, rfl, rfl, rfl, rfl, rfl, rfl, rfl, rfl, rfl, rfl, rfl, rfl, rfl, rfl, rfl, rfl, rfl, rfl, rfl, rfl, rfl, trivial⟩⟩
          · simp only [decide_eq_true_eq, decide_eq_false_iff_not, Bool.not_eq_true', Bool.not_eq_false', Bool.not_eq_true, Int.not_lt, Int.not_le] at hi5
            have hs9 : St σ w (blk r (.mapIter (some mp) clk (seen.push e.born) clk) :: bb fb 5 (putP (putsP out ((e.ps.map pcOf).take i)) (pcOf e.ps[i])) :: cb cb0 40 [.int .i64 csz, .slice ac secs.length cc, .int .i64 rest] :: dcell 78 p (kilS s) ⟨.slice a1 s.now.length c1, .slice a2 s.dur.length c2, mp, .slice a4 s.sizes.length c4, es, clk⟩ :: slB 5 (.slice a1 s.now.length c1) s.now :: slB 5 (.slice a2 s.dur.length c2) s.dur :: mapA mp es clk :: entsA 83 5 es :: sl 3 1 (.slice a4 s.sizes.length c4) s.sizes.length (szC s.sizes) :: R) := by rw [putP_out (p := pcOf e.ps[i]) (by rw [hlo]; show outN s (csz, secs, rest) ≤ e.ps[i].1; omega)]; exact hs.drop
            refine wp_skip ?_
            refine blk_n ?_
            refine then_n ?_
            refine wp_region_lit ?_
            refine s_v hf (x_bin (hf.eval rfl) (hf.eval rfl) (r_addi _ (by omega) (by omega))) ?_; clear hf a; intro a hf
            refine s_m hf rfl ?_; clear hf a; intro a hf
            refine s_nil ?_
            exact ⟨_, _, ⟨i + 1, rfl, rfl, by omega, by rw [putsP_take hlm, List.getElem_map]; exact hs9⟩, by omega, hf.sub ⟨rfl, rfl, rfl, rfl, rfl, rfl, rfl, rfl, rfl, rfl, rfl, rfl, rfl, rfl, rfl, rfl, rfl, rfl, rfl, rfl, rfl, rfl, rfl, rfl, rfl, rfl, rfl, rfl, rfl, rfl, trivial⟩⟩
        · simp only [decide_eq_true_eq, decide_eq_false_iff_not, Bool.not_eq_true', Bool.not_eq_false', Bool.not_eq_true, Int.not_lt, Int.not_le] at hi4
          have hN9 : N = i := by omega
          refine wp_exit ?_
          refine then_x ?_
          refine then_x ?_
          refine blk_x ?_
          refine blk_n ?_
          obtain rfl : i = N := by omega
          have hfd2 := fnd_step ho hm hfd he hns
          exact ⟨_, _, ⟨seen.push e.born, putsP out (keptP s (csz, secs, rest) e.sec), rfl, rfl, by simpa using hfd2, by rw [hkp, ← hN9]; exact hs⟩, unseen_lt he hns, hf.sub ⟨rfl, rfl, rfl, rfl, rfl, rfl, rfl, trivial⟩⟩
    · have hall := hbf hi2
      subst hi2
      replace hs : St σ w (blk r (.mapIter (some mp) clk seen clk) :: bb fb 5 (out) :: cb cb0 40 [.int .i64 csz, .slice ac secs.length cc, .int .i64 rest] :: dcell 78 p (kilS s) ⟨.slice a1 s.now.length c1, .slice a2 s.dur.length c2, mp, .slice a4 s.sizes.length c4, es, clk⟩ :: slB 5 (.slice a1 s.now.length c1) s.now :: slB 5 (.slice a2 s.dur.length c2) s.dur :: mapA mp es clk :: entsA 83 5 es :: sl 3 1 (.slice a4 s.sizes.length c4) s.sizes.length (szC s.sizes) :: R) := hs
      clear hbt hbf
      obtain rfl := fnd_end hg hfd hall
      refine wp_exit ?_
      refine then_x ?_
      refine then_x ?_
      refine blk_x ?_
      refine then_n ?_
      refine wp_seq ?_
      refine wp_region_lit ?_
      refine s_m hf rfl ?_; clear hf a; intro a hf
      replace hf := hf.now (k := 95) (v' := .slice (some ⟨fb, 0, none⟩) (outS s (csz, secs, rest)).length (outN s (csz, secs, rest))) rfl (by rw [outS_length])
      refine s_m hf rfl ?_; clear hf a; intro a hf
      refine s_v hf (x_nilCheck (hf.eval rfl)) ?_; clear hf a; intro a hf
      refine s_v hf (x_fieldAddr fo78_0 (hf.eval rfl)) ?_; clear hf a; intro a hf
      refine s_r hf (x_load sc3 (hf.eval rfl) (by first | exact hs.cell (.here _) rfl | exact hs.cell (.there _ (.here _)) rfl | exact hs.cell (.there _ (.there _ (.here _))) rfl | exact hs.cell (.there _ (.there _ (.there _ (.here _)))) rfl | exact hs.cell (.there _ (.there _ (.there _ (.there _ (.here _))))) rfl | exact hs.cell (.there _ (.there _ (.there _ (.there _ (.there _ (.here _)))))) rfl)) ?_; clear hf a; intro a hf
      refine s_do hf rfl (y_call (hf.eval rfl) (hf.evals rfl) Try.call36 ((dNew_in _ _ _ (outS s (csz, secs, rest)) (hs.rdB (.there _ (.here _)) (fun h hb => by have h9 := rdB_of_bb hb (Nat.le_refl (outS s (csz, secs, rest)).length) (c := outN s (csz, secs, rest)) (by rw [outS_length]; exact Nat.le_refl _); rwa [List.take_length] at h9)) (by rw [outS_length]; omega) s.room hroom0 hroom1 (by rw [outS_length]; exact hoN)).mono ?_))
      rintro e w1 ⟨p2, rfl, hj⟩
      replace hs := hs.join hj
      simp only [List.cons_append, List.nil_append] at hs
      refine ⟨_, rfl, ?_⟩; clear hf a; intro a hf
      refine s_v hf (x_extract (hf.eval rfl) rfl) ?_; clear hf a; intro a hf
      refine s_v hf (x_extract (hf.eval rfl) rfl) ?_; clear hf a; intro a hf
      refine s_a hf rfl ?_; clear hf a; intro a hf
      refine s_a hf rfl ?_; clear hf a; intro a hf
      refine s_nil ?_
      refine then_n ?_
      refine wp_ret ?_
      refine r_2 hf Try.results33 rfl rfl ?_
      refine ⟨p2, rfl, ?_⟩
      replace hs := St.give (L := _) (((hs.lose (.there _ (.here _))).lose (.there _ (.here _))).lose (.there _ (.here _))) (.there _ (.there _ (.there _ (.there _ (.there _ (.there _ (.here _)))))))
      exact (diskA_close (s := kilS s) (x := ⟨.slice a1 s.now.length c1, .slice a2 s.dur.length c2, mp, .slice a4 s.sizes.length c4, es, clk⟩) hm hg hs).take (.there _ (.here _))
  · simp only [decide_eq_true_eq, decide_eq_false_iff_not, Bool.not_eq_true', Bool.not_eq_false', Bool.not_eq_true, Int.not_lt, Int.not_le] at hi1
    have hix : ¬ 0 < szIx s (csz, secs, rest) := by omega
    replace hf := hf.now (k := 6) (v' := .int .i64 (outN s (csz, secs, rest) : Int)) rfl (by rw [outN_none hix])
    refine wp_skip ?_
    refine then_n ?_
    refine wp_seq ?_
    refine wp_region_lit ?_
    refine s_m hf rfl ?_; clear hf a; intro a hf
    have hoN := outN_le ho (csz, secs, rest)
    refine s_do hf rfl (y_makeB (m := outN s (csz, secs, rest)) (c := outN s (csz, secs, rest)) hs sl22 (hf.eval rfl) (hf.eval rfl) rfl rfl (Nat.le_refl _) (by omega) ?_); clear hf hs a; intro fb w hs a hf
    refine s_a hf rfl ?_; clear hf a; intro a hf
    refine s_nil ?_
    refine then_n ?_
    refine wp_seq ?_
    refine wp_region_lit ?_
    refine s_m hf rfl ?_; clear hf a; intro a hf
    refine s_m hf rfl ?_; clear hf a; intro a hf
    refine s_v hf (x_nilCheck (hf.eval rfl)) ?_; clear hf a; intro a hf
    refine s_v hf (x_fieldAddr fo78_2 (hf.eval rfl)) ?_; clear hf a; intro a hf
    refine s_r hf (x_load sc22 (hf.eval rfl) (by first | exact hs.cell (.here _) rfl | exact hs.cell (.there _ (.here _)) rfl | exact hs.cell (.there _ (.there _ (.here _))) rfl | exact hs.cell (.there _ (.there _ (.there _ (.here _)))) rfl | exact hs.cell (.there _ (.there _ (.there _ (.there _ (.here _))))) rfl | exact hs.cell (.there _ (.there _ (.there _ (.there _ (.there _ (.here _)))))) rfl)) ?_; clear hf a; intro a hf
    refine s_do hf rfl (y_copyB (o := 0) (cur' := spl (List.replicate (outN s (csz, secs, rest)) 0) 0 (s.dur.take (min s.dur.length (outN s (csz, secs, rest))))) hs sl22 (hf.eval rfl) (hf.eval rfl) (fun _ => rfl) (hs.rdB (.there _ (.there _ (.there _ (.there _ (.here _))))) fun h => slB_rd) rfl (.here _) rfl (by simp) ?_); clear hf hs a; intro w hs a hf
    obtain ⟨out0, ho0⟩ : ∃ o, o = spl (List.replicate (outN s (csz, secs, rest)) 0) 0 (s.dur.take (min s.dur.length (outN s (csz, secs, rest)))) := ⟨_, rfl⟩
    rw [← ho0] at hs
    obtain ⟨hd1, hd2⟩ := dur_start s _ ho0
    refine s_nil ?_
    refine then_n ?_
    refine wp_seq ?_
    refine wp_seq ?_
    refine wp_region_lit ?_
    refine s_m hf rfl ?_; clear hf a; intro a hf
    refine s_v hf (x_nilCheck (hf.eval rfl)) ?_; clear hf a; intro a hf
    refine s_v hf (x_fieldAddr fo78_3 (hf.eval rfl)) ?_; clear hf a; intro a hf
    refine s_r hf (x_load sc76 (hf.eval rfl) (by first | exact hs.cell (.here _) rfl | exact hs.cell (.there _ (.here _)) rfl | exact hs.cell (.there _ (.there _ (.here _))) rfl | exact hs.cell (.there _ (.there _ (.there _ (.here _)))) rfl | exact hs.cell (.there _ (.there _ (.there _ (.there _ (.here _))))) rfl | exact hs.cell (.there _ (.there _ (.there _ (.there _ (.there _ (.here _)))))) rfl)) ?_; clear hf a; intro a hf
    refine s_do hf rfl (y_range hs Try.underlying76 (hf.eval rfl) (.there _ (.there _ (.there _ (.there _ (.there _ (.here _)))))) ?_); clear hf hs a; intro r w hs a hf
    refine s_nil ?_
    refine then_n ?_
    refine wp_block ?_
    refine c_loop (L0 := [(0, _), (3, _), (4, _), (5, _), (6, _), (8, _), (54, _)]) (fun M w m => ∃ (seen : Array Nat) (out : List UInt8), M = [] ∧ (es.filter fun x => decide (x.born ∉ seen.toList)).length = m ∧ Fnd s (csz, secs, rest) es seen.toList out ∧ St σ w (blk r (.mapIter (some mp) clk seen clk) :: bb fb 5 (out) :: cb cb0 40 [.int .i64 csz, .slice ac secs.length cc, .int .i64 rest] :: dcell 78 p (kilS s) ⟨.slice a1 s.now.length c1, .slice a2 s.dur.length c2, mp, .slice a4 s.sizes.length c4, es, clk⟩ :: slB 5 (.slice a1 s.now.length c1) s.now :: slB 5 (.slice a2 s.dur.length c2) s.dur :: mapA mp es clk :: entsA 83 5 es :: sl 3 1 (.slice a4 s.sizes.length c4) s.sizes.length (szC s.sizes) :: R)) (M0 := _) (⟨#[], out0, rfl, rfl, fnd_start s (csz, secs, rest) es hd1 hd2, hs⟩) (hf.sub ⟨rfl, rfl, rfl, rfl, rfl, rfl, rfl, trivial⟩) ?_
    clear hf hs a
    rintro M m a w ⟨seen, out, rfl, rfl, hfd, hs⟩ hf
    clear hd1 hd2
    refine wp_seq ?_
    refine wp_region_lit ?_
    refine s_do hf rfl (y_nextB hs (hf.eval rfl) (.there _ (.there _ (.there _ (.there _ (.there _ (.here _)))))) hm ?_); clear hf hs a; intro b e w hs hbt hbf a hf
    refine s_v hf (x_extract (hf.eval rfl) (nxt_0 b e)) ?_; clear hf a; intro a hf
    refine s_nil ?_
    refine then_n ?_
    refine wp_seq ?_
    refine c_cond hf rfl (fun hi2 => ?_) (fun hi2 => ?_)
    · obtain ⟨he, hns⟩ := hbt hi2
      subst hi2
      replace hs : St σ w (blk r (.mapIter (some mp) clk (seen.push e.born) clk) :: bb fb 5 (out) :: cb cb0 40 [.int .i64 csz, .slice ac secs.length cc, .int .i64 rest] :: dcell 78 p (kilS s) ⟨.slice a1 s.now.length c1, .slice a2 s.dur.length c2, mp, .slice a4 s.sizes.length c4, es, clk⟩ :: slB 5 (.slice a1 s.now.length c1) s.now :: slB 5 (.slice a2 s.dur.length c2) s.dur :: mapA mp es clk :: entsA 83 5 es :: sl 3 1 (.slice a4 s.sizes.length c4) s.sizes.length (szC s.sizes) :: R) := hs
      clear hbt hbf
      obtain ⟨⟨ea, ec, hev⟩, hrd0, _⟩ := hs.ents (.there _ (.there _ (.there _ (.there _ (.there _ (.there _ (.there _ (.here _)))))))) he
      rw [hev] at hrd0
      have hec := RdC.cap hrd0
      clear hrd0
      refine wp_skip ?_
      refine then_n ?_
      refine wp_block ?_
      refine wp_seq ?_
      refine wp_region_lit ?_
      refine s_r hf (x_entry (hf.eval rfl) hs.head (hs.blk_at (.there _ (.there _ (.there _ (.there _ (.there _ (.there _ (.here _)))))))) he hm) ?_; clear hf a; intro a hf
      replace hf := hf.now (k := 57) (v' := .tuple #[.int .i64 (e.sec : Int), .slice ea e.ps.length ec]) rfl (by rw [hev])
      refine s_v hf (x_extract (hf.eval rfl) rfl) ?_; clear hf a; intro a hf
      refine s_v hf (x_extract (hf.eval rfl) rfl) ?_; clear hf a; intro a hf
      refine s_a hf rfl ?_; clear hf a; intro a hf
      refine s_a hf rfl ?_; clear hf a; intro a hf
      refine s_nil ?_
      refine then_n ?_
      refine wp_seq ?_
      refine wp_region_lit ?_
      refine s_v hf (x_fieldAddr fo40_2 (hf.eval rfl)) ?_; clear hf a; intro a hf
      refine s_r hf (x_load sc3 (hf.eval rfl) (by first | exact hs.cell (.here _) rfl | exact hs.cell (.there _ (.here _)) rfl | exact hs.cell (.there _ (.there _ (.here _))) rfl | exact hs.cell (.there _ (.there _ (.there _ (.here _)))) rfl | exact hs.cell (.there _ (.there _ (.there _ (.there _ (.here _))))) rfl | exact hs.cell (.there _ (.there _ (.there _ (.there _ (.there _ (.here _)))))) rfl)) ?_; clear hf a; intro a hf
      refine s_a hf rfl ?_; clear hf a; intro a hf
      refine s_nil ?_
      refine then_n ?_
      refine wp_seq ?_
      refine wp_seq ?_
      refine wp_region_lit ?_
      refine s_m hf rfl ?_; clear hf a; intro a hf
      refine s_v hf (x_fieldAddr fo40_1 (hf.eval rfl)) ?_; clear hf a; intro a hf
      refine s_r hf (x_load sc38 (hf.eval rfl) (by first | exact hs.cell (.here _) rfl | exact hs.cell (.there _ (.here _)) rfl | exact hs.cell (.there _ (.there _ (.here _))) rfl | exact hs.cell (.there _ (.there _ (.there _ (.here _)))) rfl | exact hs.cell (.there _ (.there _ (.there _ (.there _ (.here _))))) rfl | exact hs.cell (.there _ (.there _ (.there _ (.there _ (.there _ (.here _)))))) rfl)) ?_; clear hf a; intro a hf
      refine s_v hf (x_len Try.underlying38 (hf.eval rfl)) ?_; clear hf a; intro a hf
      refine s_v hf (x_bin (hf.eval rfl) (hf.eval rfl) (r_lt _ _ _ _)) ?_; clear hf a; intro a hf
      refine s_nil ?_
      refine then_n ?_
      refine c_cond hf rfl (fun hi3 => ?_) (fun hi3 => ?_)
      · simp only [decide_eq_true_eq, decide_eq_false_iff_not, Bool.not_eq_true', Bool.not_eq_false', Bool.not_eq_true, Int.not_lt, Int.not_le] at hi3
        have hsl : e.sec < secs.length := by omega
        have hrd := hrc _ [_, _, _, _, _, _, _, _, _] hs
        obtain ⟨ac, rfl⟩ := hrd.some (by omega)
        clear hrd
        refine wp_region_lit ?_
        refine s_v hf (x_fieldAddr fo40_1 (hf.eval rfl)) ?_; clear hf a; intro a hf
        refine s_r hf (x_load sc38 (hf.eval rfl) (by first | exact hs.cell (.here _) rfl | exact hs.cell (.there _ (.here _)) rfl | exact hs.cell (.there _ (.there _ (.here _))) rfl | exact hs.cell (.there _ (.there _ (.there _ (.here _)))) rfl | exact hs.cell (.there _ (.there _ (.there _ (.there _ (.here _))))) rfl | exact hs.cell (.there _ (.there _ (.there _ (.there _ (.there _ (.here _)))))) rfl)) ?_; clear hf a; intro a hf
        refine s_m hf rfl ?_; clear hf a; intro a hf
        refine s_v hf (x_indexAddr sl38 (hf.eval rfl) (hf.eval rfl) (by omega) (by omega)) ?_; clear hf a; intro a hf
        refine s_r hf (x_loadI sc3 (hrc _ [_, _, _, _, _, _, _, _, _] hs) rfl (hf.eval rfl) (by simpa using hsl)) ?_; clear hf a; intro a hf
        refine s_a hf rfl ?_; clear hf a; intro a hf
        replace hf := hf.now (k := 11) (v' := .int .i64 (keepOf (csz, secs, rest) e.sec)) rfl (by rw [keepOf_in (c := (csz, secs, rest)) hsl]; rfl)
        refine s_nil ?_
        refine then_n ?_
        refine wp_seq ?_
        refine wp_region_lit ?_
        refine s_m hf rfl ?_; clear hf a; intro a hf
        refine s_m hf rfl ?_; clear hf a; intro a hf
        refine s_m hf rfl ?_; clear hf a; intro a hf
        refine s_v hf (x_len Try.underlying81 (hf.eval rfl)) ?_; clear hf a; intro a hf
        refine s_do hf rfl (y_call (hf.eval rfl) (hf.evals rfl) Try.call56 ((upTo_spec _ (keepOf (csz, secs, rest) e.sec) e.ps.length).mono ?_))
        rintro e w1 ⟨rfl, rfl⟩
        obtain ⟨N, hN⟩ : ∃ N : Nat, (N : Int) = max 0 (min (keepOf (csz, secs, rest) e.sec) (e.ps.length : Int)) := ⟨(max 0 (min (keepOf (csz, secs, rest) e.sec) (e.ps.length : Int))).toNat, by omega⟩
        rw [← hN]
        have hNl : N ≤ e.ps.length := by omega
        have hpl9 := ps_len hm hg he
        have hkp : keptP s (csz, secs, rest) e.sec = (e.ps.map pcOf).take N := by rw [kept_eq hm hg he, show N = min (e.ps.map pcOf).length (keepOf (csz, secs, rest) e.sec).toNat by rw [List.length_map]; omega, take_min]
        refine ⟨_, rfl, ?_⟩; clear hf a; intro a hf
        refine s_v hf (x_slice_hi sl81 (hf.eval rfl) (hf.eval rfl)  (by omega) (by omega) ) ?_; clear hf a; intro a hf
        replace hf := hf.now (k := 77) (v' := .slice ea N ec) rfl (rfl)
        refine s_v hf (x_len Try.underlying81 (hf.eval rfl)) ?_; clear hf a; intro a hf
        refine s_m hf rfl ?_; clear hf a; intro a hf
        refine s_nil ?_
        refine then_n ?_
        refine wp_block ?_
        refine c_loop (L0 := [(0, _), (3, _), (4, _), (5, _), (6, _), (8, _), (9, _), (10, _), (11, _), (54, _), (55, _), (56, _), (57, _), (58, _), (59, _), (60, _), (61, _), (62, _), (63, _), (64, _), (65, _), (66, _), (67, _), (68, _), (69, _), (70, _), (71, _), (72, _), (73, _), (74, _), (75, _), (76, _), (77, _), (78, _)]) (fun M w m => ∃ (i : Nat), M = [(79, .int .i64 (i : Int))] ∧ N - i = m ∧ i ≤ N ∧ St σ w (blk r (.mapIter (some mp) clk (seen.push e.born) clk) :: bb fb 5 (putsP out ((e.ps.map pcOf).take i)) :: cb cb0 40 [.int .i64 csz, .slice ac secs.length cc, .int .i64 rest] :: dcell 78 p (kilS s) ⟨.slice a1 s.now.length c1, .slice a2 s.dur.length c2, mp, .slice a4 s.sizes.length c4, es, clk⟩ :: slB 5 (.slice a1 s.now.length c1) s.now :: slB 5 (.slice a2 s.dur.length c2) s.dur :: mapA mp es clk :: entsA 83 5 es :: sl 3 1 (.slice a4 s.sizes.length c4) s.sizes.length (szC s.sizes) :: R)) (M0 := [(79, .int .i64 0)]) (⟨0, rfl, rfl, Nat.zero_le _, hs⟩) (hf.sub ⟨rfl, rfl, rfl, rfl, rfl, rfl, rfl, rfl, rfl, rfl, rfl, rfl, rfl, rfl, rfl, rfl, rfl, rfl, rfl, rfl, rfl, rfl, rfl, rfl, rfl, rfl, rfl, rfl, rfl, rfl, rfl, rfl, rfl, rfl, rfl, trivial⟩) ?_
        clear hf hs a
        rintro M m a w ⟨i, rfl, rfl, hi, hs⟩ hf
        refine wp_seq ?_
        refine wp_region_lit ?_
        refine s_v hf (x_bin (hf.eval rfl) (hf.eval rfl) (r_lt _ _ _ _)) ?_; clear hf a; intro a hf
        refine s_nil ?_
        refine then_n ?_
        refine wp_seq ?_
        refine c_cond hf rfl (fun hi4 => ?_) (fun hi4 => ?_)
        · simp only [decide_eq_true_eq, decide_eq_false_iff_not, Bool.not_eq_true', Bool.not_eq_false', Bool.not_eq_true, Int.not_lt, Int.not_le] at hi4
          have hlt : i < N := by omega
          have hlt2 : i < e.ps.length := by omega
          have hlm : i < (e.ps.map pcOf).length := by rw [List.length_map]; omega
          obtain ⟨_, hrd, hdt⟩ := hs.ents (.there _ (.there _ (.there _ (.there _ (.there _ (.there _ (.there _ (.here _)))))))) he
          rw [hev] at hrd
          replace hrd := RdS.pre (f := pcF) (sz := 2) (fun _ => rfl) hrd hNl
          have hltk : (e.ps.take N)[i]'(by rw [List.length_take]; omega) = e.ps[i] := List.getElem_take ..
          obtain ⟨ea, rfl⟩ := hrd.some (by rw [List.length_take]; omega)
          have hpd := hdt _ (List.getElem_mem hlt2)
          clear hdt
          have hok9 := ho.pcs
          have hlo : (putsP out ((e.ps.map pcOf).take i)).length = outN s (csz, secs, rest) := by rw [putsP_len]; exact hfd.1
          refine wp_skip ?_
          refine then_n ?_
          refine wp_seq ?_
          refine wp_block ?_
          refine wp_seq ?_
          refine wp_region_lit ?_
          refine s_v hf (x_indexAddr sl81 (hf.eval rfl) (hf.eval rfl) (by omega) (by omega)) ?_; clear hf a; intro a hf
          refine s_r hf (x_loadS (f := pcF) ag83 (fun _ => rfl) hrd (hf.eval rfl) (by simp; omega)) ?_; clear hf a; intro a hf
          replace hf := hf.now (k := 82) (v' := .agg (pcF e.ps[i]).toArray) rfl (by rw [← hltk]; rfl)
          refine s_do hf rfl (y_alloc hs Try.zeroValue83 ?_); clear hf hs a; intro b7 w hs a hf
          change St _ _ (cb b7 83 [.int .i64 0, .slice none 0 0] :: _) at hs
          refine s_do0 hf rfl (y_storeAgg (cs := pcF e.ps[i]) hs (n := 2) (by kernel_rfl) (hf.eval rfl) (hf.eval rfl) (pcF_one hpd) rfl rfl (.here _) ?_); clear hf hs a; intro w hs a hf
          refine s_nil ?_
          refine then_n ?_
          refine wp_seq ?_
          refine wp_region_lit ?_
          refine s_v hf (x_fieldAddr fo83_0 (hf.eval rfl)) ?_; clear hf a; intro a hf
          refine s_r hf (x_load sc3 (hf.eval rfl) (by first | exact hs.cell (.here _) rfl | exact hs.cell (.there _ (.here _)) rfl | exact hs.cell (.there _ (.there _ (.here _))) rfl | exact hs.cell (.there _ (.there _ (.there _ (.here _)))) rfl | exact hs.cell (.there _ (.there _ (.there _ (.there _ (.here _))))) rfl | exact hs.cell (.there _ (.there _ (.there _ (.there _ (.there _ (.here _)))))) rfl)) ?_; clear hf a; intro a hf
          refine s_m hf rfl ?_; clear hf a; intro a hf
          refine s_v hf (x_bin (hf.eval rfl) (hf.eval rfl) (r_lt _ _ _ _)) ?_; clear hf a; intro a hf
          refine s_nil ?_
          refine then_n ?_
          refine c_cond hf rfl (fun hi5 => ?_) (fun hi5 => ?_)
          · simp only [decide_eq_true_eq, decide_eq_false_iff_not, Bool.not_eq_true', Bool.not_eq_false', Bool.not_eq_true, Int.not_lt, Int.not_le] at hi5
            have hat5 : e.ps[i].1 < outN s (csz, secs, rest) := by omega
            refine c_draw hs (fun _ => True) [.held, .held, .read, .held, .held, .read, .fin] (by kernel_rfl) (by kernel_rfl) (fun _ _ _ => trivial) ?_
            clear hs; intro w hs hC hw
            refine m_held hf rfl (fun w' _ => x_move (hf.eval rfl) w') ?_; clear hf a; intro a hf
            refine m_held hf rfl (fun w' _ => x_fieldAddr fo83_0 (hf.eval rfl) w') ?_; clear hf a; intro a hf
            refine m_read hf rfl (x_load sc3 (hf.eval rfl) (by first | exact hs.cell (.here _) rfl | exact hs.cell (.there _ (.here _)) rfl | exact hs.cell (.there _ (.there _ (.here _))) rfl | exact hs.cell (.there _ (.there _ (.there _ (.here _)))) rfl | exact hs.cell (.there _ (.there _ (.there _ (.there _ (.here _))))) rfl | exact hs.cell (.there _ (.there _ (.there _ (.there _ (.there _ (.here _)))))) rfl)) ?_; clear hf a; intro a hf
            refine m_held hf rfl (fun w' _ => x_slice_lo sl22 (hf.eval rfl) (hf.eval rfl)  (by omega) (by omega)  w') ?_; clear hf a; intro a hf
            replace hf := hf.now (k := 90) (v' := .slice (some ⟨fb, e.ps[i].1, none⟩) (outN s (csz, secs, rest) - e.ps[i].1) (outN s (csz, secs, rest) - e.ps[i].1)) rfl (by rw [Int.toNat_natCast, subA_at hat5])
            refine m_held hf rfl (fun w' _ => x_fieldAddr fo83_1 (hf.eval rfl) w') ?_; clear hf a; intro a hf
            refine m_read hf rfl (x_load sc22 (hf.eval rfl) (by first | exact hs.cell (.here _) rfl | exact hs.cell (.there _ (.here _)) rfl | exact hs.cell (.there _ (.there _ (.here _))) rfl | exact hs.cell (.there _ (.there _ (.there _ (.here _)))) rfl | exact hs.cell (.there _ (.there _ (.there _ (.there _ (.here _))))) rfl | exact hs.cell (.there _ (.there _ (.there _ (.there _ (.there _ (.here _)))))) rfl)) ?_; clear hf a; intro a hf
            refine m_fin hf rfl (y_copyB (o := e.ps[i].1) (cur' := putP (putsP out ((e.ps.map pcOf).take i)) (pcOf e.ps[i])) hs sl22 (hf.eval rfl) (hf.eval rfl) (fun _ => rfl) ((hs.ents (.there _ (.there _ (.there _ (.there _ (.there _ (.there _ (.there _ (.there _ (.here _))))))))) he).2.2 _ (List.getElem_mem hlt2)) rfl (.there _ (.there _ (.here _))) (by rw [putP_in (p := pcOf e.ps[i]) (by rw [hlo]; exact hat5), hlo]; rfl) (by rw [hlo]; omega) ?_); clear hf hs a; intro w hs; intro a hf
            have hs9 := hs.drop
            refine blk_n ?_
            refine then_n ?_
            refine wp_region_lit ?_
            refine s_v hf (x_bin (hf.eval rfl) (hf.eval rfl) (r_addi _ (by omega) (by omega))) ?_; clear hf a; intro a hf
            refine s_m hf rfl ?_; clear hf a; intro a hf
            refine s_nil ?_
            exact ⟨_, _, ⟨i + 1, rfl, rfl, by omega, by rw [putsP_take hlm, List.getElem_map]; exact hs9⟩, by omega, hf.sub ⟨rfl, rfl, rfl, rfl, rfl, rfl, rfl, rfl, rfl, rfl, rfl, rfl, rfl, rfl, rfl, rfl, rfl, rfl, rfl, rfl, rfl, rfl, rfl, rfl, rfl, rfl, rfl, rfl, rfl, rfl, rfl, rfl, rfl, rfl, rfl, trivial⟩⟩
          · simp only [decide_eq_true_eq, decide_eq_false_iff_not, Bool.not_eq_true', Bool.not_eq_false', Bool.not_eq_true, Int.not_lt, Int.not_le] at hi5
            have hs9 : St σ w (blk r (.mapIter (some mp) clk (seen.push e.born) clk) :: bb fb 5 (putP (putsP out ((e.ps.map pcOf).take i)) (pcOf e.ps[i])) :: cb cb0 40 [.int .i64 csz, .slice ac secs.length cc, .int .i64 rest] :: dcell 78 p (kilS s) ⟨.slice a1 s.now.length c1, .slice a2 s.dur.length c2, mp, .slice a4 s.sizes.length c4, es, clk⟩ :: slB 5 (.slice a1 s.now.length c1) s.now :: slB 5 (.slice a2 s.dur.length c2) s.dur :: mapA mp es clk :: entsA 83 5 es :: sl 3 1 (.slice a4 s.sizes.length c4) s.sizes.length (szC s.sizes) :: R) := by rw [putP_out (p := pcOf e.ps[i]) (by rw [hlo]; show outN s (csz, secs, rest) ≤ e.ps[i].1; omega)]; exact hs.drop
            refine wp_skip ?_
            refine blk_n ?_
            refine then_n ?_
            refine wp_region_lit ?_
            refine s_v hf (x_bin (hf.eval rfl) (hf.eval rfl) (r_addi _ (by omega) (by omega))) ?_; clear hf a; intro a hf
            refine s_m hf rfl ?_; clear hf a; intro a hf
            refine s_nil ?_
            exact ⟨_, _, ⟨i + 1, rfl, rfl, by omega, by rw [putsP_take hlm, List.getElem_map]; exact hs9⟩, by omega, hf.sub ⟨rfl, rfl, rfl, rfl, rfl, rfl, rfl, rfl, rfl, rfl, rfl, rfl, rfl, rfl, rfl, rfl, rfl, rfl, rfl, rfl, rfl, rfl, rfl, rfl, rfl, rfl, rfl, rfl, rfl, rfl, rfl, rfl, rfl, rfl, rfl, trivial⟩⟩
        · simp only [decide_eq_true_eq, decide_eq_false_iff_not, Bool.not_eq_true', Bool.not_eq_false', Bool.not_eq_true, Int.not_lt, Int.not_le] at hi4
          have hN9 : N = i := by omega
          refine wp_exit ?_
          refine then_x ?_
          refine then_x ?_
          refine blk_x ?_
          refine blk_n ?_
          obtain rfl : i = N := by omega
          have hfd2 := fnd_step ho hm hfd he hns
          exact ⟨_, _, ⟨seen.push e.born, putsP out (keptP s (csz, secs, rest) e.sec), rfl, rfl, by simpa using hfd2, by rw [hkp, ← hN9]; exact hs⟩, unseen_lt he hns, hf.sub ⟨rfl, rfl, rfl, rfl, rfl, rfl, rfl, trivial⟩⟩
      · simp only [decide_eq_true_eq, decide_eq_false_iff_not, Bool.not_eq_true', Bool.not_eq_false', Bool.not_eq_true, Int.not_lt, Int.not_le] at hi3
        replace hf := hf.now (k := 11) (v' := .int .i64 (keepOf (csz, secs, rest) e.sec)) rfl (by rw [keepOf_out (by simp only; omega)])
        refine wp_skip ?_
        refine then_n ?_
        refine wp_seq ?_
        refine wp_region_lit ?_
        refine s_m hf rfl ?_; clear hf a; intro a hf
        refine s_m hf rfl ?_; clear hf a; intro a hf
        refine s_m hf rfl ?_; clear hf a; intro a hf
        refine s_v hf (x_len Try.underlying81 (hf.eval rfl)) ?_; clear hf a; intro a hf
        refine s_do hf rfl (y_call (hf.eval rfl) (hf.evals rfl) Try.call56 ((upTo_spec _ (keepOf (csz, secs, rest) e.sec) e.ps.length).mono ?_))
        rintro e w1 ⟨rfl, rfl⟩
        obtain ⟨N, hN⟩ : ∃ N : Nat, (N : Int) = max 0 (min (keepOf (csz, secs, rest) e.sec) (e.ps.length : Int)) := ⟨(max 0 (min (keepOf (csz, secs, rest) e.sec) (e.ps.length : Int))).toNat, by omega⟩
        rw [← hN]
        have hNl : N ≤ e.ps.length := by omega
        have hpl9 := ps_len hm hg he
        have hkp : keptP s (csz, secs, rest) e.sec = (e.ps.map pcOf).take N := by rw [kept_eq hm hg he, show N = min (e.ps.map pcOf).length (keepOf (csz, secs, rest) e.sec).toNat by rw [List.length_map]; omega, take_min]
        refine ⟨_, rfl, ?_⟩; clear hf a; intro a hf
        refine s_v hf (x_slice_hi sl81 (hf.eval rfl) (hf.eval rfl)  (by omega) (by omega) ) ?_; clear hf a; intro a hf
        replace hf := hf.now (k := 77) (v' := .slice ea N ec) rfl (rfl)
        refine s_v hf (x_len Try.underlying81 (hf.eval rfl)) ?_; clear hf a; intro a hf
        refine s_m hf rfl ?_; clear hf a; intro a hf
        refine s_nil ?_
        refine then_n ?_
        refine wp_block ?_
        refine c_loop (L0 := [(0, _), (3, _), (4, _), (5, _), (6, _), (8, _), (9, _), (10, _), (11, _), (54, _), (55, _), (56, _), (57, _), (58, _), (59, _), (60, _), (61, _), (62, _), (63, _), (64, _), (65, _), (66, _), (72, _), (73, _), (74, _), (75, _), (76, _), (77, _), (78, _)]) (fun M w m => ∃ (i : Nat), M = [(79, .int .i64 (i : Int))] ∧ N - i = m ∧ i ≤ N ∧ St σ w (blk r (.mapIter (some mp) clk (seen.push e.born) clk) :: bb fb 5 (putsP out ((e.ps.map pcOf).take i)) :: cb cb0 40 [.int .i64 csz, .slice ac secs.length cc, .int .i64 rest] :: dcell 78 p (kilS s) ⟨.slice a1 s.now.length c1, .slice a2 s.dur.length c2, mp, .slice a4 s.sizes.length c4, es, clk⟩ :: slB 5 (.slice a1 s.now.length c1) s.now :: slB 5 (.slice a2 s.dur.length c2) s.dur :: mapA mp es clk :: entsA 83 5 es :: sl 3 1 (.slice a4 s.sizes.length c4) s.sizes.length (szC s.sizes) :: R)) (M0 := [(79, .int .i64 0)]) (⟨0, rfl, rfl, Nat.zero_le _, hs⟩) (hf.sub ⟨rfl, rfl, rfl, rfl, rfl, rfl, rfl, rfl, rfl, rfl, rfl, rfl, rfl, rfl, rfl, rfl, rfl, rfl, rfl, rfl, rfl, rfl, rfl, rfl, rfl, rfl, rfl, rfl, rfl, rfl, trivial⟩) ?_
        clear hf hs a
        rintro M m a w ⟨i, rfl, rfl, hi, hs⟩ hf
        refine wp_seq ?_
        refine wp_region_lit ?_
        refine s_v hf (x_bin (hf.eval rfl) (hf.eval rfl) (r_lt _ _ _ _)) ?_; clear hf a; intro a hf
        refine s_nil ?_
        refine then_n ?_
        refine wp_seq ?_
        refine c_cond hf rfl (fun hi4 => ?_) (fun hi4 => ?_)
        · simp only [decide_eq_true_eq, decide_eq_false_iff_not, Bool.not_eq_true', Bool.not_eq_false', Bool.not_eq_true, Int.not_lt, Int.not_le] at hi4
          have hlt : i < N := by omega
          have hlt2 : i < e.ps.length := by omega
          have hlm : i < (e.ps.map pcOf).length := by rw [List.length_map]; omega
          obtain ⟨_, hrd, hdt⟩ := hs.ents (.there _ (.there _ (.there _ (.there _ (.there _ (.there _ (.there _ (.here _)))))))) he
          rw [hev] at hrd
          replace hrd := RdS.pre (f := pcF) (sz := 2) (fun _ => rfl) hrd hNl
          have hltk : (e.ps.take N)[i]'(by rw [List.length_take]; omega) = e.ps[i] := List.getElem_take ..
          obtain ⟨ea, rfl⟩ := hrd.some (by rw [List.length_take]; omega)
          have hpd := hdt _ (List.getElem_mem hlt2)
          clear hdt
          have hok9 := ho.pcs
          have hlo : (putsP out ((e.ps.map pcOf).take i)).length = outN s (csz, secs, rest) := by rw [putsP_len]; exact hfd.1
          refine wp_skip ?_
          refine then_n ?_
          refine wp_seq ?_
          refine wp_block ?_
          refine wp_seq ?_
          refine wp_region_lit ?_
          refine s_v hf (x_indexAddr sl81 (hf.eval rfl) (hf.eval rfl) (by omega) (by omega)) ?_; clear hf a; intro a hf
          refine s_r hf (x_loadS (f := pcF) ag83 (fun _ => rfl) hrd (hf.eval rfl) (by simp; omega)) ?_; clear hf a; intro a hf
          replace hf := hf.now (k := 82) (v' := .agg (pcF e.ps[i]).toArray) rfl (by rw [← hltk]; rfl)
          refine s_do hf rfl (y_alloc hs Try.zeroValue83 ?_); clear hf hs a; intro b7 w hs a hf
          change St _ _ (cb b7 83 [.int .i64 0, .slice none 0 0] :: _) at hs
          refine s_do0 hf rfl (y_storeAgg (cs := pcF e.ps[i]) hs (n := 2) (by kernel_rfl) (hf.eval rfl) (hf.eval rfl) (pcF_one hpd) rfl rfl (.here _) ?_); clear hf hs a; intro w hs a hf
          refine s_nil ?_
          refine then_n ?_
          refine wp_seq ?_
          refine wp_region_lit ?_
          refine s_v hf (x_fieldAddr fo83_0 (hf.eval rfl)) ?_; clear hf a; intro a hf
          refine s_r hf (x_load sc3 (hf.eval rfl) (by first | exact hs.cell (.here _) rfl | exact hs.cell (.there _ (.here _)) rfl | exact hs.cell (.there _ (.there _ (.here _))) rfl | exact hs.cell (.there _ (.there _ (.there _ (.here _)))) rfl | exact hs.cell (.there _ (.there _ (.there _ (.there _ (.here _))))) rfl | exact hs.cell (.there _ (.there _ (.there _ (.there _ (.there _ (.here _)))))) rfl)) ?_; clear hf a; intro a hf
          refine s_m hf rfl ?_; clear hf a; intro a hf
          refine s_v hf (x_bin (hf.eval rfl) (hf.eval rfl) (r_lt _ _ _ _)) ?_; clear hf a; intro a hf
          refine s_nil ?_
          refine then_n ?_
          refine c_cond hf rfl (fun hi5 => ?_) (fun hi5 => ?_)
          · simp only [decide_eq_true_eq, decide_eq_false_iff_not, Bool.not_eq_true', Bool.not_eq_false', Bool.not_eq_true, Int.not_lt, Int.not_le] at hi5
            have hat5 : e.ps[i].1 < outN s (csz, secs, rest) := by omega
            refine c_draw hs (fun _ => True) [.held, .held, .read, .held, .held, .read, .fin] (by kernel_rfl) (by kernel_rfl) (fun _ _ _ => trivial) ?_
            clear hs; intro w hs hC hw
            refine m_held hf rfl (fun w' _ => x_move (hf.eval rfl) w') ?_; clear hf a; intro a hf
            refine m_held hf rfl (fun w' _ => x_fieldAddr fo83_0 (hf.eval rfl) w') ?_; clear hf a; intro a hf
            refine m_read hf rfl (x_load sc3 (hf.eval rfl) (by first | exact hs.cell (.here _) rfl | exact hs.cell (.there _ (.here _)) rfl | exact hs.cell (.there _ (.there _ (.here _))) rfl | exact hs.cell (.there _ (.there _ (.there _ (.here _)))) rfl | exact hs.cell (.there _ (.there _ (.there _ (.there _ (.here _))))) rfl | exact hs.cell (.there _ (.there _ (.there _ (.there _ (.there _ (.here _)))))) rfl)) ?_; clear hf a; intro a hf
            refine m_held hf rfl (fun w' _ => x_slice_lo sl22 (hf.eval rfl) (hf.eval rfl)  (by omega) (by omega)  w') ?_; clear hf a; intro a hf
            replace hf := hf.now (k := 90) (v' := .slice (some ⟨fb, e.ps[i].1, none⟩) (outN s (csz, secs, rest) - e.ps[i].1) (outN s (csz, secs, rest) - e.ps[i].1)) rfl (by rw [Int.toNat_natCast, subA_at hat5])
            refine m_held hf rfl (fun w' _ => x_fieldAddr fo83_1 (hf.eval rfl) w') ?_; clear hf a; intro a hf
            refine m_read hf rfl (x_load sc22 (hf.eval rfl) (by first | exact hs.cell (.here _) rfl | exact hs.cell (.there _ (.here _)) rfl | exact hs.cell (.there _ (.there _ (.here _))) rfl | exact hs.cell (.there _ (.there _ (.there _ (.here _)))) rfl | exact hs.cell (.there _ (.there _ (.there _ (.there _ (.here _))))) rfl | exact hs.cell (.there _ (.there _ (.there _ (.there _ (.there _ (.here _)))))) rfl)) ?_; clear hf a; intro a hf
            refine m_fin hf rfl (y_copyB (o := e.ps[i].1) (cur' := putP (putsP out ((e.ps.map pcOf).take i)) (pcOf e.ps[i])) hs sl22 (hf.eval rfl) (hf.eval rfl) (fun _ => rfl) ((hs.ents (.there _ (.there _ (.there _ (.there _ (.there _ (.there _ (.there _ (.there _ (.here _))))))))) he).2.2 _ (List.getElem_mem hlt2)) rfl (.there _ (.there _ (.here _))) (by rw [putP_in (p := pcOf e.ps[i]) (by rw [hlo]; exact hat5), hlo]; rfl) (by rw [hlo]; omega) ?_); clear hf hs a; intro w hs; intro a hf
            have hs9 := hs.drop
            refine blk_n ?_
            refine then_n ?_
            refine wp_region_lit ?_
            refine s_v hf (x_bin (hf.eval rfl) (hf.eval rfl) (r_addi _ (by omega) (by omega))) ?_; clear hf a; intro a hf
            refine s_m hf rfl ?_; clear hf a; intro a hf
            refine s_nil ?_
            exact ⟨_, _, ⟨i + 1, rfl, rfl, by omega, by rw [putsP_take hlm, List.getElem_map]; exact hs9⟩, by omega, hf.sub ⟨rfl, rfl, rfl, rfl, rfl, rfl, rfl, rfl, rfl, rfl, rfl, rfl, rfl, rfl, rfl, rfl, rfl, rfl, rfl, rfl, rfl, rfl, rfl, rfl, rfl, rfl, rfl, rfl, rfl, rfl, trivial⟩⟩
          · simp only [decide_eq_true_eq, decide_eq_false_iff_not, Bool.not_eq_true', Bool.not_eq_false', Bool.not_eq_true, Int.not_lt, Int.not_le] at hi5
            have hs9 : St σ w (blk r (.mapIter (some mp) clk (seen.push e.born) clk) :: bb fb 5 (putP (putsP out ((e.ps.map pcOf).take i)) (pcOf e.ps[i])) :: cb cb0 40 [.int .i64 csz, .slice ac secs.length cc, .int .i64 rest] :: dcell 78 p (kilS s) ⟨.slice a1 s.now.length c1, .slice a2 s.dur.length c2, mp, .slice a4 s.sizes.length c4, es, clk⟩ :: slB 5 (.slice a1 s.now.length c1) s.now :: slB 5 (.slice a2 s.dur.length c2) s.dur :: mapA mp es clk :: entsA 83 5 es :: sl 3 1 (.slice a4 s.sizes.length c4) s.sizes.length (szC s.sizes) :: R) := by rw [putP_out (p := pcOf e.ps[i]) (by rw [hlo]; show outN s (csz, secs, rest) ≤ e.ps[i].1; omega)]; exact hs.drop
            refine wp_skip ?_
            refine blk_n ?_
            refine then_n ?_
            refine wp_region_lit ?_
            refine s_v hf (x_bin (hf.eval rfl) (hf.eval rfl) (r_addi _ (by omega) (by omega))) ?_; clear hf a; intro a hf
            refine s_m hf rfl ?_; clear hf a; intro a hf
            refine s_nil ?_
            exact ⟨_, _, ⟨i + 1, rfl, rfl, by omega, by rw [putsP_take hlm, List.getElem_map]; exact hs9⟩, by omega, hf.sub ⟨rfl, rfl, rfl, rfl, rfl, rfl, rfl, rfl, rfl, rfl, rfl, rfl, rfl, rfl, rfl, rfl, rfl, rfl, rfl, rfl, rfl, rfl, rfl, rfl, rfl, rfl, rfl, rfl, rfl, rfl, trivial⟩⟩
        · simp only [decide_eq_true_eq, decide_eq_false_iff_not, Bool.not_eq_true', Bool.not_eq_false', Bool.not_eq_true, Int.not_lt, Int.not_le] at hi4
          have hN9 : N = i := by omega
          refine wp_exit ?_
          refine then_x ?_
          refine then_x ?_
          refine blk_x ?_
          refine blk_n ?_
          obtain rfl : i = N := by omega
          have hfd2 := fnd_step ho hm hfd he hns
          exact ⟨_, _, ⟨seen.push e.born, putsP out (keptP s (csz, secs, rest) e.sec), rfl, rfl, by simpa using hfd2, by rw [hkp, ← hN9]; exact hs⟩, unseen_lt he hns, hf.sub ⟨rfl, rfl, rfl, rfl, rfl, rfl, rfl, trivial⟩⟩
    · have hall := hbf hi2
      subst hi2
      replace hs : St σ w (blk r (.mapIter (some mp) clk seen clk) :: bb fb 5 (out) :: cb cb0 40 [.int .i64 csz, .slice ac secs.length cc, .int .i64 rest] :: dcell 78 p (kilS s) ⟨.slice a1 s.now.length c1, .slice a2 s.dur.length c2, mp, .slice a4 s.sizes.length c4, es, clk⟩ :: slB 5 (.slice a1 s.now.length c1) s.now :: slB 5 (.slice a2 s.dur.length c2) s.dur :: mapA mp es clk :: entsA 83 5 es :: sl 3 1 (.slice a4 s.sizes.length c4) s.sizes.length (szC s.sizes) :: R) := hs
      clear hbt hbf
      obtain rfl := fnd_end hg hfd hall
      refine wp_exit ?_
      refine then_x ?_
      refine then_x ?_
      refine blk_x ?_
      refine then_n ?_
      refine wp_seq ?_
      refine wp_region_lit ?_
      refine s_m hf rfl ?_; clear hf a; intro a hf
      replace hf := hf.now (k := 95) (v' := .slice (some ⟨fb, 0, none⟩) (outS s (csz, secs, rest)).length (outN s (csz, secs, rest))) rfl (by rw [outS_length])
      refine s_m hf rfl ?_; clear hf a; intro a hf
      refine s_v hf (x_nilCheck (hf.eval rfl)) ?_; clear hf a; intro a hf
      refine s_v hf (x_fieldAddr fo78_0 (hf.eval rfl)) ?_; clear hf a; intro a hf
      refine s_r hf (x_load sc3 (hf.eval rfl) (by first | exact hs.cell (.here _) rfl | exact hs.cell (.there _ (.here _)) rfl | exact hs.cell (.there _ (.there _ (.here _))) rfl | exact hs.cell (.there _ (.there _ (.there _ (.here _)))) rfl | exact hs.cell (.there _ (.there _ (.there _ (.there _ (.here _))))) rfl | exact hs.cell (.there _ (.there _ (.there _ (.there _ (.there _ (.here _)))))) rfl)) ?_; clear hf a; intro a hf
      refine s_do hf rfl (y_call (hf.eval rfl) (hf.evals rfl) Try.call36 ((dNew_in _ _ _ (outS s (csz, secs, rest)) (hs.rdB (.there _ (.here _)) (fun h hb => by have h9 := rdB_of_bb hb (Nat.le_refl (outS s (csz, secs, rest)).length) (c := outN s (csz, secs, rest)) (by rw [outS_length]; exact Nat.le_refl _); rwa [List.take_length] at h9)) (by rw [outS_length]; omega) s.room hroom0 hroom1 (by rw [outS_length]; exact hoN)).mono ?_))
      rintro e w1 ⟨p2, rfl, hj⟩
      replace hs := hs.join hj
      simp only [List.cons_append, List.nil_append] at hs
      refine ⟨_, rfl, ?_⟩; clear hf a; intro a hf
      refine s_v hf (x_extract (hf.eval rfl) rfl) ?_; clear hf a; intro a hf
      refine s_v hf (x_extract (hf.eval rfl) rfl) ?_; clear hf a; intro a hf
      refine s_a hf rfl ?_; clear hf a; intro a hf
      refine s_a hf rfl ?_; clear hf a; intro a hf
      refine s_nil ?_
      refine then_n ?_
      refine wp_ret ?_
      refine r_2 hf Try.results33 rfl rfl ?_
      refine ⟨p2, rfl, ?_⟩
      replace hs := St.give (L := _) (((hs.lose (.there _ (.here _))).lose (.there _ (.here _))).lose (.there _ (.here _))) (.there _ (.there _ (.there _ (.there _ (.there _ (.there _ (.here _)))))))
      exact (diskA_close (s := kilS s) (x := ⟨.slice a1 s.now.length c1, .slice a2 s.dur.length c2, mp, .slice a4 s.sizes.length c4, es, clk⟩) hm hg hs).take (.there _ (.here _))

end Go.Proofs.Ytjfnpbeehjhmbaa
