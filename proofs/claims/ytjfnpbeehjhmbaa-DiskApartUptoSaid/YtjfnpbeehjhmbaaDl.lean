/- The disk of the program: bytes laid down. -/
import Derived.Test.YtjfnpbeehjhmbaaVN
import Derived.Test.YtjfnpbeehjhmbaaDs
import Derived.Test.YtjfnpbeehjhmbaaProg
import Derived.Test.YtjfnpbeehjhmbaaFacts
set_option maxRecDepth 100000
set_option linter.all false
namespace Go.Proofs.Ytjfnpbeehjhmbaa
open Go Vw
theorem lay_spec (σ : Sig) (w : World) (R : List Asrt) (p : Nat) (s : DS) (hs : St σ w (diskA 78 83 5 3 p s :: R)) (at_ : Nat) (ad : Option Addr) (cd : Nat) (data : List UInt8) (hr : Rdy σ R (.slice ad data.length cd) data) (hd : data ≠ []) (hat : at_ ≤ s.now.length) (hsz : at_ + data.length ≤ 16777216) (hnow : s.now.length ≤ 16777216) (hpc : s.pcs.length ≤ 1099511627776) : Calls Try.prog 55 #[.pointer (some ⟨p, 0, none⟩), .int .i64 (at_ : Int), .slice ad data.length cd] w fun e w' => e = .returned (.tuple #[]) ∧ St σ w' (diskA 78 83 5 3 p (layS s at_ data) :: R) := by
  have hdl : 0 < data.length := List.length_pos_iff.2 hd
  obtain ⟨E, hE⟩ : ∃ E, E = ext s.now (at_ + data.length) := ⟨_, rfl⟩
  have hEl : E.length = max s.now.length (at_ + data.length) := by rw [hE, ext_length]
  obtain ⟨⟨v1, v2, m, v4, es, clk⟩, hm, hg, hs⟩ := diskA_open hs
  dsimp only at hm hg hs
  obtain ⟨a1, c1, rfl, hc1⟩ := slB_shape (hs.take (.there _ (.here _)))
  obtain ⟨a2, c2, rfl, hc2⟩ := slB_shape (hs.take (.there _ (.there _ (.here _))))
  obtain ⟨a4, c4, rfl⟩ := sl_shape (hs.take (.there _ (.there _ (.there _ (.there _ (.there _ (.here _)))))))
  refine c_enter (N := 82) Try.func55 rfl Try.ntmps55 (by simp) ?_
  intro a hf
  refine wp_seq ?_
  refine wp_seq ?_
  refine wp_region_lit ?_
  refine s_m hf rfl ?_; clear hf a; intro a hf
  refine s_m hf rfl ?_; clear hf a; intro a hf
  refine s_v hf (x_len Try.underlying22 (hf.eval rfl)) ?_; clear hf a; intro a hf
  refine s_v hf (x_bin (hf.eval rfl) (hf.eval rfl) (r_addi _ (by omega) (by omega))) ?_; clear hf a; intro a hf
  refine s_m hf rfl ?_; clear hf a; intro a hf
  refine s_v hf (x_nilCheck (hf.eval rfl)) ?_; clear hf a; intro a hf
  refine s_v hf (x_fieldAddr fo78_1 (hf.eval rfl)) ?_; clear hf a; intro a hf
  refine s_r hf (x_load sc22 (hf.eval rfl) (by first | exact hs.cell (.here _) rfl | exact hs.cell (.there _ (.here _)) rfl | exact hs.cell (.there _ (.there _ (.here _))) rfl | exact hs.cell (.there _ (.there _ (.there _ (.here _)))) rfl | exact hs.cell (.there _ (.there _ (.there _ (.there _ (.here _))))) rfl | exact hs.cell (.there _ (.there _ (.there _ (.there _ (.there _ (.here _)))))) rfl)) ?_; clear hf a; intro a hf
  refine s_v hf (x_len Try.underlying22 (hf.eval rfl)) ?_; clear hf a; intro a hf
  refine s_v hf (x_bin (hf.eval rfl) (hf.eval rfl) (r_gt _ _ _ _)) ?_; clear hf a; intro a hf
  refine s_nil ?_
  refine then_n ?_
  refine c_cond hf rfl (fun hi0 => ?_) (fun hi0 => ?_)
  · simp only [decide_eq_true_eq, decide_eq_false_iff_not, Bool.not_eq_true', Bool.not_eq_false', Bool.not_eq_true, Int.not_lt, Int.not_le] at hi0
    refine c_draw hs (fun _ => True) [.held, .held, .held, .held, .read, .held, .held, .held, .held, .held, .held, .held, .read, .held, .held, .eff, .held, .held, .fin] (by kernel_rfl) (by kernel_rfl) (fun _ _ _ => trivial) ?_
    clear hs; intro w hs hC hw
    refine m_held hf rfl (fun w' _ => x_move (hf.eval rfl) w') ?_; clear hf a; intro a hf
    refine m_held hf rfl (fun w' _ => x_move (hf.eval rfl) w') ?_; clear hf a; intro a hf
    refine m_held hf rfl (fun w' _ => x_nilCheck (hf.eval rfl) w') ?_; clear hf a; intro a hf
    refine m_held hf rfl (fun w' _ => x_fieldAddr fo78_1 (hf.eval rfl) w') ?_; clear hf a; intro a hf
    refine m_read hf rfl (x_load sc22 (hf.eval rfl) (by first | exact hs.cell (.here _) rfl | exact hs.cell (.there _ (.here _)) rfl | exact hs.cell (.there _ (.there _ (.here _))) rfl | exact hs.cell (.there _ (.there _ (.there _ (.here _)))) rfl | exact hs.cell (.there _ (.there _ (.there _ (.there _ (.here _))))) rfl | exact hs.cell (.there _ (.there _ (.there _ (.there _ (.there _ (.here _)))))) rfl)) ?_; clear hf a; intro a hf
    refine m_held hf rfl (fun w' _ => x_move (hf.eval rfl) w') ?_; clear hf a; intro a hf
    refine m_held hf rfl (fun w' _ => x_move (hf.eval rfl) w') ?_; clear hf a; intro a hf
    refine m_held hf rfl (fun w' _ => x_len Try.underlying22 (hf.eval rfl) w') ?_; clear hf a; intro a hf
    refine m_held hf rfl (fun w' _ => x_bin (hf.eval rfl) (hf.eval rfl) (r_addi _ (by omega) (by omega)) w') ?_; clear hf a; intro a hf
    refine m_held hf rfl (fun w' _ => x_move (hf.eval rfl) w') ?_; clear hf a; intro a hf
    refine m_held hf rfl (fun w' _ => x_nilCheck (hf.eval rfl) w') ?_; clear hf a; intro a hf
    refine m_held hf rfl (fun w' _ => x_fieldAddr fo78_1 (hf.eval rfl) w') ?_; clear hf a; intro a hf
    refine m_read hf rfl (x_load sc22 (hf.eval rfl) (by first | exact hs.cell (.here _) rfl | exact hs.cell (.there _ (.here _)) rfl | exact hs.cell (.there _ (.there _ (.here _))) rfl | exact hs.cell (.there _ (.there _ (.there _ (.here _)))) rfl | exact hs.cell (.there _ (.there _ (.there _ (.there _ (.here _))))) rfl | exact hs.cell (.there _ (.there _ (.there _ (.there _ (.there _ (.here _)))))) rfl)) ?_; clear hf a; intro a hf
    refine m_held hf rfl (fun w' _ => x_len Try.underlying22 (hf.eval rfl) w') ?_; clear hf a; intro a hf
    refine m_held hf rfl (fun w' _ => x_bin (hf.eval rfl) (hf.eval rfl) (r_subi _ (by omega) (by omega)) w') ?_; clear hf a; intro a hf
    refine m_eff hf rfl (y_appendZ (n := at_ + data.length - s.now.length) hs sl22 Try.underlying3 (hf.eval rfl) (hf.eval rfl) (by omega) (by omega) (.there _ (.here _)) (by omega) ?_); clear hf hs a; intro v w hs; refine ⟨trivial, ?_⟩; intro a hf
    rw [show s.now ++ List.replicate (at_ + data.length - s.now.length) 0 = E from hE.symm] at hs
    clear hc1
    obtain ⟨a9, c9, rfl, hc9⟩ := slB_shape hs
    refine m_held hf rfl (fun w' _ => x_nilCheck (hf.eval rfl) w') ?_; clear hf a; intro a hf
    refine m_held hf rfl (fun w' _ => x_fieldAddr fo78_1 (hf.eval rfl) w') ?_; clear hf a; intro a hf
    refine m_fin0 hf rfl (y_store hs sc22 (hf.eval rfl) (hf.eval rfl) rfl (by first | exact .here _ | exact .there _ (.here _) | exact .there _ (.there _ (.here _)) | exact .there _ (.there _ (.there _ (.here _))) | exact .there _ (.there _ (.there _ (.there _ (.here _)))) | exact .there _ (.there _ (.there _ (.there _ (.there _ (.here _)))))) (by simp) ?_); clear hf hs a; intro w hs; intro a hf
    replace hs := hs.take (.there _ (.here _))
    refine then_n ?_
    refine wp_seq ?_
    refine wp_region_lit ?_
    obtain ⟨b1, cc, hb1, _⟩ := slB_block (hs.take (.there _ (.here _))) (by omega)
    injection hb1 with hb1 _ hb1c
    subst hb1
    refine s_m hf rfl ?_; clear hf a; intro a hf
    refine s_v hf (x_nilCheck (hf.eval rfl)) ?_; clear hf a; intro a hf
    refine s_v hf (x_fieldAddr fo78_1 (hf.eval rfl)) ?_; clear hf a; intro a hf
    refine s_r hf (x_load sc22 (hf.eval rfl) (by first | exact hs.cell (.here _) rfl | exact hs.cell (.there _ (.here _)) rfl | exact hs.cell (.there _ (.there _ (.here _))) rfl | exact hs.cell (.there _ (.there _ (.there _ (.here _)))) rfl | exact hs.cell (.there _ (.there _ (.there _ (.there _ (.here _))))) rfl | exact hs.cell (.there _ (.there _ (.there _ (.there _ (.there _ (.here _)))))) rfl)) ?_; clear hf a; intro a hf
    refine s_m hf rfl ?_; clear hf a; intro a hf
    refine s_v hf (x_slice_lo sl22 (hf.eval rfl) (hf.eval rfl)  (by omega) (by omega) ) ?_; clear hf a; intro a hf
    replace hf := hf.now (k := 41) (v' := .slice (subA (some ⟨b1, 0, none⟩) cc at_ 1) (E.length - at_) (cc - at_)) rfl (by rw [hb1c]; rfl)
    refine s_m hf rfl ?_; clear hf a; intro a hf
    subst hb1c
    refine s_do hf rfl (y_copyAt (T := 5) (n := E.length) (o := at_) (s := data) hs sl22 (hf.eval rfl) rfl (hf.eval rfl) (.there _ (.here _)) (hr _ [_, _, _, _, _, _] hs) (by omega) rfl ?_); clear hf hs a; intro w hs a hf
    rw [show min data.length (E.length - at_) = data.length by omega, List.take_length] at hs
    have hXl : (spl E at_ data).length = E.length := spl_length _ _ _ (by omega)
    rw [← hXl] at hs
    replace hs := diskA_close (s := { s with now := spl E at_ data }) (x := ⟨_, _, m, _, es, clk⟩) hm hg (hs.take (.there _ (.here _)))
    rw [hE] at hs
    replace hs : St σ w (diskA 78 83 5 3 p { s with now := (spl (ext s.now (at_ + data.length)) at_ data), pcs := s.pcs } :: R) := hs
    refine s_nil ?_
    refine then_n ?_
    refine wp_block ?_
    refine c_loop (L0 := [(0, _)]) (fun M w m => ∃ (k : Nat) (a' : Option Addr) (c' : Nat) (P : List Pc), M = [(1, .int .i64 ((at_ + k : Nat) : Int)), (2, .slice a' (data.length - k) c')] ∧ data.length - k = m ∧ k ≤ data.length ∧ P ++ cut (at_ + k) (data.drop k) = s.pcs ++ cut at_ data ∧ Rdy σ R (.slice a' (data.length - k) c') (data.drop k) ∧ St σ w (diskA 78 83 5 3 p { s with now := (spl (ext s.now (at_ + data.length)) at_ data), pcs := P } :: R)) (M0 := _) (⟨0, ad, cd, s.pcs, rfl, rfl, Nat.zero_le _, rfl, hr, hs⟩) (hf.sub ⟨rfl, rfl, rfl, trivial⟩) ?_
    clear hf hs a
    rintro M m a w ⟨k, a', c', P, rfl, rfl, hk, hP, hr', hs⟩ hf
    clear hr
    refine wp_seq ?_
    refine wp_seq ?_
    refine wp_region_lit ?_
    refine s_m hf rfl ?_; clear hf a; intro a hf
    refine s_v hf (x_len Try.underlying22 (hf.eval rfl)) ?_; clear hf a; intro a hf
    refine s_v hf (x_bin (hf.eval rfl) (hf.eval rfl) (r_gt _ _ _ _)) ?_; clear hf a; intro a hf
    refine s_nil ?_
    refine then_n ?_
    refine c_cond hf rfl (fun hi1 => ?_) (fun hi1 => ?_)
    · simp only [decide_eq_true_eq, decide_eq_false_iff_not, Bool.not_eq_true', Bool.not_eq_false', Bool.not_eq_true, Int.not_lt, Int.not_le] at hi1
      have hlt : k < data.length := by omega
      obtain ⟨q, hq⟩ : ∃ q, q = secN (at_ + k) (data.length - k) := ⟨_, rfl⟩
      have hq0 : 0 < q := by rw [hq]; exact secN_pos (by omega)
      have hq1 : q ≤ data.length - k := by rw [hq]; exact secN_le _ _
      have hdk : (data.drop k).length = data.length - k := List.length_drop ..
      have hcq : ((data.drop k).take q).length = q := by rw [List.length_take]; omega
      have hP9 : P.length ≤ 1099511700000 := by have h9 := congrArg List.length hP; simp only [List.length_append] at h9; have := cut_len data.length at_ data (Nat.le_refl _); omega
      obtain ⟨⟨v1, v2, m, v4, es, clk⟩, hm, hg, hs⟩ := diskA_open hs
      dsimp only at hm hg hs
      obtain ⟨a1, c1, rfl, hc1⟩ := slB_shape (hs.take (.there _ (.here _)))
      obtain ⟨a2, c2, rfl, hc2⟩ := slB_shape (hs.take (.there _ (.there _ (.here _))))
      obtain ⟨a4, c4, rfl⟩ := sl_shape (hs.take (.there _ (.there _ (.there _ (.there _ (.there _ (.here _)))))))
      refine wp_skip ?_
      refine then_n ?_
      refine wp_block ?_
      refine wp_seq ?_
      refine wp_region_lit ?_
      refine s_m hf rfl ?_; clear hf a; intro a hf
      refine s_v hf (x_bin (hf.eval rfl) (hf.eval rfl) (r_quon _ (by omega) (by omega) (by omega))) ?_; clear hf a; intro a hf
      replace hf := hf.now (k := 48) (v' := .int .i64 (((at_ + k) / 512 : Nat) : Int)) rfl (rfl)
      refine s_a hf rfl ?_; clear hf a; intro a hf
      refine s_nil ?_
      refine then_n ?_
      refine wp_seq ?_
      refine wp_region_lit ?_
      refine s_m hf rfl ?_; clear hf a; intro a hf
      refine s_v hf (x_len Try.underlying22 (hf.eval rfl)) ?_; clear hf a; intro a hf
      refine s_m hf rfl ?_; clear hf a; intro a hf
      refine s_v hf (x_bin (hf.eval rfl) (hf.eval rfl) (r_addi _ (by omega) (by omega))) ?_; clear hf a; intro a hf
      refine s_v hf (x_bin (hf.eval rfl) (hf.eval rfl) (r_muli _ (by omega) (by omega))) ?_; clear hf a; intro a hf
      refine s_m hf rfl ?_; clear hf a; intro a hf
      refine s_v hf (x_bin (hf.eval rfl) (hf.eval rfl) (r_subi _ (by omega) (by omega))) ?_; clear hf a; intro a hf
      refine s_v hf (x_minI (hf.eval rfl) (hf.eval rfl)) ?_; clear hf a; intro a hf
      replace hf := hf.now (k := 56) (v' := .int .i64 (q : Int)) rfl (by rw [hq]; unfold secN; congr 1; omega)
      refine s_a hf rfl ?_; clear hf a; intro a hf
      refine s_nil ?_
      refine then_n ?_
      refine wp_seq ?_
      obtain ⟨vv, ps, er, hps, hs, hlook, hupd⟩ := map_open (Q := 83) (T := 5) ((at_ + k) / 512) mpT hm ((hs.take (.there _ (.there _ (.there _ (.there _ (.here _)))))).take (.there _ (.there _ (.there _ (.there _ (.here _))))))
      have hpl : ps.length ≤ P.length := by have h9 := congrArg List.length hps; rw [List.length_map] at h9; have := eps_len hg ((at_ + k) / 512); omega
      have hcap := (hr' _ [_, _, _, _, _, _, _, _] hs).cap
      refine c_draw hs (fun w' => w'.heap[m]? = some (.map (es.map Ent.mem).toArray clk) ∧ w'.cell? ⟨p, 3, none⟩ = some (.map (some m)) ∧ RdB (hp w') (.slice a' (data.length - k) c') (data.drop k)) [.held, .held, .held, .held, .held, .held, .held, .held, .held, .held, .held, .held, .held, .held, .held, .eff, .held, .eff, .eff, .fin] (by kernel_rfl) (by kernel_rfl) (fun w' _ hs => ⟨hs.blk_at (.there _ (.there _ (.here _))), hs.cell (k := 3) (.there _ (.there _ (.there _ (.there _ (.here _))))) rfl, hr' _ [_, _, _, _, _, _, _, _] hs⟩) ?_
      clear hs; intro w hs hC hw
      refine m_held hf rfl (fun w' _ => x_move (hf.eval rfl) w') ?_; clear hf a; intro a hf
      refine m_held hf rfl (fun w' _ => x_nilCheck (hf.eval rfl) w') ?_; clear hf a; intro a hf
      refine m_held hf rfl (fun w' _ => x_fieldAddr fo78_3 (hf.eval rfl) w') ?_; clear hf a; intro a hf
      refine m_held hf rfl (fun w' hc => x_load sc76 (hf.eval rfl) hc.2.1) ?_; clear hf a; intro a hf
      refine m_held hf rfl (fun w' _ => x_move (hf.eval rfl) w') ?_; clear hf a; intro a hf
      refine m_held hf rfl (fun w' _ => x_move (hf.eval rfl) w') ?_; clear hf a; intro a hf
      refine m_held hf rfl (fun w' _ => x_nilCheck (hf.eval rfl) w') ?_; clear hf a; intro a hf
      refine m_held hf rfl (fun w' _ => x_fieldAddr fo78_3 (hf.eval rfl) w') ?_; clear hf a; intro a hf
      refine m_held hf rfl (fun w' hc => x_load sc76 (hf.eval rfl) hc.2.1) ?_; clear hf a; intro a hf
      refine m_held hf rfl (fun w' _ => x_move (hf.eval rfl) w') ?_; clear hf a; intro a hf
      refine m_held hf rfl (fun w' hc => x_lookup (hf.eval rfl) (hf.eval rfl) (hlook _ hc.1)) ?_; clear hf a; intro a hf
      refine m_held hf rfl (fun w' _ => x_move (hf.eval rfl) w') ?_; clear hf a; intro a hf
      refine m_held hf rfl (fun w' _ => x_move (hf.eval rfl) w') ?_; clear hf a; intro a hf
      refine m_held hf rfl (fun w' _ => x_move (hf.eval rfl) w') ?_; clear hf a; intro a hf
      refine m_held hf rfl (fun w' _ => x_slice_hi sl22 (hf.eval rfl) (hf.eval rfl)  (by omega) (by omega)  w') ?_; clear hf a; intro a hf
      replace hf := hf.now (k := 71) (v' := .slice a' ((data.drop k).take q).length c') rfl (by first | rfl | (rw [hcq]; done) | (rw [hcq]; rfl))
      refine m_eff hf rfl (y_call (hf.eval rfl) (hf.evals rfl) Try.call53 ((dclone_spec _ _ _ ((data.drop k).take q) (by rw [hcq]; exact RdB.pre hC.2.2 hdk (by omega)) (by omega)).mono ?_))
      rintro e w1 ⟨e1, fe1, rfl, hj⟩
      replace hs := hs.join hj
      simp only [List.cons_append, List.nil_append] at hs
      refine ⟨_, rfl, ⟨⟨hs.blk_at (.there _ (.there _ (.there _ (.here _)))), hs.cell (k := 3) (.there _ (.there _ (.there _ (.there _ (.there _ (.here _)))))) rfl, hr' _ [_, _, _, _, _, _, _, _, _] hs⟩, ?_⟩⟩; clear hf a; intro a hf
      refine m_held hf rfl (fun w' hc => x_build (v := .agg #[.int .i64 ((at_ + k : Nat) : Int), .slice e1 ((data.drop k).take q).length fe1]) (hf.parts rfl) (fun w => by kernel_rfl) _) ?_; clear hf a; intro a hf
      refine m_eff hf rfl (y_lit (xs := [.tmp 73]) hs sl81 (hf.evals rfl) rfl (by simp [Value.cells]) (by decide) ?_); clear hf hs a; intro b2 w hs; refine ⟨⟨hs.blk_at (.there _ (.there _ (.there _ (.there _ (.here _))))), hs.cell (k := 3) (.there _ (.there _ (.there _ (.there _ (.there _ (.there _ (.here _))))))) rfl, hr' _ [_, _, _, _, _, _, _, _, _, _] hs⟩, ?_⟩; intro a hf
      refine m_eff hf rfl (y_append (n := ps.length) (m := 1) (ys := [.int .i64 ((at_ + k : Nat) : Int), .slice e1 ((data.drop k).take q).length fe1]) hs sl81 (hf.eval rfl) (hf.eval rfl) (.there _ (.there _ (.here _))) (hs.rd (.here _) fun h hb => rd_rows hb rfl) (by simp [Value.oneCell']) (by omega) (by rw [maxLen_eq]; omega) ?_); clear hf hs a; intro v2 w hs hv; refine ⟨⟨hs.blk_at (.there _ (.there _ (.there _ (.there _ (.here _))))), hs.cell (k := 3) (.there _ (.there _ (.there _ (.there _ (.there _ (.there _ (.here _))))))) rfl, hr' _ [_, _, _, _, _, _, _, _, _, _] hs⟩, ?_⟩; intro a hf
      replace hs := push_form (at_ := at_ + k) (hs.lose (.there _ (.here _))) (by simp) (by simp [pcF])
      obtain ⟨es2, clk2, hm2, hi1, hi2, hup⟩ := hupd v2 (ps ++ [(at_ + k, .slice e1 ((data.drop k).take q).length fe1, (data.drop k).take q)])
      obtain ⟨w9, hrun, hs⟩ := hup _ hs
      have hg2 : Grp es2 (P ++ [(at_ + k, (data.drop k).take q)]) := grp_push hg (by rw [hi1, List.map_append, hps]; rfl) hi2
      refine m_fin0 hf rfl (y_mapUpdate (hf.eval rfl) (hf.eval rfl) (hf.eval rfl) hrun ?_); clear hf a; intro a hf
      replace hs := diskA_close (s := { s with now := (spl (ext s.now (at_ + data.length)) at_ data), pcs := P ++ [(at_ + k, (data.drop k).take q)] }) (x := ⟨_, _, m, _, es2, clk2⟩) hm2 hg2 (((hs.take (.there _ (.there _ (.there _ (.there _ (.here _)))))).take (.there _ (.there _ (.there _ (.there _ (.here _)))))).take (.there _ (.there _ (.there _ (.there _ (.here _))))))
      refine then_n ?_
      refine wp_seq ?_
      refine wp_region_lit ?_
      refine s_m hf rfl ?_; clear hf a; intro a hf
      refine s_m hf rfl ?_; clear hf a; intro a hf
      refine s_v hf (x_bin (hf.eval rfl) (hf.eval rfl) (r_addi _ (by omega) (by omega))) ?_; clear hf a; intro a hf
      replace hf := hf.now (k := 78) (v' := .int .i64 ((at_ + (k + q) : Nat) : Int)) rfl (by congr 1; omega)
      refine s_a hf rfl ?_; clear hf a; intro a hf
      refine s_nil ?_
      refine then_n ?_
      refine wp_region_lit ?_
      refine s_m hf rfl ?_; clear hf a; intro a hf
      refine s_m hf rfl ?_; clear hf a; intro a hf
      refine s_v hf (x_slice_lo sl22 (hf.eval rfl) (hf.eval rfl)  (by omega) (by omega) ) ?_; clear hf a; intro a hf
      replace hf := hf.now (k := 81) (v' := .slice (subA a' c' q 1) (data.length - (k + q)) (c' - q)) rfl (by congr 1; omega)
      have hr2 := Rdy.rest hr' hdk (i := q) (by omega)
      rw [List.drop_drop, show data.length - k - q = data.length - (k + q) by omega] at hr2
      have hP2 : P ++ [(at_ + k, (data.drop k).take q)] ++ cut (at_ + (k + q)) (data.drop (k + q)) = s.pcs ++ cut at_ data := by rw [← hP, cut_cons (l := data.drop k) (by intro h9; rw [h9] at hdk; simp at hdk; omega), hdk, ← hq, List.drop_drop, Nat.add_assoc, List.append_assoc]; rfl
      refine s_a hf rfl ?_; clear hf a; intro a hf
      refine s_nil ?_
      refine blk_n ?_
      exact ⟨_, _, ⟨k + q, _, _, P ++ [(at_ + k, (data.drop k).take q)], rfl, rfl, by omega, hP2, hr2, hs⟩, by omega, hf.sub ⟨rfl, rfl, rfl, trivial⟩⟩
    · simp only [decide_eq_true_eq, decide_eq_false_iff_not, Bool.not_eq_true', Bool.not_eq_false', Bool.not_eq_true, Int.not_lt, Int.not_le] at hi1
      refine wp_exit ?_
      refine then_x ?_
      refine then_x ?_
      refine blk_x ?_
      refine r_0n hf Try.results55 ?_
      have hk9 : k = data.length := by omega
      subst hk9
      rw [List.drop_length, cut_nil, List.append_nil] at hP
      subst hP
      exact ⟨rfl, hs⟩
  · simp only [decide_eq_true_eq, decide_eq_false_iff_not, Bool.not_eq_true', Bool.not_eq_false', Bool.not_eq_true, Int.not_lt, Int.not_le] at hi0
    have hEs : E = s.now := by rw [hE, ext_same (by omega)]
    rw [← hEs] at hs
    refine wp_skip ?_
    refine then_n ?_
    refine wp_seq ?_
    refine wp_region_lit ?_
    obtain ⟨b1, cc, hb1, _⟩ := slB_block (hs.take (.there _ (.here _))) (by omega)
    injection hb1 with hb1 _ hb1c
    subst hb1
    refine s_m hf rfl ?_; clear hf a; intro a hf
    refine s_v hf (x_nilCheck (hf.eval rfl)) ?_; clear hf a; intro a hf
    refine s_v hf (x_fieldAddr fo78_1 (hf.eval rfl)) ?_; clear hf a; intro a hf
    refine s_r hf (x_load sc22 (hf.eval rfl) (by first | exact hs.cell (.here _) rfl | exact hs.cell (.there _ (.here _)) rfl | exact hs.cell (.there _ (.there _ (.here _))) rfl | exact hs.cell (.there _ (.there _ (.there _ (.here _)))) rfl | exact hs.cell (.there _ (.there _ (.there _ (.there _ (.here _))))) rfl | exact hs.cell (.there _ (.there _ (.there _ (.there _ (.there _ (.here _)))))) rfl)) ?_; clear hf a; intro a hf
    refine s_m hf rfl ?_; clear hf a; intro a hf
    refine s_v hf (x_slice_lo sl22 (hf.eval rfl) (hf.eval rfl)  (by omega) (by omega) ) ?_; clear hf a; intro a hf
    replace hf := hf.now (k := 41) (v' := .slice (subA (some ⟨b1, 0, none⟩) cc at_ 1) (E.length - at_) (cc - at_)) rfl (by rw [hb1c]; rfl)
    refine s_m hf rfl ?_; clear hf a; intro a hf
    subst hb1c
    refine s_do hf rfl (y_copyAt (T := 5) (n := E.length) (o := at_) (s := data) hs sl22 (hf.eval rfl) rfl (hf.eval rfl) (.there _ (.here _)) (hr _ [_, _, _, _, _, _] hs) (by omega) rfl ?_); clear hf hs a; intro w hs a hf
    rw [show min data.length (E.length - at_) = data.length by omega, List.take_length] at hs
    have hXl : (spl E at_ data).length = E.length := spl_length _ _ _ (by omega)
    rw [← hXl] at hs
    replace hs := diskA_close (s := { s with now := spl E at_ data }) (x := ⟨_, _, m, _, es, clk⟩) hm hg (hs.take (.there _ (.here _)))
    rw [hE] at hs
    replace hs : St σ w (diskA 78 83 5 3 p { s with now := (spl (ext s.now (at_ + data.length)) at_ data), pcs := s.pcs } :: R) := hs
    refine s_nil ?_
    refine then_n ?_
    refine wp_block ?_
    refine c_loop (L0 := [(0, _)]) (fun M w m => ∃ (k : Nat) (a' : Option Addr) (c' : Nat) (P : List Pc), M = [(1, .int .i64 ((at_ + k : Nat) : Int)), (2, .slice a' (data.length - k) c')] ∧ data.length - k = m ∧ k ≤ data.length ∧ P ++ cut (at_ + k) (data.drop k) = s.pcs ++ cut at_ data ∧ Rdy σ R (.slice a' (data.length - k) c') (data.drop k) ∧ St σ w (diskA 78 83 5 3 p { s with now := (spl (ext s.now (at_ + data.length)) at_ data), pcs := P } :: R)) (M0 := _) (⟨0, ad, cd, s.pcs, rfl, rfl, Nat.zero_le _, rfl, hr, hs⟩) (hf.sub ⟨rfl, rfl, rfl, trivial⟩) ?_
    clear hf hs a
    rintro M m a w ⟨k, a', c', P, rfl, rfl, hk, hP, hr', hs⟩ hf
    clear hr
    refine wp_seq ?_
    refine wp_seq ?_
    refine wp_region_lit ?_
    refine s_m hf rfl ?_; clear hf a; intro a hf
    refine s_v hf (x_len Try.underlying22 (hf.eval rfl)) ?_; clear hf a; intro a hf
    refine s_v hf (x_bin (hf.eval rfl) (hf.eval rfl) (r_gt _ _ _ _)) ?_; clear hf a; intro a hf
    refine s_nil ?_
    refine then_n ?_
    refine c_cond hf rfl (fun hi1 => ?_) (fun hi1 => ?_)
    · simp only [decide_eq_true_eq, decide_eq_false_iff_not, Bool.not_eq_true', Bool.not_eq_false', Bool.not_eq_true, Int.not_lt, Int.not_le] at hi1
      have hlt : k < data.length := by omega
      obtain ⟨q, hq⟩ : ∃ q, q = secN (at_ + k) (data.length - k) := ⟨_, rfl⟩
      have hq0 : 0 < q := by rw [hq]; exact secN_pos (by omega)
      have hq1 : q ≤ data.length - k := by rw [hq]; exact secN_le _ _
      have hdk : (data.drop k).length = data.length - k := List.length_drop ..
      have hcq : ((data.drop k).take q).length = q := by rw [List.length_take]; omega
      have hP9 : P.length ≤ 1099511700000 := by have h9 := congrArg List.length hP; simp only [List.length_append] at h9; have := cut_len data.length at_ data (Nat.le_refl _); omega
      obtain ⟨⟨v1, v2, m, v4, es, clk⟩, hm, hg, hs⟩ := diskA_open hs
      dsimp only at hm hg hs
      obtain ⟨a1, c1, rfl, hc1⟩ := slB_shape (hs.take (.there _ (.here _)))
      obtain ⟨a2, c2, rfl, hc2⟩ := slB_shape (hs.take (.there _ (.there _ (.here _))))
      obtain ⟨a4, c4, rfl⟩ := sl_shape (hs.take (.there _ (.there _ (.there _ (.there _ (.there _ (.here _)))))))
      refine wp_skip ?_
      refine then_n ?_
      refine wp_block ?_
      refine wp_seq ?_
      refine wp_region_lit ?_
      refine s_m hf rfl ?_; clear hf a; intro a hf
      refine s_v hf (x_bin (hf.eval rfl) (hf.eval rfl) (r_quon _ (by omega) (by omega) (by omega))) ?_; clear hf a; intro a hf
      replace hf := hf.now (k := 48) (v' := .int .i64 (((at_ + k) / 512 : Nat) : Int)) rfl (rfl)
      refine s_a hf rfl ?_; clear hf a; intro a hf
      refine s_nil ?_
      refine then_n ?_
      refine wp_seq ?_
      refine wp_region_lit ?_
      refine s_m hf rfl ?_; clear hf a; intro a hf
      refine s_v hf (x_len Try.underlying22 (hf.eval rfl)) ?_; clear hf a; intro a hf
      refine s_m hf rfl ?_; clear hf a; intro a hf
      refine s_v hf (x_bin (hf.eval rfl) (hf.eval rfl) (r_addi _ (by omega) (by omega))) ?_; clear hf a; intro a hf
      refine s_v hf (x_bin (hf.eval rfl) (hf.eval rfl) (r_muli _ (by omega) (by omega))) ?_; clear hf a; intro a hf
      refine s_m hf rfl ?_; clear hf a; intro a hf
      refine s_v hf (x_bin (hf.eval rfl) (hf.eval rfl) (r_subi _ (by omega) (by omega))) ?_; clear hf a; intro a hf
      refine s_v hf (x_minI (hf.eval rfl) (hf.eval rfl)) ?_; clear hf a; intro a hf
      replace hf := hf.now (k := 56) (v' := .int .i64 (q : Int)) rfl (by rw [hq]; unfold secN; congr 1; omega)
      refine s_a hf rfl ?_; clear hf a; intro a hf
      refine s_nil ?_
      refine then_n ?_
      refine wp_seq ?_
      obtain ⟨vv, ps, er, hps, hs, hlook, hupd⟩ := map_open (Q := 83) (T := 5) ((at_ + k) / 512) mpT hm ((hs.take (.there _ (.there _ (.there _ (.there _ (.here _)))))).take (.there _ (.there _ (.there _ (.there _ (.here _))))))
      have hpl : ps.length ≤ P.length := by have h9 := congrArg List.length hps; rw [List.length_map] at h9; have := eps_len hg ((at_ + k) / 512); omega
      have hcap := (hr' _ [_, _, _, _, _, _, _, _] hs).cap
      refine c_draw hs (fun w' => w'.heap[m]? = some (.map (es.map Ent.mem).toArray clk) ∧ w'.cell? ⟨p, 3, none⟩ = some (.map (some m)) ∧ RdB (hp w') (.slice a' (data.length - k) c') (data.drop k)) [.held, .held, .held, .held, .held, .held, .held, .held, .held, .held, .held, .held, .held, .held, .held, .eff, .held, .eff, .eff, .fin] (by kernel_rfl) (by kernel_rfl) (fun w' _ hs => ⟨hs.blk_at (.there _ (.there _ (.here _))), hs.cell (k := 3) (.there _ (.there _ (.there _ (.there _ (.here _))))) rfl, hr' _ [_, _, _, _, _, _, _, _] hs⟩) ?_
      clear hs; intro w hs hC hw
      refine m_held hf rfl (fun w' _ => x_move (hf.eval rfl) w') ?_; clear hf a; intro a hf
      refine m_held hf rfl (fun w' _ => x_nilCheck (hf.eval rfl) w') ?_; clear hf a; intro a hf
      refine m_held hf rfl (fun w' _ => x_fieldAddr fo78_3 (hf.eval rfl) w') ?_; clear hf a; intro a hf
      refine m_held hf rfl (fun w' hc => x_load sc76 (hf.eval rfl) hc.2.1) ?_; clear hf a; intro a hf
      refine m_held hf rfl (fun w' _ => x_move (hf.eval rfl) w') ?_; clear hf a; intro a hf
      refine m_held hf rfl (fun w' _ => x_move (hf.eval rfl) w') ?_; clear hf a; intro a hf
      refine m_held hf rfl (fun w' _ => x_nilCheck (hf.eval rfl) w') ?_; clear hf a; intro a hf
      refine m_held hf rfl (fun w' _ => x_fieldAddr fo78_3 (hf.eval rfl) w') ?_; clear hf a; intro a hf
      refine m_held hf rfl (fun w' hc => x_load sc76 (hf.eval rfl) hc.2.1) ?_; clear hf a; intro a hf
      refine m_held hf rfl (fun w' _ => x_move (hf.eval rfl) w') ?_; clear hf a; intro a hf
      refine m_held hf rfl (fun w' hc => x_lookup (hf.eval rfl) (hf.eval rfl) (hlook _ hc.1)) ?_; clear hf a; intro a hf
      refine m_held hf rfl (fun w' _ => x_move (hf.eval rfl) w') ?_; clear hf a; intro a hf
      refine m_held hf rfl (fun w' _ => x_move (hf.eval rfl) w') ?_; clear hf a; intro a hf
      refine m_held hf rfl (fun w' _ => x_move (hf.eval rfl) w') ?_; clear hf a; intro a hf
      refine m_held hf rfl (fun w' _ => x_slice_hi sl22 (hf.eval rfl) (hf.eval rfl)  (by omega) (by omega)  w') ?_; clear hf a; intro a hf
      replace hf := hf.now (k := 71) (v' := .slice a' ((data.drop k).take q).length c') rfl (by first | rfl | (rw [hcq]; done) | (rw [hcq]; rfl))
      refine m_eff hf rfl (y_call (hf.eval rfl) (hf.evals rfl) Try.call53 ((dclone_spec _ _ _ ((data.drop k).take q) (by rw [hcq]; exact RdB.pre hC.2.2 hdk (by omega)) (by omega)).mono ?_))
      rintro e w1 ⟨e1, fe1, rfl, hj⟩
      replace hs := hs.join hj
      simp only [List.cons_append, List.nil_append] at hs
      refine ⟨_, rfl, ⟨⟨hs.blk_at (.there _ (.there _ (.there _ (.here _)))), hs.cell (k := 3) (.there _ (.there _ (.there _ (.there _ (.there _ (.here _)))))) rfl, hr' _ [_, _, _, _, _, _, _, _, _] hs⟩, ?_⟩⟩; clear hf a; intro a hf
      refine m_held hf rfl (fun w' hc => x_build (v := .agg #[.int .i64 ((at_ + k : Nat) : Int), .slice e1 ((data.drop k).take q).length fe1]) (hf.parts rfl) (fun w => by kernel_rfl) _) ?_; clear hf a; intro a hf
      refine m_eff hf rfl (y_lit (xs := [.tmp 73]) hs sl81 (hf.evals rfl) rfl (by simp [Value.cells]) (by decide) ?_); clear hf hs a; intro b2 w hs; refine ⟨⟨hs.blk_at (.there _ (.there _ (.there _ (.there _ (.here _))))), hs.cell (k := 3) (.there _ (.there _ (.there _ (.there _ (.there _ (.there _ (.here _))))))) rfl, hr' _ [_, _, _, _, _, _, _, _, _, _] hs⟩, ?_⟩; intro a hf
      refine m_eff hf rfl (y_append (n := ps.length) (m := 1) (ys := [.int .i64 ((at_ + k : Nat) : Int), .slice e1 ((data.drop k).take q).length fe1]) hs sl81 (hf.eval rfl) (hf.eval rfl) (.there _ (.there _ (.here _))) (hs.rd (.here _) fun h hb => rd_rows hb rfl) (by simp [Value.oneCell']) (by omega) (by rw [maxLen_eq]; omega) ?_); clear hf hs a; intro v2 w hs hv; refine ⟨⟨hs.blk_at (.there _ (.there _ (.there _ (.there _ (.here _))))), hs.cell (k := 3) (.there _ (.there _ (.there _ (.there _ (.there _ (.there _ (.here _))))))) rfl, hr' _ [_, _, _, _, _, _, _, _, _, _] hs⟩, ?_⟩; intro a hf
      replace hs := push_form (at_ := at_ + k) (hs.lose (.there _ (.here _))) (by simp) (by simp [pcF])
      obtain ⟨es2, clk2, hm2, hi1, hi2, hup⟩ := hupd v2 (ps ++ [(at_ + k, .slice e1 ((data.drop k).take q).length fe1, (data.drop k).take q)])
      obtain ⟨w9, hrun, hs⟩ := hup _ hs
      have hg2 : Grp es2 (P ++ [(at_ + k, (data.drop k).take q)]) := grp_push hg (by rw [hi1, List.map_append, hps]; rfl) hi2
      refine m_fin0 hf rfl (y_mapUpdate (hf.eval rfl) (hf.eval rfl) (hf.eval rfl) hrun ?_); clear hf a; intro a hf
      replace hs := diskA_close (s := { s with now := (spl (ext s.now (at_ + data.length)) at_ data), pcs := P ++ [(at_ + k, (data.drop k).take q)] }) (x := ⟨_, _, m, _, es2, clk2⟩) hm2 hg2 (((hs.take (.there _ (.there _ (.there _ (.there _ (.here _)))))).take (.there _ (.there _ (.there _ (.there _ (.here _)))))).take (.there _ (.there _ (.there _ (.there _ (.here _))))))
      refine then_n ?_
      refine wp_seq ?_
      refine wp_region_lit ?_
      refine s_m hf rfl ?_; clear hf a; intro a hf
      refine s_m hf rfl ?_; clear hf a; intro a hf
      refine s_v hf (x_bin (hf.eval rfl) (hf.eval rfl) (r_addi _ (by omega) (by omega))) ?_; clear hf a; intro a hf
      replace hf := hf.now (k := 78) (v' := .int .i64 ((at_ + (k + q) : Nat) : Int)) rfl (by congr 1; omega)
      refine s_a hf rfl ?_; clear hf a; intro a hf
      refine s_nil ?_
      refine then_n ?_
      refine wp_region_lit ?_
      refine s_m hf rfl ?_; clear hf a; intro a hf
      refine s_m hf rfl ?_; clear hf a; intro a hf
      refine s_v hf (x_slice_lo sl22 (hf.eval rfl) (hf.eval rfl)  (by omega) (by omega) ) ?_; clear hf a; intro a hf
      replace hf := hf.now (k := 81) (v' := .slice (subA a' c' q 1) (data.length - (k + q)) (c' - q)) rfl (by congr 1; omega)
      have hr2 := Rdy.rest hr' hdk (i := q) (by omega)
      rw [List.drop_drop, show data.length - k - q = data.length - (k + q) by omega] at hr2
      have hP2 : P ++ [(at_ + k, (data.drop k).take q)] ++ cut (at_ + (k + q)) (data.drop (k + q)) = s.pcs ++ cut at_ data := by rw [← hP, cut_cons (l := data.drop k) (by intro h9; rw [h9] at hdk; simp at hdk; omega), hdk, ← hq, List.drop_drop, Nat.add_assoc, List.append_assoc]; rfl
      refine s_a hf rfl ?_; clear hf a; intro a hf
      refine s_nil ?_
      refine blk_n ?_
      exact ⟨_, _, ⟨k + q, _, _, P ++ [(at_ + k, (data.drop k).take q)], rfl, rfl, by omega, hP2, hr2, hs⟩, by omega, hf.sub ⟨rfl, rfl, rfl, trivial⟩⟩
    · simp only [decide_eq_true_eq, decide_eq_false_iff_not, Bool.not_eq_true', Bool.not_eq_false', Bool.not_eq_true, Int.not_lt, Int.not_le] at hi1
      refine wp_exit ?_
      refine then_x ?_
      refine then_x ?_
      refine blk_x ?_
      refine r_0n hf Try.results55 ?_
      have hk9 : k = data.length := by omega
      subst hk9
      rw [List.drop_length, cut_nil, List.append_nil] at hP
      subst hP
      exact ⟨rfl, hs⟩

end Go.Proofs.Ytjfnpbeehjhmbaa
