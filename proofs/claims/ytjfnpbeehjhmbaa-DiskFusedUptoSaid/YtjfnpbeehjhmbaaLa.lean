/- The statements DiskSynced, DiskKeepsAll, DiskCrashes. -/
import Derived.Test.YtjfnpbeehjhmbaaVQ
import Derived.Test.YtjfnpbeehjhmbaaLh
import Derived.Test.YtjfnpbeehjhmbaaProg
import Derived.Test.YtjfnpbeehjhmbaaFacts
set_option maxRecDepth 100000
set_option linter.all false
namespace Go.Proofs.Ytjfnpbeehjhmbaa
open Go Vw
theorem nilC {σ : Sig} {R : List Asrt} : RdyS iF 1 σ R (.slice none (([] : List Int)).length 0) [] := fun w L hs => ⟨rfl, .inl ⟨0, rfl, rfl⟩⟩
theorem chS_dur (s : DS) (o : DOp) : (o.1 = 4 → Free s → (chS s o).2.dur = (chS s o).2.now) ∧ (o.1 ≠ 4 → (chS s o).2.dur = s.dur) := by
  have e := spent_now s
  refine ⟨fun h hf => ?_, fun h => ?_⟩
  · rw [chS_4 h, syS_some hf.dead (show s.fuse ≠ 0 by have := hf.fuse; omega)]
    exact e.1.symm
  · unfold chS
    split
    · unfold wrS
      repeat' split
      all_goals first | rfl | exact e.2.2.1 | skip
      rw [(sized_same _ _).2.2.1]
      unfold layW; split <;> exact e.2.2.1
    · split
      · unfold trS
        repeat' split
        all_goals first | rfl | exact e.2.2.1 | skip
        rw [(sized_same _ _).2.2.1]
        unfold trN trC; split <;> exact e.2.2.1
      · first | rfl | rw [if_neg h]

theorem diskSynced_spec (w0 : World) (a1 : Option Addr) (c1 : Nat) (image : List UInt8) (hr1 : RdB (hp w0) (.slice a1 image.length c1) image) (hl1 : image.length ≤ 140737488351232) (cap : Int) (asc : Option Addr) (csc : Nat) (ops : List DOp) (hrosc : RdS opF 7 (hp w0) (.slice asc ops.length csc) ops) (hogsc : ∀ o ∈ ops, DOpG (hp w0) o) (hlosc : ops.length ≤ 1048576) (csz : Int) (ac : Option Addr) (cc : Nat) (secs : List Int) (rest : Int) (hrc : RdS iF 1 (hp w0) (.slice ac secs.length cc) secs) (hlc : secs.length ≤ 1048576) : Calls Try.prog 8 #[.slice a1 image.length c1, .int .i64 cap, .slice asc ops.length csc, .agg #[.int .i64 csz, .slice ac secs.length cc, .int .i64 rest]] w0 fun e w' => e = .returned (.bool true) ∧ Kept w0 w' None_ := by
  have hs := St.start w0 None_
  refine c_enter (N := 68) Try.func8 rfl Try.ntmps8 (by simp) ?_
  intro a hf
  refine wp_seq ?_
  refine wp_region_lit ?_
  refine s_do hf rfl (y_box hs (hf.eval rfl) ?_); clear hf hs a; intro cx w hs a hf
  replace hs : St ⟨w0, None_⟩ w [cb cx 40 [.int .i64 csz, .slice ac secs.length cc, .int .i64 rest]] := hs
  refine s_a hf rfl ?_; clear hf a; intro a hf
  refine s_nil ?_
  refine then_n ?_
  refine wp_seq ?_
  refine wp_seq ?_
  refine wp_region_lit ?_
  refine s_m hf rfl ?_; clear hf a; intro a hf
  refine s_m hf rfl ?_; clear hf a; intro a hf
  refine s_do hf rfl (y_call (hf.eval rfl) (hf.evals rfl) Try.call25 ((fits_spec _ a1 image.length c1 cap).mono ?_))
  rintro e w1 ⟨rfl, hw9⟩
  rw [hw9]
  clear hw9 w1
  refine ⟨_, rfl, ?_⟩; clear hf a; intro a hf
  refine s_v hf (x_not (hf.eval rfl)) ?_; clear hf a; intro a hf
  refine s_nil ?_
  refine then_n ?_
  refine c_cond hf rfl (fun hi0 => ?_) (fun hi0 => ?_)
  · simp only [Bool.not_eq_true', Bool.not_eq_false', decide_eq_true_eq, decide_eq_false_iff_not] at hi0
    refine wp_seq ?_
    refine wp_region_lit ?_
    refine s_a hf rfl ?_; clear hf a; intro a hf
    refine s_nil ?_
    refine then_n ?_
    refine wp_ret ?_
    refine then_r ?_
    refine r_1 hf Try.results8 rfl ?_
    exact ⟨rfl, hs.kept⟩
  · simp only [Bool.not_eq_true', Bool.not_eq_false', decide_eq_true_eq, decide_eq_false_iff_not] at hi0
    obtain ⟨hc1, hc2, hc3⟩ := hi0
    refine wp_skip ?_
    refine then_n ?_
    refine wp_seq ?_
    refine wp_region_lit ?_
    refine s_m hf rfl ?_; clear hf a; intro a hf
    refine s_m hf rfl ?_; clear hf a; intro a hf
    refine s_do hf rfl (y_call (hf.eval rfl) (hf.evals rfl) Try.call26 ((fresh_spec _ a1 c1 image (hs.oldB hr1) hl1 cap hc1 hc2 hc3).mono ?_))
    rintro e w1 ⟨p, rfl, hj⟩
    replace hs := hs.join hj
    simp only [List.cons_append, List.nil_append] at hs
    refine ⟨_, rfl, ?_⟩; clear hf a; intro a hf
    refine s_a hf rfl ?_; clear hf a; intro a hf
    refine s_nil ?_
    refine then_n ?_
    refine wp_seq ?_
    refine wp_seq ?_
    refine wp_region_lit ?_
    refine s_m hf rfl ?_; clear hf a; intro a hf
    refine s_v hf (x_eqNil Try.underlying23 (hf.eval rfl) (hf.eval rfl)) ?_; clear hf a; intro a hf
    replace hf := hf.now (k := 24) (v' := .bool false) rfl rfl
    refine s_nil ?_
    refine then_n ?_
    refine c_cond_f hf rfl rfl ?_
    refine wp_skip ?_
    refine then_n ?_
    refine wp_seq ?_
    refine wp_seq ?_
    refine wp_region_lit ?_
    refine s_a hf rfl ?_; clear hf a; intro a hf
    refine s_nil ?_
    refine then_n ?_
    refine wp_block ?_
    refine c_loop (L0 := [(1, _), (2, _), (7, _), (9, _)]) (fun M w m => ∃ (i : Nat) (s : DS), M = [(10, .int .i64 (i : Int))] ∧ ops.length - i = m ∧ i ≤ ops.length ∧ DOk s ∧ DB s i ∧ Free s ∧ s.room = cap ∧ True ∧ St ⟨w0, None_⟩ w [diskA 78 83 5 3 p s, cb cx 40 [.int .i64 csz, .slice ac secs.length cc, .int .i64 rest]]) (M0 := [(10, .int .i64 0)]) (⟨0, newS image cap, rfl, rfl, Nat.zero_le _, newS_ok hc1 hc2 hc3, newS_b _ _ _, newS_free _ _, rfl, trivial, hs⟩) (hf.sub ⟨rfl, rfl, rfl, rfl, rfl, trivial⟩) ?_
    clear hf hs a
    rintro M m a w ⟨i, s, rfl, rfl, hi, ho, hb, hfr, hrm, _, hs⟩ hf
    refine wp_seq ?_
    refine wp_seq ?_
    refine wp_region_lit ?_
    refine s_m hf rfl ?_; clear hf a; intro a hf
    refine s_m hf rfl ?_; clear hf a; intro a hf
    refine s_v hf (x_len Try.underlying58 (hf.eval rfl)) ?_; clear hf a; intro a hf
    refine s_v hf (x_bin (hf.eval rfl) (hf.eval rfl) (r_lt _ _ _ _)) ?_; clear hf a; intro a hf
    refine s_nil ?_
    refine then_n ?_
    refine c_cond hf rfl (fun hi2 => ?_) (fun hi2 => ?_)
    · simp only [decide_eq_true_eq, decide_eq_false_iff_not, Bool.not_eq_true', Bool.not_eq_false', Bool.not_eq_true, Int.not_lt, Int.not_le] at hi2
      have hlt : i < ops.length := by omega
      obtain ⟨asc, rfl⟩ := hrosc.some (by omega)
      have hg := hogsc _ (List.getElem_mem hlt)
      have hcf := chS_free hfr ops[i]
      refine wp_skip ?_
      refine then_n ?_
      refine wp_seq ?_
      refine wp_block ?_
      refine wp_seq ?_
      refine wp_region_lit ?_
      refine s_m hf rfl ?_; clear hf a; intro a hf
      refine s_m hf rfl ?_; clear hf a; intro a hf
      refine s_m hf rfl ?_; clear hf a; intro a hf
      refine s_v hf (x_indexAddr sl58 (hf.eval rfl) (hf.eval rfl) (by omega) (by omega)) ?_; clear hf a; intro a hf
      refine s_r hf (x_loadS (f := opF) ag42 (fun _ => rfl) (hs.old hrosc) (hf.eval rfl) (by simpa using hlt)) ?_; clear hf a; intro a hf
      replace hs := hs.take (A := diskA 78 83 5 3 p s) (by first | exact .here _ | exact .there _ (.here _) | exact .there _ (.there _ (.here _)) | exact .there _ (.there _ (.there _ (.here _))) | exact .there _ (.there _ (.there _ (.there _ (.here _)))) | exact .there _ (.there _ (.there _ (.there _ (.there _ (.here _))))) | exact .there _ (.there _ (.there _ (.there _ (.there _ (.there _ (.here _)))))) | exact .there _ (.there _ (.there _ (.there _ (.there _ (.there _ (.there _ (.here _))))))) | exact .there _ (.there _ (.there _ (.there _ (.there _ (.there _ (.there _ (.there _ (.here _)))))))) | exact .there _ (.there _ (.there _ (.there _ (.there _ (.there _ (.there _ (.there _ (.there _ (.here _))))))))) | exact .there _ (.there _ (.there _ (.there _ (.there _ (.there _ (.there _ (.there _ (.there _ (.there _ (.here _)))))))))) | exact .there _ (.there _ (.there _ (.there _ (.there _ (.there _ (.there _ (.there _ (.there _ (.there _ (.there _ (.here _))))))))))))
      refine s_do hf rfl (y_call (hf.eval rfl) (hf.evals rfl) Try.call41 ((change_spec _ _ _ p s hs ops[i] (Rdy.old hg.data) hg.len ho (hb.up (by omega))).mono ?_))
      rintro e w1 ⟨rfl, hs⟩
      refine ⟨_, rfl, ?_⟩; clear hf a; intro a hf
      refine s_a hf rfl ?_; clear hf a; intro a hf
      refine s_nil ?_
      refine then_n ?_
      refine wp_seq ?_
      refine wp_region_lit ?_
      refine s_m hf rfl ?_; clear hf a; intro a hf
      refine s_m hf rfl ?_; clear hf a; intro a hf
      refine s_m hf rfl ?_; clear hf a; intro a hf
      refine s_v hf (x_indexAddr sl58 (hf.eval rfl) (hf.eval rfl) (by omega) (by omega)) ?_; clear hf a; intro a hf
      refine s_r hf (x_loadS (f := opF) ag42 (fun _ => rfl) (hs.old hrosc) (hf.eval rfl) (by simpa using hlt)) ?_; clear hf a; intro a hf
      refine s_m hf rfl ?_; clear hf a; intro a hf
      refine s_do hf rfl (y_call (hf.eval rfl) (hf.evals rfl) Try.call30 ((refused_spec _ ops[i] cap hc1 hc2 hg.len hg.b1.2).mono ?_))
      rintro e w1 ⟨rfl, hk⟩
      replace hs := hs.ext hk
      refine ⟨_, rfl, ?_⟩; clear hf a; intro a hf
      refine s_v hf (x_bin (hf.eval rfl) (hf.eval rfl) (r_ne _ _ _ _)) ?_; clear hf a; intro a hf
      refine s_nil ?_
      refine then_n ?_
      refine c_cond_f hf rfl (by rw [hcf.2.2, hrm]; simp) ?_
      refine wp_skip ?_
      refine blk_n ?_
      refine then_n ?_
      refine wp_region_lit ?_
      refine s_m hf rfl ?_; clear hf a; intro a hf
      refine s_v hf (x_bin (hf.eval rfl) (hf.eval rfl) (r_addi _ (by omega) (by omega))) ?_; clear hf a; intro a hf
      refine s_a hf rfl ?_; clear hf a; intro a hf
      refine s_nil ?_
      exact ⟨_, _, ⟨i + 1, (chS s ops[i]).2, rfl, rfl, by omega, chS_ok ho _, chS_b ho hb _, hcf.1, hcf.2.1.trans hrm, trivial, hs⟩, by omega, hf.sub ⟨rfl, rfl, rfl, rfl, rfl, trivial⟩⟩
    · simp only [decide_eq_true_eq, decide_eq_false_iff_not, Bool.not_eq_true', Bool.not_eq_false', Bool.not_eq_true, Int.not_lt, Int.not_le] at hi2
      have hn1 := ho.now
      have hn2 := ho.room1
      refine wp_exit ?_
      refine then_x ?_
      refine then_x ?_
      refine blk_x ?_
      refine then_n ?_
      refine wp_seq ?_
      refine wp_region_lit ?_
      refine s_m hf rfl ?_; clear hf a; intro a hf
      replace hs := hs.take (A := diskA 78 83 5 3 p s) (by first | exact .here _ | exact .there _ (.here _) | exact .there _ (.there _ (.here _)) | exact .there _ (.there _ (.there _ (.here _))) | exact .there _ (.there _ (.there _ (.there _ (.here _)))) | exact .there _ (.there _ (.there _ (.there _ (.there _ (.here _))))) | exact .there _ (.there _ (.there _ (.there _ (.there _ (.there _ (.here _)))))) | exact .there _ (.there _ (.there _ (.there _ (.there _ (.there _ (.there _ (.here _))))))) | exact .there _ (.there _ (.there _ (.there _ (.there _ (.there _ (.there _ (.there _ (.here _)))))))) | exact .there _ (.there _ (.there _ (.there _ (.there _ (.there _ (.there _ (.there _ (.there _ (.here _))))))))) | exact .there _ (.there _ (.there _ (.there _ (.there _ (.there _ (.there _ (.there _ (.there _ (.there _ (.here _)))))))))) | exact .there _ (.there _ (.there _ (.there _ (.there _ (.there _ (.there _ (.there _ (.there _ (.there _ (.there _ (.here _))))))))))))
      refine s_do hf rfl (y_call (hf.eval rfl) (hf.evals rfl) Try.call19 ((dImage_spec _ _ _ p s hs (by omega)).mono ?_))
      rintro e w1 ⟨e1, fe1, rfl, hs⟩
      refine ⟨_, rfl, ?_⟩; clear hf a; intro a hf
      refine s_a hf rfl ?_; clear hf a; intro a hf
      refine s_nil ?_
      refine then_n ?_
      refine wp_seq ?_
      refine wp_seq ?_
      refine wp_region_lit ?_
      refine s_m hf rfl ?_; clear hf a; intro a hf
      replace hs := hs.take (A := diskA 78 83 5 3 p s) (by first | exact .here _ | exact .there _ (.here _) | exact .there _ (.there _ (.here _)) | exact .there _ (.there _ (.there _ (.here _))) | exact .there _ (.there _ (.there _ (.there _ (.here _)))) | exact .there _ (.there _ (.there _ (.there _ (.there _ (.here _))))) | exact .there _ (.there _ (.there _ (.there _ (.there _ (.there _ (.here _)))))) | exact .there _ (.there _ (.there _ (.there _ (.there _ (.there _ (.there _ (.here _))))))) | exact .there _ (.there _ (.there _ (.there _ (.there _ (.there _ (.there _ (.there _ (.here _)))))))) | exact .there _ (.there _ (.there _ (.there _ (.there _ (.there _ (.there _ (.there _ (.there _ (.here _))))))))) | exact .there _ (.there _ (.there _ (.there _ (.there _ (.there _ (.there _ (.there _ (.there _ (.there _ (.here _)))))))))) | exact .there _ (.there _ (.there _ (.there _ (.there _ (.there _ (.there _ (.there _ (.there _ (.there _ (.there _ (.here _))))))))))))
      refine s_do hf rfl (y_call (hf.eval rfl) (hf.evals rfl) Try.call42 ((dSync_spec _ _ _ p s hs ho (by have := hb.calls; omega) (by have := hb.pcs; omega) (by have := hb.sizes; omega)).mono ?_))
      rintro e w1 ⟨rfl, hs⟩
      have hsy := syS_some hfr.dead (show s.fuse ≠ 0 by have := hfr.fuse; omega)
      have hso := syS_ok ho
      have hsb := syS_b hb
      rw [hsy] at hs hso hsb ⊢
      obtain ⟨t, ht⟩ : ∃ t, t = (0, { spent s with dur := s.now, pcs := [], sizes := [] }).2 := ⟨_, rfl⟩
      rw [← ht] at hs hso hsb
      have htd : t.dur = s.now := by rw [ht]
      have htp : t.pcs = [] := by rw [ht]
      have htz : t.sizes = [] := by rw [ht]
      refine ⟨_, rfl, ?_⟩; clear hf a; intro a hf
      refine s_v hf (x_bin (hf.eval rfl) (hf.eval rfl) (r_ne _ _ _ _)) ?_; clear hf a; intro a hf
      refine s_nil ?_
      refine then_n ?_
      refine c_cond_f hf rfl rfl ?_
      refine wp_skip ?_
      refine then_n ?_
      refine wp_seq ?_
      refine wp_region_lit ?_
      refine s_m hf rfl ?_; clear hf a; intro a hf
      replace hs := hs.take (A := cb cx 40 [.int .i64 csz, .slice ac secs.length cc, .int .i64 rest]) (by first | exact .here _ | exact .there _ (.here _) | exact .there _ (.there _ (.here _)) | exact .there _ (.there _ (.there _ (.here _))) | exact .there _ (.there _ (.there _ (.there _ (.here _)))) | exact .there _ (.there _ (.there _ (.there _ (.there _ (.here _))))) | exact .there _ (.there _ (.there _ (.there _ (.there _ (.there _ (.here _)))))) | exact .there _ (.there _ (.there _ (.there _ (.there _ (.there _ (.there _ (.here _))))))) | exact .there _ (.there _ (.there _ (.there _ (.there _ (.there _ (.there _ (.there _ (.here _)))))))) | exact .there _ (.there _ (.there _ (.there _ (.there _ (.there _ (.there _ (.there _ (.there _ (.here _))))))))) | exact .there _ (.there _ (.there _ (.there _ (.there _ (.there _ (.there _ (.there _ (.there _ (.there _ (.here _)))))))))) | exact .there _ (.there _ (.there _ (.there _ (.there _ (.there _ (.there _ (.there _ (.there _ (.there _ (.there _ (.here _))))))))))))
      refine s_r hf (x_loadBlk hs ag40 (hf.eval rfl) rfl (.here _)) ?_; clear hf a; intro a hf
      refine s_do hf rfl (y_call (hf.eval rfl) (hf.evals rfl) Try.call34 ((choice_spec _ csz ac cc secs rest (hs.old hrc) hlc).mono ?_))
      rintro e w1 ⟨e3, fe3, rfl, hj⟩
      replace hs := hs.join hj
      simp only [List.cons_append, List.nil_append] at hs
      refine ⟨_, rfl, ?_⟩; clear hf a; intro a hf
      replace hs := hs.take (A := sl 3 1 (.slice e3 secs.length fe3) secs.length (secs.flatMap iF)) (by first | exact .here _ | exact .there _ (.here _) | exact .there _ (.there _ (.here _)) | exact .there _ (.there _ (.there _ (.here _))) | exact .there _ (.there _ (.there _ (.there _ (.here _)))) | exact .there _ (.there _ (.there _ (.there _ (.there _ (.here _))))) | exact .there _ (.there _ (.there _ (.there _ (.there _ (.there _ (.here _)))))) | exact .there _ (.there _ (.there _ (.there _ (.there _ (.there _ (.there _ (.here _))))))) | exact .there _ (.there _ (.there _ (.there _ (.there _ (.there _ (.there _ (.there _ (.here _)))))))) | exact .there _ (.there _ (.there _ (.there _ (.there _ (.there _ (.there _ (.there _ (.there _ (.here _))))))))) | exact .there _ (.there _ (.there _ (.there _ (.there _ (.there _ (.there _ (.there _ (.there _ (.there _ (.here _)))))))))) | exact .there _ (.there _ (.there _ (.there _ (.there _ (.there _ (.there _ (.there _ (.there _ (.there _ (.there _ (.here _))))))))))))
      replace hs := hs.take (A := diskA 78 83 5 3 p t) (by first | exact .here _ | exact .there _ (.here _) | exact .there _ (.there _ (.here _)) | exact .there _ (.there _ (.there _ (.here _))) | exact .there _ (.there _ (.there _ (.there _ (.here _)))) | exact .there _ (.there _ (.there _ (.there _ (.there _ (.here _))))) | exact .there _ (.there _ (.there _ (.there _ (.there _ (.there _ (.here _)))))) | exact .there _ (.there _ (.there _ (.there _ (.there _ (.there _ (.there _ (.here _))))))) | exact .there _ (.there _ (.there _ (.there _ (.there _ (.there _ (.there _ (.there _ (.here _)))))))) | exact .there _ (.there _ (.there _ (.there _ (.there _ (.there _ (.there _ (.there _ (.there _ (.here _))))))))) | exact .there _ (.there _ (.there _ (.there _ (.there _ (.there _ (.there _ (.there _ (.there _ (.there _ (.here _)))))))))) | exact .there _ (.there _ (.there _ (.there _ (.there _ (.there _ (.there _ (.there _ (.there _ (.there _ (.there _ (.here _))))))))))))
      refine s_do hf rfl (y_call (hf.eval rfl) (hf.evals rfl) Try.call33 ((dCrash_spec _ _ _ p t hs csz e3 fe3 secs rest hso (RdyS.own (.here _)) (by have := hsb.sizes; omega) (by have := hsb.pcs; omega)).mono ?_))
      rintro e w1 ⟨p2, rfl, hs⟩
      refine ⟨_, rfl, ?_⟩; clear hf a; intro a hf
      refine s_m hf rfl ?_; clear hf a; intro a hf
      refine s_v hf (x_extract (hf.eval rfl) rfl) ?_; clear hf a; intro a hf
      refine s_v hf (x_extract (hf.eval rfl) rfl) ?_; clear hf a; intro a hf
      refine s_a hf rfl ?_; clear hf a; intro a hf
      refine s_a hf rfl ?_; clear hf a; intro a hf
      refine s_nil ?_
      refine then_n ?_
      refine wp_seq ?_
      refine wp_seq ?_
      refine wp_region_lit ?_
      refine s_m hf rfl ?_; clear hf a; intro a hf
      refine s_v hf (x_bin (hf.eval rfl) (hf.eval rfl) (r_ne _ _ _ _)) ?_; clear hf a; intro a hf
      refine s_m hf rfl ?_; clear hf a; intro a hf
      replace hf := hf.now (k := 59) (v' := .bool false) rfl (congrArg Value.bool (by first | rfl | simp))
      refine s_do hf (wanted_of hf rfl rfl rfl) (.value (x_move (hf.eval rfl) _) ?_); clear hf a; intro a hf
      refine s_do hf (wanted_of hf rfl rfl rfl) (.value (x_eqNil Try.underlying23 (hf.eval rfl) (hf.eval rfl) _) ?_); clear hf a; intro a hf
      refine s_v hf (x_pick_f (hf.eval rfl) (hf.eval rfl)) ?_; clear hf a; intro a hf
      refine s_nil ?_
      refine then_n ?_
      refine c_cond_f hf rfl (by first | rfl | simp) ?_
      refine wp_skip ?_
      refine then_n ?_
      refine wp_seq ?_
      refine wp_region_lit ?_
      refine s_m hf rfl ?_; clear hf a; intro a hf
      have hol := outS_length t (csz, secs, rest)
      have hou := out_sync (c := (csz, secs, rest)) htp htz
      rw [htd] at hou
      rw [hou] at hs
      refine s_do hf rfl (y_call (hf.eval rfl) (hf.evals rfl) Try.call19 ((dImage_spec _ _ _ p2 _ (hs.take (A := diskA 78 83 5 3 p2 (newS s.now t.room)) (by first | exact .here _ | exact .there _ (.here _) | exact .there _ (.there _ (.here _)) | exact .there _ (.there _ (.there _ (.here _))) | exact .there _ (.there _ (.there _ (.there _ (.here _)))) | exact .there _ (.there _ (.there _ (.there _ (.there _ (.here _))))) | exact .there _ (.there _ (.there _ (.there _ (.there _ (.there _ (.here _)))))) | exact .there _ (.there _ (.there _ (.there _ (.there _ (.there _ (.there _ (.here _))))))))) (by show s.now.length ≤ _; omega)).mono ?_))
      rintro e w1 ⟨e4, fe4, rfl, hs⟩
      replace hs : St _ _ (slB 5 (.slice e4 s.now.length fe4) s.now :: _) := hs
      refine ⟨_, rfl, ?_⟩; clear hf a; intro a hf
      refine s_a hf rfl ?_; clear hf a; intro a hf
      refine s_nil ?_
      refine then_n ?_
      refine wp_seq ?_
      refine wp_region_lit ?_
      refine s_m hf rfl ?_; clear hf a; intro a hf
      refine s_m hf rfl ?_; clear hf a; intro a hf
      replace hs := hs.take (A := slB 5 (.slice e1 s.now.length fe1) s.now) (by first | exact .here _ | exact .there _ (.here _) | exact .there _ (.there _ (.here _)) | exact .there _ (.there _ (.there _ (.here _))) | exact .there _ (.there _ (.there _ (.there _ (.here _)))) | exact .there _ (.there _ (.there _ (.there _ (.there _ (.here _))))) | exact .there _ (.there _ (.there _ (.there _ (.there _ (.there _ (.here _)))))) | exact .there _ (.there _ (.there _ (.there _ (.there _ (.there _ (.there _ (.here _))))))) | exact .there _ (.there _ (.there _ (.there _ (.there _ (.there _ (.there _ (.there _ (.here _)))))))) | exact .there _ (.there _ (.there _ (.there _ (.there _ (.there _ (.there _ (.there _ (.there _ (.here _))))))))) | exact .there _ (.there _ (.there _ (.there _ (.there _ (.there _ (.there _ (.there _ (.there _ (.there _ (.here _)))))))))) | exact .there _ (.there _ (.there _ (.there _ (.there _ (.there _ (.there _ (.there _ (.there _ (.there _ (.there _ (.here _))))))))))))
      replace hs := hs.take (A := slB 5 (.slice e4 s.now.length fe4) s.now) (by first | exact .here _ | exact .there _ (.here _) | exact .there _ (.there _ (.here _)) | exact .there _ (.there _ (.there _ (.here _))) | exact .there _ (.there _ (.there _ (.there _ (.here _)))) | exact .there _ (.there _ (.there _ (.there _ (.there _ (.here _))))) | exact .there _ (.there _ (.there _ (.there _ (.there _ (.there _ (.here _)))))) | exact .there _ (.there _ (.there _ (.there _ (.there _ (.there _ (.there _ (.here _))))))) | exact .there _ (.there _ (.there _ (.there _ (.there _ (.there _ (.there _ (.there _ (.here _)))))))) | exact .there _ (.there _ (.there _ (.there _ (.there _ (.there _ (.there _ (.there _ (.there _ (.here _))))))))) | exact .there _ (.there _ (.there _ (.there _ (.there _ (.there _ (.there _ (.there _ (.there _ (.there _ (.here _)))))))))) | exact .there _ (.there _ (.there _ (.there _ (.there _ (.there _ (.there _ (.there _ (.there _ (.there _ (.there _ (.here _))))))))))))
      refine s_do hf rfl (y_call (hf.eval rfl) (hf.evals rfl) Try.call24 ((same_spec _ _ _ s.now (hs.rdB (.here _) fun h => slB_rd) _ _ s.now (hs.rdB (.there _ (.here _)) fun h => slB_rd) (by omega)).mono ?_))
      rintro e w1 ⟨rfl, hk⟩
      replace hs := hs.ext hk
      refine ⟨_, rfl, ?_⟩; clear hf a; intro a hf
      refine s_a hf rfl ?_; clear hf a; intro a hf
      refine s_nil ?_
      refine then_n ?_
      refine wp_ret ?_
      refine r_1 hf Try.results8 rfl ?_
      exact ⟨by simp, hs.kept⟩

theorem diskKeepsAll_spec (w0 : World) (a1 : Option Addr) (c1 : Nat) (image : List UInt8) (hr1 : RdB (hp w0) (.slice a1 image.length c1) image) (hl1 : image.length ≤ 140737488351232) (cap : Int) (asc : Option Addr) (csc : Nat) (ops : List DOp) (hrosc : RdS opF 7 (hp w0) (.slice asc ops.length csc) ops) (hogsc : ∀ o ∈ ops, DOpG (hp w0) o) (hlosc : ops.length ≤ 1048576) : Calls Try.prog 9 #[.slice a1 image.length c1, .int .i64 cap, .slice asc ops.length csc] w0 fun e w' => e = .returned (.bool true) ∧ Kept w0 w' None_ := by
  have hs := St.start w0 None_
  refine c_enter (N := 97) Try.func9 rfl Try.ntmps9 (by simp) ?_
  intro a hf
  refine wp_seq ?_
  refine wp_region_lit ?_
  refine s_a hf rfl ?_; clear hf a; intro a hf
  refine s_nil ?_
  refine then_n ?_
  refine wp_seq ?_
  refine wp_seq ?_
  refine wp_region_lit ?_
  refine s_m hf rfl ?_; clear hf a; intro a hf
  refine s_m hf rfl ?_; clear hf a; intro a hf
  refine s_do hf rfl (y_call (hf.eval rfl) (hf.evals rfl) Try.call25 ((fits_spec _ a1 image.length c1 cap).mono ?_))
  rintro e w1 ⟨rfl, hw9⟩
  rw [hw9]
  clear hw9 w1
  refine ⟨_, rfl, ?_⟩; clear hf a; intro a hf
  refine s_v hf (x_not (hf.eval rfl)) ?_; clear hf a; intro a hf
  refine s_nil ?_
  refine then_n ?_
  refine c_cond hf rfl (fun hi0 => ?_) (fun hi0 => ?_)
  · simp only [Bool.not_eq_true', Bool.not_eq_false', decide_eq_true_eq, decide_eq_false_iff_not] at hi0
    refine wp_seq ?_
    refine wp_region_lit ?_
    refine s_a hf rfl ?_; clear hf a; intro a hf
    refine s_nil ?_
    refine then_n ?_
    refine wp_ret ?_
    refine then_r ?_
    refine r_1 hf Try.results9 rfl ?_
    exact ⟨rfl, hs.kept⟩
  · simp only [Bool.not_eq_true', Bool.not_eq_false', decide_eq_true_eq, decide_eq_false_iff_not] at hi0
    obtain ⟨hc1, hc2, hc3⟩ := hi0
    refine wp_skip ?_
    refine then_n ?_
    refine wp_seq ?_
    refine wp_region_lit ?_
    refine s_m hf rfl ?_; clear hf a; intro a hf
    refine s_m hf rfl ?_; clear hf a; intro a hf
    refine s_do hf rfl (y_call (hf.eval rfl) (hf.evals rfl) Try.call26 ((fresh_spec _ a1 c1 image (hs.oldB hr1) hl1 cap hc1 hc2 hc3).mono ?_))
    rintro e w1 ⟨p, rfl, hj⟩
    replace hs := hs.join hj
    simp only [List.cons_append, List.nil_append] at hs
    refine ⟨_, rfl, ?_⟩; clear hf a; intro a hf
    refine s_a hf rfl ?_; clear hf a; intro a hf
    refine s_nil ?_
    refine then_n ?_
    refine wp_seq ?_
    refine wp_seq ?_
    refine wp_region_lit ?_
    refine s_m hf rfl ?_; clear hf a; intro a hf
    refine s_v hf (x_eqNil Try.underlying23 (hf.eval rfl) (hf.eval rfl)) ?_; clear hf a; intro a hf
    replace hf := hf.now (k := 26) (v' := .bool false) rfl rfl
    refine s_nil ?_
    refine then_n ?_
    refine c_cond_f hf rfl rfl ?_
    refine wp_skip ?_
    refine then_n ?_
    refine wp_seq ?_
    refine wp_region_lit ?_
    refine s_m hf rfl ?_; clear hf a; intro a hf
    refine s_do hf rfl (y_call (hf.eval rfl) (hf.evals rfl) Try.call29 ((lclone_spec _ _ _ image (hs.oldB hr1) hl1).mono ?_))
    rintro e w1 ⟨e0, fe0, rfl, hj⟩
    replace hs := hs.join hj
    simp only [List.cons_append, List.nil_append] at hs
    refine ⟨_, rfl, ?_⟩; clear hf a; intro a hf
    refine s_a hf rfl ?_; clear hf a; intro a hf
    refine s_nil ?_
    refine then_n ?_
    refine wp_seq ?_
    refine wp_seq ?_
    refine wp_region_lit ?_
    refine s_a hf rfl ?_; clear hf a; intro a hf
    refine s_nil ?_
    refine then_n ?_
    refine wp_block ?_
    refine c_loop (L0 := [(1, _), (2, _), (7, _)]) (fun M w m => ∃ (i : Nat) (s : DS) (v8 : Value), M = [(8, v8), (9, .int .i64 (i : Int))] ∧ ops.length - i = m ∧ i ≤ ops.length ∧ DOk s ∧ DB s i ∧ Free s ∧ s.room = cap ∧ Full s ∧ Lst s ∧ St ⟨w0, None_⟩ w [slB 5 v8 s.dur, diskA 78 83 5 3 p s]) (M0 := _) (⟨0, newS image cap, _, rfl, rfl, Nat.zero_le _, newS_ok hc1 hc2 hc3, newS_b _ _ _, newS_free _ _, rfl, newS_full _ _, newS_lst _ _, hs⟩) (hf.sub ⟨rfl, rfl, rfl, rfl, rfl, trivial⟩) ?_
    clear hf hs a
    rintro M m a w ⟨i, s, v8, rfl, rfl, hi, ho, hb, hfr, hrm, hfu, hls, hs⟩ hf
    refine wp_seq ?_
    refine wp_seq ?_
    refine wp_region_lit ?_
    refine s_m hf rfl ?_; clear hf a; intro a hf
    refine s_m hf rfl ?_; clear hf a; intro a hf
    refine s_v hf (x_len Try.underlying58 (hf.eval rfl)) ?_; clear hf a; intro a hf
    refine s_v hf (x_bin (hf.eval rfl) (hf.eval rfl) (r_lt _ _ _ _)) ?_; clear hf a; intro a hf
    refine s_nil ?_
    refine then_n ?_
    refine c_cond hf rfl (fun hi2 => ?_) (fun hi2 => ?_)
    · simp only [decide_eq_true_eq, decide_eq_false_iff_not, Bool.not_eq_true', Bool.not_eq_false', Bool.not_eq_true, Int.not_lt, Int.not_le] at hi2
      have hlt : i < ops.length := by omega
      obtain ⟨asc, rfl⟩ := hrosc.some (by omega)
      have hg := hogsc _ (List.getElem_mem hlt)
      have hcf := chS_free hfr ops[i]
      obtain ⟨asc, o9, rfl⟩ := rdS_plain (f := opF) (sz := 7) (fun _ => rfl) (by decide) hrosc (by omega)
      refine wp_skip ?_
      refine then_n ?_
      refine wp_seq ?_
      refine wp_block ?_
      refine wp_seq ?_
      refine wp_region_lit ?_
      refine s_m hf rfl ?_; clear hf a; intro a hf
      refine s_m hf rfl ?_; clear hf a; intro a hf
      refine s_m hf rfl ?_; clear hf a; intro a hf
      refine s_v hf (x_indexAddr sl58 (hf.eval rfl) (hf.eval rfl) (by omega) (by omega)) ?_; clear hf a; intro a hf
      refine s_r hf (x_loadS (f := opF) ag42 (fun _ => rfl) (hs.old hrosc) (hf.eval rfl) (by simpa using hlt)) ?_; clear hf a; intro a hf
      replace hs := hs.take (A := diskA 78 83 5 3 p s) (by first | exact .here _ | exact .there _ (.here _) | exact .there _ (.there _ (.here _)) | exact .there _ (.there _ (.there _ (.here _))) | exact .there _ (.there _ (.there _ (.there _ (.here _)))) | exact .there _ (.there _ (.there _ (.there _ (.there _ (.here _))))) | exact .there _ (.there _ (.there _ (.there _ (.there _ (.there _ (.here _)))))) | exact .there _ (.there _ (.there _ (.there _ (.there _ (.there _ (.there _ (.here _))))))) | exact .there _ (.there _ (.there _ (.there _ (.there _ (.there _ (.there _ (.there _ (.here _)))))))) | exact .there _ (.there _ (.there _ (.there _ (.there _ (.there _ (.there _ (.there _ (.there _ (.here _))))))))) | exact .there _ (.there _ (.there _ (.there _ (.there _ (.there _ (.there _ (.there _ (.there _ (.there _ (.here _)))))))))) | exact .there _ (.there _ (.there _ (.there _ (.there _ (.there _ (.there _ (.there _ (.there _ (.there _ (.there _ (.here _))))))))))))
      refine s_do hf rfl (y_call (hf.eval rfl) (hf.evals rfl) Try.call41 ((change_spec _ _ _ p s hs ops[i] (Rdy.old hg.data) hg.len ho (hb.up (by omega))).mono ?_))
      rintro e w1 ⟨rfl, hs⟩
      refine ⟨_, rfl, ?_⟩; clear hf a; intro a hf
      refine s_a hf rfl ?_; clear hf a; intro a hf
      refine s_nil ?_
      refine then_n ?_
      refine wp_seq ?_
      refine wp_seq ?_
      refine wp_region_lit ?_
      refine s_m hf rfl ?_; clear hf a; intro a hf
      refine s_m hf rfl ?_; clear hf a; intro a hf
      refine s_m hf rfl ?_; clear hf a; intro a hf
      refine s_v hf (x_indexAddr sl58 (hf.eval rfl) (hf.eval rfl) (by omega) (by omega)) ?_; clear hf a; intro a hf
      refine s_r hf (x_loadS (f := opF) ag42 (fun _ => rfl) (hs.old hrosc) (hf.eval rfl) (by simpa using hlt)) ?_; clear hf a; intro a hf
      refine s_m hf rfl ?_; clear hf a; intro a hf
      refine s_do hf rfl (y_call (hf.eval rfl) (hf.evals rfl) Try.call30 ((refused_spec _ ops[i] cap hc1 hc2 hg.len hg.b1.2).mono ?_))
      rintro e w1 ⟨rfl, hk⟩
      replace hs := hs.ext hk
      refine ⟨_, rfl, ?_⟩; clear hf a; intro a hf
      refine s_v hf (x_bin (hf.eval rfl) (hf.eval rfl) (r_ne _ _ _ _)) ?_; clear hf a; intro a hf
      refine s_nil ?_
      refine then_n ?_
      refine c_cond_f hf rfl (by rw [hcf.2.2, hrm]; simp) ?_
      have hdr := chS_dur s ops[i]
      refine wp_skip ?_
      refine then_n ?_
      refine wp_seq ?_
      refine wp_region_lit ?_
      refine s_m hf rfl ?_; clear hf a; intro a hf
      refine s_m hf rfl ?_; clear hf a; intro a hf
      refine s_v hf (x_indexAddr sl58 (hf.eval rfl) (hf.eval rfl) (by omega) (by omega)) ?_; clear hf a; intro a hf
      replace hf := hf.now (k := 51) (v' := .pointer (some ⟨asc, o9 + i * 7, none⟩)) rfl (by rw [addr_add]; rfl)
      refine s_v hf (x_fieldAddr fo42_0 (hf.eval rfl)) ?_; clear hf a; intro a hf
      refine s_r hf (x_load sc3 (hf.eval rfl) (rdS_cellAt (f := opF) (sz := 7) (fun _ => rfl) (hs.old hrosc) (k := 0) hlt rfl)) ?_; clear hf a; intro a hf
      refine s_v hf (x_bin (hf.eval rfl) (hf.eval rfl) (r_eq _ _ _ _)) ?_; clear hf a; intro a hf
      refine s_nil ?_
      refine then_n ?_
      refine c_cond hf rfl (fun hi4 => ?_) (fun hi4 => ?_)
      · simp only [decide_eq_true_eq, decide_eq_false_iff_not, Bool.not_eq_true', Bool.not_eq_false', Bool.not_eq_true, Int.not_lt, Int.not_le] at hi4
        refine wp_region_lit ?_
        refine s_m hf rfl ?_; clear hf a; intro a hf
        replace hs := hs.take (A := diskA 78 83 5 3 p (chS s ops[i]).2) (by first | exact .here _ | exact .there _ (.here _) | exact .there _ (.there _ (.here _)) | exact .there _ (.there _ (.there _ (.here _))) | exact .there _ (.there _ (.there _ (.there _ (.here _)))) | exact .there _ (.there _ (.there _ (.there _ (.there _ (.here _))))) | exact .there _ (.there _ (.there _ (.there _ (.there _ (.there _ (.here _)))))) | exact .there _ (.there _ (.there _ (.there _ (.there _ (.there _ (.there _ (.here _))))))) | exact .there _ (.there _ (.there _ (.there _ (.there _ (.there _ (.there _ (.there _ (.here _)))))))) | exact .there _ (.there _ (.there _ (.there _ (.there _ (.there _ (.there _ (.there _ (.there _ (.here _))))))))) | exact .there _ (.there _ (.there _ (.there _ (.there _ (.there _ (.there _ (.there _ (.there _ (.there _ (.here _)))))))))) | exact .there _ (.there _ (.there _ (.there _ (.there _ (.there _ (.there _ (.there _ (.there _ (.there _ (.there _ (.here _))))))))))))
        refine s_do hf rfl (y_call (hf.eval rfl) (hf.evals rfl) Try.call19 ((dImage_spec _ _ _ p (chS s ops[i]).2 hs (by have h7 := (chS_ok ho ops[i]).now; have h8 := (chS_ok ho ops[i]).room1; omega)).mono ?_))
        rintro e w1 ⟨e2, fe2, rfl, hs⟩
        refine ⟨_, rfl, ?_⟩; clear hf a; intro a hf
        refine s_a hf rfl ?_; clear hf a; intro a hf
        replace hs := hs.lose (.there _ (.there _ (.here _)))
        rw [← (hdr.1 (by omega) hfr)] at hs
        replace hf := hf.now (k := 8) (v' := .slice e2 (chS s ops[i]).2.dur.length fe2) rfl (by rw [hdr.1 (by omega) hfr])
        refine s_nil ?_
        refine blk_n ?_
        refine then_n ?_
        refine wp_region_lit ?_
        refine s_m hf rfl ?_; clear hf a; intro a hf
        refine s_v hf (x_bin (hf.eval rfl) (hf.eval rfl) (r_addi _ (by omega) (by omega))) ?_; clear hf a; intro a hf
        refine s_a hf rfl ?_; clear hf a; intro a hf
        refine s_nil ?_
        exact ⟨_, _, ⟨i + 1, (chS s ops[i]).2, _, rfl, rfl, by omega, chS_ok ho _, chS_b ho hb _, hcf.1, hcf.2.1.trans hrm, chS_full hfu _, chS_lst hls _, hs⟩, by omega, hf.sub ⟨rfl, rfl, rfl, rfl, rfl, trivial⟩⟩
      · simp only [decide_eq_true_eq, decide_eq_false_iff_not, Bool.not_eq_true', Bool.not_eq_false', Bool.not_eq_true, Int.not_lt, Int.not_le] at hi4
        have hdr2 : (chS s ops[i]).2.dur = s.dur := hdr.2 (by omega)
        rw [← hdr2] at hs
        replace hs := hs.take (.there _ (.here _))
        refine wp_skip ?_
        refine blk_n ?_
        refine then_n ?_
        refine wp_region_lit ?_
        refine s_m hf rfl ?_; clear hf a; intro a hf
        refine s_v hf (x_bin (hf.eval rfl) (hf.eval rfl) (r_addi _ (by omega) (by omega))) ?_; clear hf a; intro a hf
        refine s_a hf rfl ?_; clear hf a; intro a hf
        refine s_nil ?_
        exact ⟨_, _, ⟨i + 1, (chS s ops[i]).2, _, rfl, rfl, by omega, chS_ok ho _, chS_b ho hb _, hcf.1, hcf.2.1.trans hrm, chS_full hfu _, chS_lst hls _, hs⟩, by omega, hf.sub ⟨rfl, rfl, rfl, rfl, rfl, trivial⟩⟩
    · simp only [decide_eq_true_eq, decide_eq_false_iff_not, Bool.not_eq_true', Bool.not_eq_false', Bool.not_eq_true, Int.not_lt, Int.not_le] at hi2
      have hn1 := ho.now
      have hn2 := ho.room1
      refine wp_exit ?_
      refine then_x ?_
      refine then_x ?_
      refine blk_x ?_
      refine then_n ?_
      refine wp_seq ?_
      refine wp_region_lit ?_
      refine s_m hf rfl ?_; clear hf a; intro a hf
      obtain ⟨e9, fe9, rfl, _⟩ := slB_shape hs
      replace hs := hs.take (A := diskA 78 83 5 3 p s) (by first | exact .here _ | exact .there _ (.here _) | exact .there _ (.there _ (.here _)) | exact .there _ (.there _ (.there _ (.here _))) | exact .there _ (.there _ (.there _ (.there _ (.here _)))) | exact .there _ (.there _ (.there _ (.there _ (.there _ (.here _))))) | exact .there _ (.there _ (.there _ (.there _ (.there _ (.there _ (.here _)))))) | exact .there _ (.there _ (.there _ (.there _ (.there _ (.there _ (.there _ (.here _))))))) | exact .there _ (.there _ (.there _ (.there _ (.there _ (.there _ (.there _ (.there _ (.here _)))))))) | exact .there _ (.there _ (.there _ (.there _ (.there _ (.there _ (.there _ (.there _ (.there _ (.here _))))))))) | exact .there _ (.there _ (.there _ (.there _ (.there _ (.there _ (.there _ (.there _ (.there _ (.there _ (.here _)))))))))) | exact .there _ (.there _ (.there _ (.there _ (.there _ (.there _ (.there _ (.there _ (.there _ (.there _ (.there _ (.here _))))))))))))
      refine s_do hf rfl (y_call (hf.eval rfl) (hf.evals rfl) Try.call19 ((dImage_spec _ _ _ p s hs (by omega)).mono ?_))
      rintro e w1 ⟨e1, fe1, rfl, hs⟩
      refine ⟨_, rfl, ?_⟩; clear hf a; intro a hf
      refine s_a hf rfl ?_; clear hf a; intro a hf
      refine s_nil ?_
      refine then_n ?_
      refine wp_seq ?_
      refine wp_region_lit ?_
      refine s_m hf rfl ?_; clear hf a; intro a hf
      refine s_r hf (x_build (v := .agg #[.int .i64 1152921504606846976, .slice none 0 0, .int .i64 1152921504606846976]) (hf.parts rfl) (fun w => by kernel_rfl) _) ?_; clear hf a; intro a hf
      replace hs := hs.take (A := diskA 78 83 5 3 p s) (by first | exact .here _ | exact .there _ (.here _) | exact .there _ (.there _ (.here _)) | exact .there _ (.there _ (.there _ (.here _))) | exact .there _ (.there _ (.there _ (.there _ (.here _)))) | exact .there _ (.there _ (.there _ (.there _ (.there _ (.here _))))) | exact .there _ (.there _ (.there _ (.there _ (.there _ (.there _ (.here _)))))) | exact .there _ (.there _ (.there _ (.there _ (.there _ (.there _ (.there _ (.here _))))))) | exact .there _ (.there _ (.there _ (.there _ (.there _ (.there _ (.there _ (.there _ (.here _)))))))) | exact .there _ (.there _ (.there _ (.there _ (.there _ (.there _ (.there _ (.there _ (.there _ (.here _))))))))) | exact .there _ (.there _ (.there _ (.there _ (.there _ (.there _ (.there _ (.there _ (.there _ (.there _ (.here _)))))))))) | exact .there _ (.there _ (.there _ (.there _ (.there _ (.there _ (.there _ (.there _ (.there _ (.there _ (.there _ (.here _))))))))))))
      refine s_do hf rfl (y_call (hf.eval rfl) (hf.evals rfl) Try.call33 ((dCrash_spec _ _ _ p s hs 1152921504606846976 none 0 [] 1152921504606846976 ho nilC (by have := hb.sizes; omega) (by have := hb.pcs; omega)).mono ?_))
      rintro e w1 ⟨p2, rfl, hs⟩
      rw [out_all hfu hls (by have := hb.sizes; simp only; omega) rfl (by have := hb.pcs; simp only; omega)] at hs
      refine ⟨_, rfl, ?_⟩; clear hf a; intro a hf
      refine s_m hf rfl ?_; clear hf a; intro a hf
      refine s_v hf (x_extract (hf.eval rfl) rfl) ?_; clear hf a; intro a hf
      refine s_v hf (x_extract (hf.eval rfl) rfl) ?_; clear hf a; intro a hf
      refine s_a hf rfl ?_; clear hf a; intro a hf
      refine s_a hf rfl ?_; clear hf a; intro a hf
      refine s_nil ?_
      refine then_n ?_
      refine wp_seq ?_
      refine wp_region_lit ?_
      refine s_m hf rfl ?_; clear hf a; intro a hf
      refine s_r hf (x_build (v := .agg #[.int .i64 0, .slice none 0 0, .int .i64 0]) (hf.parts rfl) (fun w => by kernel_rfl) _) ?_; clear hf a; intro a hf
      replace hs := hs.take (A := diskA 78 83 5 3 p (kilS s)) (by first | exact .here _ | exact .there _ (.here _) | exact .there _ (.there _ (.here _)) | exact .there _ (.there _ (.there _ (.here _))) | exact .there _ (.there _ (.there _ (.there _ (.here _)))) | exact .there _ (.there _ (.there _ (.there _ (.there _ (.here _))))) | exact .there _ (.there _ (.there _ (.there _ (.there _ (.there _ (.here _)))))) | exact .there _ (.there _ (.there _ (.there _ (.there _ (.there _ (.there _ (.here _))))))) | exact .there _ (.there _ (.there _ (.there _ (.there _ (.there _ (.there _ (.there _ (.here _)))))))) | exact .there _ (.there _ (.there _ (.there _ (.there _ (.there _ (.there _ (.there _ (.there _ (.here _))))))))) | exact .there _ (.there _ (.there _ (.there _ (.there _ (.there _ (.there _ (.there _ (.there _ (.there _ (.here _)))))))))) | exact .there _ (.there _ (.there _ (.there _ (.there _ (.there _ (.there _ (.there _ (.there _ (.there _ (.there _ (.here _))))))))))))
      refine s_do hf rfl (y_call (hf.eval rfl) (hf.evals rfl) Try.call33 ((dCrash_spec _ _ _ p (kilS s) hs 0 none 0 [] 0 (kilS_ok ho) nilC (by have := (kilS_b hb).sizes; omega) (by have := (kilS_b hb).pcs; omega)).mono ?_))
      rintro e w1 ⟨p3, rfl, hs⟩
      rw [out_none (s := kilS s) (c := (0, [], 0)) (Int.le_refl _) rfl (Int.le_refl _)] at hs
      refine ⟨_, rfl, ?_⟩; clear hf a; intro a hf
      refine s_m hf rfl ?_; clear hf a; intro a hf
      refine s_v hf (x_extract (hf.eval rfl) rfl) ?_; clear hf a; intro a hf
      refine s_v hf (x_extract (hf.eval rfl) rfl) ?_; clear hf a; intro a hf
      refine s_a hf rfl ?_; clear hf a; intro a hf
      refine s_a hf rfl ?_; clear hf a; intro a hf
      refine s_nil ?_
      refine then_n ?_
      refine wp_seq ?_
      refine wp_seq ?_
      refine wp_region_lit ?_
      refine s_m hf rfl ?_; clear hf a; intro a hf
      refine s_v hf (x_bin (hf.eval rfl) (hf.eval rfl) (r_ne _ _ _ _)) ?_; clear hf a; intro a hf
      refine s_m hf rfl ?_; clear hf a; intro a hf
      replace hf := hf.now (k := 73) (v' := .bool false) rfl (congrArg Value.bool (by first | rfl | simp))
      refine s_do hf (wanted_of hf rfl rfl rfl) (.value (x_move (hf.eval rfl) _) ?_); clear hf a; intro a hf
      refine s_do hf (wanted_of hf rfl rfl rfl) (.value (x_bin (hf.eval rfl) (hf.eval rfl) (r_ne _ _ _ _) _) ?_); clear hf a; intro a hf
      refine s_v hf (x_pick_f (hf.eval rfl) (hf.eval rfl)) ?_; clear hf a; intro a hf
      refine s_m hf rfl ?_; clear hf a; intro a hf
      replace hf := hf.now (k := 77) (v' := .bool false) rfl (congrArg Value.bool (by first | rfl | simp))
      refine s_do hf (wanted_of hf rfl rfl rfl) (.value (x_move (hf.eval rfl) _) ?_); clear hf a; intro a hf
      refine s_do hf (wanted_of hf rfl rfl rfl) (.value (x_eqNil Try.underlying23 (hf.eval rfl) (hf.eval rfl) _) ?_); clear hf a; intro a hf
      refine s_v hf (x_pick_f (hf.eval rfl) (hf.eval rfl)) ?_; clear hf a; intro a hf
      refine s_m hf rfl ?_; clear hf a; intro a hf
      replace hf := hf.now (k := 81) (v' := .bool false) rfl (congrArg Value.bool (by first | rfl | simp))
      refine s_do hf (wanted_of hf rfl rfl rfl) (.value (x_move (hf.eval rfl) _) ?_); clear hf a; intro a hf
      refine s_do hf (wanted_of hf rfl rfl rfl) (.value (x_eqNil Try.underlying23 (hf.eval rfl) (hf.eval rfl) _) ?_); clear hf a; intro a hf
      refine s_v hf (x_pick_f (hf.eval rfl) (hf.eval rfl)) ?_; clear hf a; intro a hf
      refine s_nil ?_
      refine then_n ?_
      refine c_cond_f hf rfl (by first | rfl | simp) ?_
      refine wp_skip ?_
      refine then_n ?_
      refine wp_seq ?_
      refine wp_region_lit ?_
      refine s_m hf rfl ?_; clear hf a; intro a hf
      replace hs := hs.take (A := diskA 78 83 5 3 p2 (newS s.now s.room)) (by first | exact .here _ | exact .there _ (.here _) | exact .there _ (.there _ (.here _)) | exact .there _ (.there _ (.there _ (.here _))) | exact .there _ (.there _ (.there _ (.there _ (.here _)))) | exact .there _ (.there _ (.there _ (.there _ (.there _ (.here _))))) | exact .there _ (.there _ (.there _ (.there _ (.there _ (.there _ (.here _)))))) | exact .there _ (.there _ (.there _ (.there _ (.there _ (.there _ (.there _ (.here _))))))) | exact .there _ (.there _ (.there _ (.there _ (.there _ (.there _ (.there _ (.there _ (.here _)))))))) | exact .there _ (.there _ (.there _ (.there _ (.there _ (.there _ (.there _ (.there _ (.there _ (.here _))))))))) | exact .there _ (.there _ (.there _ (.there _ (.there _ (.there _ (.there _ (.there _ (.there _ (.there _ (.here _)))))))))) | exact .there _ (.there _ (.there _ (.there _ (.there _ (.there _ (.there _ (.there _ (.there _ (.there _ (.there _ (.here _))))))))))))
      refine s_do hf rfl (y_call (hf.eval rfl) (hf.evals rfl) Try.call19 ((dImage_spec _ _ _ p2 _ hs (by show s.now.length ≤ _; omega)).mono ?_))
      rintro e w1 ⟨e4, fe4, rfl, hs⟩
      replace hs : St _ _ (slB 5 (.slice e4 s.now.length fe4) s.now :: _) := hs
      refine ⟨_, rfl, ?_⟩; clear hf a; intro a hf
      refine s_a hf rfl ?_; clear hf a; intro a hf
      refine s_nil ?_
      refine then_n ?_
      refine wp_seq ?_
      refine wp_region_lit ?_
      refine s_m hf rfl ?_; clear hf a; intro a hf
      replace hs := hs.take (A := diskA 78 83 5 3 p3 (newS s.dur s.room)) (by first | exact .here _ | exact .there _ (.here _) | exact .there _ (.there _ (.here _)) | exact .there _ (.there _ (.there _ (.here _))) | exact .there _ (.there _ (.there _ (.there _ (.here _)))) | exact .there _ (.there _ (.there _ (.there _ (.there _ (.here _))))) | exact .there _ (.there _ (.there _ (.there _ (.there _ (.there _ (.here _)))))) | exact .there _ (.there _ (.there _ (.there _ (.there _ (.there _ (.there _ (.here _))))))) | exact .there _ (.there _ (.there _ (.there _ (.there _ (.there _ (.there _ (.there _ (.here _)))))))) | exact .there _ (.there _ (.there _ (.there _ (.there _ (.there _ (.there _ (.there _ (.there _ (.here _))))))))) | exact .there _ (.there _ (.there _ (.there _ (.there _ (.there _ (.there _ (.there _ (.there _ (.there _ (.here _)))))))))) | exact .there _ (.there _ (.there _ (.there _ (.there _ (.there _ (.there _ (.there _ (.there _ (.there _ (.there _ (.here _))))))))))))
      refine s_do hf rfl (y_call (hf.eval rfl) (hf.evals rfl) Try.call19 ((dImage_spec _ _ _ p3 _ hs (by have := ho.dur; show s.dur.length ≤ _; omega)).mono ?_))
      rintro e w1 ⟨e5, fe5, rfl, hs⟩
      replace hs : St _ _ (slB 5 (.slice e5 s.dur.length fe5) s.dur :: _) := hs
      refine ⟨_, rfl, ?_⟩; clear hf a; intro a hf
      refine s_a hf rfl ?_; clear hf a; intro a hf
      refine s_nil ?_
      refine then_n ?_
      refine wp_seq ?_
      refine wp_region_lit ?_
      refine s_m hf rfl ?_; clear hf a; intro a hf
      refine s_m hf rfl ?_; clear hf a; intro a hf
      replace hs := hs.take (A := slB 5 (.slice e1 s.now.length fe1) s.now) (by first | exact .here _ | exact .there _ (.here _) | exact .there _ (.there _ (.here _)) | exact .there _ (.there _ (.there _ (.here _))) | exact .there _ (.there _ (.there _ (.there _ (.here _)))) | exact .there _ (.there _ (.there _ (.there _ (.there _ (.here _))))) | exact .there _ (.there _ (.there _ (.there _ (.there _ (.there _ (.here _)))))) | exact .there _ (.there _ (.there _ (.there _ (.there _ (.there _ (.there _ (.here _))))))) | exact .there _ (.there _ (.there _ (.there _ (.there _ (.there _ (.there _ (.there _ (.here _)))))))) | exact .there _ (.there _ (.there _ (.there _ (.there _ (.there _ (.there _ (.there _ (.there _ (.here _))))))))) | exact .there _ (.there _ (.there _ (.there _ (.there _ (.there _ (.there _ (.there _ (.there _ (.there _ (.here _)))))))))) | exact .there _ (.there _ (.there _ (.there _ (.there _ (.there _ (.there _ (.there _ (.there _ (.there _ (.there _ (.here _))))))))))))
      replace hs := hs.take (A := slB 5 (.slice e4 s.now.length fe4) s.now) (by first | exact .here _ | exact .there _ (.here _) | exact .there _ (.there _ (.here _)) | exact .there _ (.there _ (.there _ (.here _))) | exact .there _ (.there _ (.there _ (.there _ (.here _)))) | exact .there _ (.there _ (.there _ (.there _ (.there _ (.here _))))) | exact .there _ (.there _ (.there _ (.there _ (.there _ (.there _ (.here _)))))) | exact .there _ (.there _ (.there _ (.there _ (.there _ (.there _ (.there _ (.here _))))))) | exact .there _ (.there _ (.there _ (.there _ (.there _ (.there _ (.there _ (.there _ (.here _)))))))) | exact .there _ (.there _ (.there _ (.there _ (.there _ (.there _ (.there _ (.there _ (.there _ (.here _))))))))) | exact .there _ (.there _ (.there _ (.there _ (.there _ (.there _ (.there _ (.there _ (.there _ (.there _ (.here _)))))))))) | exact .there _ (.there _ (.there _ (.there _ (.there _ (.there _ (.there _ (.there _ (.there _ (.there _ (.there _ (.here _))))))))))))
      refine s_do hf rfl (y_call (hf.eval rfl) (hf.evals rfl) Try.call24 ((same_spec _ _ _ s.now (hs.rdB (.here _) fun h => slB_rd) _ _ s.now (hs.rdB (.there _ (.here _)) fun h => slB_rd) (by omega)).mono ?_))
      rintro e w1 ⟨rfl, hk⟩
      replace hs := hs.ext hk
      refine ⟨_, rfl, ?_⟩; clear hf a; intro a hf
      refine s_m hf rfl ?_; clear hf a; intro a hf
      replace hf := hf.now (k := 92) (v' := .bool true) rfl (congrArg Value.bool (by simp))
      refine s_do hf (wanted_of hf rfl rfl rfl) (.value (x_move (hf.eval rfl) _) ?_); clear hf a; intro a hf
      refine s_do hf (wanted_of hf rfl rfl rfl) (.value (x_move (hf.eval rfl) _) ?_); clear hf a; intro a hf
      replace hs := hs.take (A := slB 5 (.slice e9 s.dur.length fe9) s.dur) (by first | exact .here _ | exact .there _ (.here _) | exact .there _ (.there _ (.here _)) | exact .there _ (.there _ (.there _ (.here _))) | exact .there _ (.there _ (.there _ (.there _ (.here _)))) | exact .there _ (.there _ (.there _ (.there _ (.there _ (.here _))))) | exact .there _ (.there _ (.there _ (.there _ (.there _ (.there _ (.here _)))))) | exact .there _ (.there _ (.there _ (.there _ (.there _ (.there _ (.there _ (.here _))))))) | exact .there _ (.there _ (.there _ (.there _ (.there _ (.there _ (.there _ (.there _ (.here _)))))))) | exact .there _ (.there _ (.there _ (.there _ (.there _ (.there _ (.there _ (.there _ (.there _ (.here _))))))))) | exact .there _ (.there _ (.there _ (.there _ (.there _ (.there _ (.there _ (.there _ (.there _ (.there _ (.here _)))))))))) | exact .there _ (.there _ (.there _ (.there _ (.there _ (.there _ (.there _ (.there _ (.there _ (.there _ (.there _ (.here _))))))))))))
      replace hs := hs.take (A := slB 5 (.slice e5 s.dur.length fe5) s.dur) (by first | exact .here _ | exact .there _ (.here _) | exact .there _ (.there _ (.here _)) | exact .there _ (.there _ (.there _ (.here _))) | exact .there _ (.there _ (.there _ (.there _ (.here _)))) | exact .there _ (.there _ (.there _ (.there _ (.there _ (.here _))))) | exact .there _ (.there _ (.there _ (.there _ (.there _ (.there _ (.here _)))))) | exact .there _ (.there _ (.there _ (.there _ (.there _ (.there _ (.there _ (.here _))))))) | exact .there _ (.there _ (.there _ (.there _ (.there _ (.there _ (.there _ (.there _ (.here _)))))))) | exact .there _ (.there _ (.there _ (.there _ (.there _ (.there _ (.there _ (.there _ (.there _ (.here _))))))))) | exact .there _ (.there _ (.there _ (.there _ (.there _ (.there _ (.there _ (.there _ (.there _ (.there _ (.here _)))))))))) | exact .there _ (.there _ (.there _ (.there _ (.there _ (.there _ (.there _ (.there _ (.there _ (.there _ (.there _ (.here _))))))))))))
      refine s_do hf (wanted_of hf rfl rfl rfl) (y_call (hf.eval rfl) (hf.evals rfl) Try.call24 ((same_spec _ _ _ s.dur (hs.rdB (.here _) fun h => slB_rd) _ _ s.dur (hs.rdB (.there _ (.here _)) fun h => slB_rd) (by have := ho.dur; omega)).mono ?_))
      rintro e w1 ⟨rfl, hk⟩
      replace hs := hs.ext hk
      refine ⟨_, rfl, ?_⟩; clear hf a; intro a hf
      refine s_v hf (x_pick_t (hf.eval rfl) (hf.eval rfl)) ?_; clear hf a; intro a hf
      refine s_a hf rfl ?_; clear hf a; intro a hf
      refine s_nil ?_
      refine then_n ?_
      refine wp_ret ?_
      refine r_1 hf Try.results9 rfl ?_
      exact ⟨by simp, hs.kept⟩

end Go.Proofs.Ytjfnpbeehjhmbaa
