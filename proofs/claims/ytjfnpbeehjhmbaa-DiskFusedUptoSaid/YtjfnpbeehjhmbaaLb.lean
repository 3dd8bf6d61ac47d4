/- The statements DiskCrashes, DiskPlays, DiskTwoInTurns. -/
import Derived.Test.YtjfnpbeehjhmbaaVQ
import Derived.Test.YtjfnpbeehjhmbaaLa
import Derived.Test.YtjfnpbeehjhmbaaProg
import Derived.Test.YtjfnpbeehjhmbaaFacts
set_option maxRecDepth 100000
set_option linter.all false
namespace Go.Proofs.Ytjfnpbeehjhmbaa
open Go Vw
section
variable {P : Program} {ρ : Operand → Value} {w : World}
variable {d : Option Nat} {ty : TypeId} {pos : String} {after : Array Edge} {g : Option (Nat × Bool)}
theorem x_loadSub {σ : Sig} {L R : List Asrt} {t n b T o : Nat} {x : Operand} {vs xs : List Value} (hs : St σ w L) (ht : AgT P t n) (hx : ρ x = .pointer (some ⟨b, o, none⟩)) (hn : xs.length = n) (hxs : (vs.drop o).take n = xs) (tk : Take (cb b T vs) L R) :
    (execOp ρ ⟨d, .load t x, ty, pos, after, g⟩).run P w = .ok (.value (.agg xs.toArray)) w :=
  x_loadAgg ht hx hn fun j v hv => by
    rw [addr_add]
    refine hs.cell tk ?_
    rw [← hxs, List.getElem?_take] at hv
    split at hv
    · simpa using hv
    · cases hv
end

theorem only2 {σ : Sig} {w : World} {A B : Asrt} {R : List Asrt} (hs : St σ w (A :: B :: R)) : St σ w [A, B] := by
  obtain ⟨h, hh, a, r, d, la, lr, ha, b, r2, d2, lb, lr2, hb, _⟩ := hs.has
  exact ⟨hs.kept, h, hh, a, r, d, la, lr, ha, b, r2, d2, lb, lr2, hb, trivial⟩

theorem csS_room (s : DS) (o : DOp) : (csS s o).room = s.room := by
  have e := spent_now s
  unfold csS
  split
  · unfold fuS; split <;> rfl
  · unfold chS
    split
    · unfold wrS
      repeat' split
      all_goals first | rfl | exact e.2.1 | skip
      rw [(sized_same _ _).2.2.2.1]
      unfold layW; split <;> exact e.2.1
    · split
      · unfold trS
        repeat' split
        all_goals first | rfl | exact e.2.1 | skip
        rw [(sized_same _ _).2.2.2.1]
        unfold trN trC; split <;> exact e.2.1
      · split
        · unfold syS
          repeat' split
          all_goals first | rfl | exact e.2.1
        · rfl

theorem diskCrashes_b1 (w0 : World) (a1 : Option Addr) (c1 : Nat) (image : List UInt8) (hr1 : RdB (hp w0) (.slice a1 image.length c1) image) (hl1 : image.length ≤ 140737488351232) (cap : Int) (hc : cap < 0 ∨ 16777216 < cap) (asc : Option Addr) (csc : Nat) (ops : List DOp) (hrosc : RdS opF 7 (hp w0) (.slice asc ops.length csc) ops) (hogsc : ∀ o ∈ ops, DOpG (hp w0) o) (hlosc : ops.length ≤ 1048576) (csz : Int) (ac : Option Addr) (cc : Nat) (secs : List Int) (rest : Int) (hrc : RdS iF 1 (hp w0) (.slice ac secs.length cc) secs) (hlc : secs.length ≤ 1048576) : Calls Try.prog 15 #[.slice a1 image.length c1, .int .i64 cap, .slice asc ops.length csc, .agg #[.int .i64 csz, .slice ac secs.length cc, .int .i64 rest]] w0 fun e w' => e = .returned (.bool true) ∧ Kept w0 w' None_ := by
  have hs := St.start w0 None_
  refine c_enter (N := 131) Try.func15 rfl Try.ntmps15 (by simp) ?_
  intro a hf
  refine wp_seq ?_
  refine wp_region_lit ?_
  refine s_do hf rfl (y_box hs (hf.eval rfl) ?_); clear hf hs a; intro cx w hs a hf
  replace hs : St ⟨w0, None_⟩ w [cb cx 40 [.int .i64 csz, .slice ac secs.length cc, .int .i64 rest]] := hs
  refine s_a hf rfl ?_; clear hf a; intro a hf
  refine s_nil ?_
  refine then_n ?_
  refine wp_seq ?_
  refine wp_region_lit ?_
  refine s_m hf rfl ?_; clear hf a; intro a hf
  refine s_m hf rfl ?_; clear hf a; intro a hf
  refine s_do hf rfl (y_call (hf.eval rfl) (hf.evals rfl) Try.call18 ((made_b1 _ a1 c1 image (hs.oldB hr1) hl1 cap hc).mono ?_))
  rintro e w1 ⟨rfl, hk⟩
  replace hs := hs.ext hk
  refine ⟨_, rfl, ?_⟩; clear hf a; intro a hf
  refine s_m hf rfl ?_; clear hf a; intro a hf
  refine s_v hf (x_extract (hf.eval rfl) rfl) ?_; clear hf a; intro a hf
  refine s_v hf (x_extract (hf.eval rfl) rfl) ?_; clear hf a; intro a hf
  refine s_v hf (x_extract (hf.eval rfl) rfl) ?_; clear hf a; intro a hf
  refine s_a hf rfl ?_; clear hf a; intro a hf
  refine s_a hf rfl ?_; clear hf a; intro a hf
  refine s_a hf rfl ?_; clear hf a; intro a hf
  refine s_nil ?_
  refine then_n ?_
  refine wp_seq ?_
  refine wp_seq ?_
  refine wp_region_lit ?_
  refine s_m hf rfl ?_; clear hf a; intro a hf
  refine s_v hf (x_not (hf.eval rfl)) ?_; clear hf a; intro a hf
  refine s_nil ?_
  refine then_n ?_
  refine c_cond_f hf rfl rfl ?_
  refine wp_skip ?_
  refine then_n ?_
  refine wp_seq ?_
  refine wp_seq ?_
  refine wp_region_lit ?_
  refine s_m hf rfl ?_; clear hf a; intro a hf
  refine s_v hf (x_eqNil Try.underlying24 (hf.eval rfl) (hf.eval rfl)) ?_; clear hf a; intro a hf
  refine s_nil ?_
  refine then_n ?_
  refine c_cond_t hf rfl rfl ?_
  refine wp_seq ?_
  refine wp_region_lit ?_
  refine s_a hf rfl ?_; clear hf a; intro a hf
  refine s_nil ?_
  refine then_n ?_
  refine wp_ret ?_
  refine then_r ?_
  refine r_1 hf Try.results15 rfl ?_
  exact ⟨rfl, hs.kept⟩

theorem diskCrashes_b2 (w0 : World) (a1 : Option Addr) (c1 : Nat) (image : List UInt8) (hr1 : RdB (hp w0) (.slice a1 image.length c1) image) (hl1 : image.length ≤ 140737488351232) (cap : Int) (hc1 : 0 ≤ cap) (hc2 : cap ≤ 16777216) (hc3 : cap < image.length) (asc : Option Addr) (csc : Nat) (ops : List DOp) (hrosc : RdS opF 7 (hp w0) (.slice asc ops.length csc) ops) (hogsc : ∀ o ∈ ops, DOpG (hp w0) o) (hlosc : ops.length ≤ 1048576) (csz : Int) (ac : Option Addr) (cc : Nat) (secs : List Int) (rest : Int) (hrc : RdS iF 1 (hp w0) (.slice ac secs.length cc) secs) (hlc : secs.length ≤ 1048576) : Calls Try.prog 15 #[.slice a1 image.length c1, .int .i64 cap, .slice asc ops.length csc, .agg #[.int .i64 csz, .slice ac secs.length cc, .int .i64 rest]] w0 fun e w' => e = .returned (.bool true) ∧ Kept w0 w' None_ := by
  have hs := St.start w0 None_
  refine c_enter (N := 131) Try.func15 rfl Try.ntmps15 (by simp) ?_
  intro a hf
  refine wp_seq ?_
  refine wp_region_lit ?_
  refine s_do hf rfl (y_box hs (hf.eval rfl) ?_); clear hf hs a; intro cx w hs a hf
  replace hs : St ⟨w0, None_⟩ w [cb cx 40 [.int .i64 csz, .slice ac secs.length cc, .int .i64 rest]] := hs
  refine s_a hf rfl ?_; clear hf a; intro a hf
  refine s_nil ?_
  refine then_n ?_
  refine wp_seq ?_
  refine wp_region_lit ?_
  refine s_m hf rfl ?_; clear hf a; intro a hf
  refine s_m hf rfl ?_; clear hf a; intro a hf
  refine s_do hf rfl (y_call (hf.eval rfl) (hf.evals rfl) Try.call18 ((made_b2 _ a1 c1 image (hs.oldB hr1) hl1 cap hc1 hc2 hc3).mono ?_))
  rintro e w1 ⟨rfl, hk⟩
  replace hs := hs.ext hk
  refine ⟨_, rfl, ?_⟩; clear hf a; intro a hf
  refine s_m hf rfl ?_; clear hf a; intro a hf
  refine s_v hf (x_extract (hf.eval rfl) rfl) ?_; clear hf a; intro a hf
  refine s_v hf (x_extract (hf.eval rfl) rfl) ?_; clear hf a; intro a hf
  refine s_v hf (x_extract (hf.eval rfl) rfl) ?_; clear hf a; intro a hf
  refine s_a hf rfl ?_; clear hf a; intro a hf
  refine s_a hf rfl ?_; clear hf a; intro a hf
  refine s_a hf rfl ?_; clear hf a; intro a hf
  refine s_nil ?_
  refine then_n ?_
  refine wp_seq ?_
  refine wp_seq ?_
  refine wp_region_lit ?_
  refine s_m hf rfl ?_; clear hf a; intro a hf
  refine s_v hf (x_not (hf.eval rfl)) ?_; clear hf a; intro a hf
  refine s_nil ?_
  refine then_n ?_
  refine c_cond_f hf rfl rfl ?_
  refine wp_skip ?_
  refine then_n ?_
  refine wp_seq ?_
  refine wp_seq ?_
  refine wp_region_lit ?_
  refine s_m hf rfl ?_; clear hf a; intro a hf
  refine s_v hf (x_eqNil Try.underlying24 (hf.eval rfl) (hf.eval rfl)) ?_; clear hf a; intro a hf
  refine s_nil ?_
  refine then_n ?_
  refine c_cond_t hf rfl rfl ?_
  refine wp_seq ?_
  refine wp_region_lit ?_
  refine s_a hf rfl ?_; clear hf a; intro a hf
  refine s_nil ?_
  refine then_n ?_
  refine wp_ret ?_
  refine then_r ?_
  refine r_1 hf Try.results15 rfl ?_
  exact ⟨rfl, hs.kept⟩

theorem diskCrashes_ok (w0 : World) (a1 : Option Addr) (c1 : Nat) (image : List UInt8) (hr1 : RdB (hp w0) (.slice a1 image.length c1) image) (hl1 : image.length ≤ 140737488351232) (cap : Int) (hc1 : 0 ≤ cap) (hc2 : cap ≤ 16777216) (hc3 : image.length ≤ cap) (asc : Option Addr) (csc : Nat) (ops : List DOp) (hrosc : RdS opF 7 (hp w0) (.slice asc ops.length csc) ops) (hogsc : ∀ o ∈ ops, DOpG (hp w0) o) (hlosc : ops.length ≤ 1048576) (csz : Int) (ac : Option Addr) (cc : Nat) (secs : List Int) (rest : Int) (hrc : RdS iF 1 (hp w0) (.slice ac secs.length cc) secs) (hlc : secs.length ≤ 1048576) : Calls Try.prog 15 #[.slice a1 image.length c1, .int .i64 cap, .slice asc ops.length csc, .agg #[.int .i64 csz, .slice ac secs.length cc, .int .i64 rest]] w0 fun e w' => e = .returned (.bool true) ∧ Kept w0 w' None_ := by
  have hs := St.start w0 None_
  refine c_enter (N := 131) Try.func15 rfl Try.ntmps15 (by simp) ?_
  intro a hf
  refine wp_seq ?_
  refine wp_region_lit ?_
  refine s_do hf rfl (y_box hs (hf.eval rfl) ?_); clear hf hs a; intro cx w hs a hf
  replace hs : St ⟨w0, None_⟩ w [cb cx 40 [.int .i64 csz, .slice ac secs.length cc, .int .i64 rest]] := hs
  refine s_a hf rfl ?_; clear hf a; intro a hf
  refine s_nil ?_
  refine then_n ?_
  refine wp_seq ?_
  refine wp_region_lit ?_
  refine s_m hf rfl ?_; clear hf a; intro a hf
  refine s_m hf rfl ?_; clear hf a; intro a hf
  refine s_do hf rfl (y_call (hf.eval rfl) (hf.evals rfl) Try.call18 ((made_in _ a1 c1 image (hs.oldB hr1) hl1 cap hc1 hc2 hc3).mono ?_))
  rintro e w1 ⟨p, q, rfl, hj⟩
  replace hs := hs.join hj
  simp only [List.cons_append, List.nil_append] at hs
  refine ⟨_, rfl, ?_⟩; clear hf a; intro a hf
  refine s_m hf rfl ?_; clear hf a; intro a hf
  refine s_v hf (x_extract (hf.eval rfl) rfl) ?_; clear hf a; intro a hf
  refine s_v hf (x_extract (hf.eval rfl) rfl) ?_; clear hf a; intro a hf
  refine s_v hf (x_extract (hf.eval rfl) rfl) ?_; clear hf a; intro a hf
  refine s_a hf rfl ?_; clear hf a; intro a hf
  refine s_a hf rfl ?_; clear hf a; intro a hf
  refine s_a hf rfl ?_; clear hf a; intro a hf
  refine s_nil ?_
  refine then_n ?_
  refine wp_seq ?_
  refine wp_seq ?_
  refine wp_region_lit ?_
  refine s_m hf rfl ?_; clear hf a; intro a hf
  refine s_v hf (x_not (hf.eval rfl)) ?_; clear hf a; intro a hf
  refine s_nil ?_
  refine then_n ?_
  refine c_cond_f hf rfl rfl ?_
  refine wp_skip ?_
  refine then_n ?_
  refine wp_seq ?_
  refine wp_seq ?_
  refine wp_region_lit ?_
  refine s_m hf rfl ?_; clear hf a; intro a hf
  refine s_v hf (x_eqNil Try.underlying24 (hf.eval rfl) (hf.eval rfl)) ?_; clear hf a; intro a hf
  refine s_nil ?_
  refine then_n ?_
  refine c_cond_f hf rfl rfl ?_
  refine wp_skip ?_
  refine then_n ?_
  refine wp_seq ?_
  refine wp_seq ?_
  refine wp_region_lit ?_
  refine s_a hf rfl ?_; clear hf a; intro a hf
  refine s_nil ?_
  refine then_n ?_
  refine wp_block ?_
  refine c_loop (L0 := [(1, _), (2, _), (7, _), (9, _), (10, _)]) (fun M w m => ∃ (i : Nat) (s : DS), M = [(12, .int .i64 (i : Int))] ∧ ops.length - i = m ∧ i ≤ ops.length ∧ DOk s ∧ DB s i ∧ s.room = cap ∧ St ⟨w0, None_⟩ w [diskA 78 83 5 3 p s, refA 90 94 5 3 q s, cb cx 40 [.int .i64 csz, .slice ac secs.length cc, .int .i64 rest]]) (M0 := [(12, .int .i64 0)]) (⟨0, newS image cap, rfl, rfl, Nat.zero_le _, newS_ok hc1 hc2 hc3, newS_b _ _ _, rfl, hs⟩) (hf.sub ⟨rfl, rfl, rfl, rfl, rfl, rfl, trivial⟩) ?_
  clear hf hs a
  rintro M m a w ⟨i, s, rfl, rfl, hi, ho, hb, hrm, hs⟩ hf
  refine wp_seq ?_
  refine wp_seq ?_
  refine wp_region_lit ?_
  refine s_m hf rfl ?_; clear hf a; intro a hf
  refine s_m hf rfl ?_; clear hf a; intro a hf
  refine s_v hf (x_len Try.underlying58 (hf.eval rfl)) ?_; clear hf a; intro a hf
  refine s_v hf (x_bin (hf.eval rfl) (hf.eval rfl) (r_lt _ _ _ _)) ?_; clear hf a; intro a hf
  refine s_nil ?_
  refine then_n ?_
  refine c_cond hf rfl (fun hi2 => ?_) (fun hi2 => ?_)
  · simp only [decide_eq_true_eq, decide_eq_false_iff_not, Bool.not_eq_true', Bool.not_eq_false', Bool.not_eq_true, Int.not_lt, Int.not_le] at hi2
    have hlt : i < ops.length := by omega
    obtain ⟨asc, rfl⟩ := hrosc.some (by omega)
    have hg := hogsc _ (List.getElem_mem hlt)
    refine wp_skip ?_
    refine then_n ?_
    refine wp_seq ?_
    refine wp_block ?_
    refine wp_seq ?_
    refine wp_region_lit ?_
    refine s_m hf rfl ?_; clear hf a; intro a hf
    refine s_m hf rfl ?_; clear hf a; intro a hf
    refine s_m hf rfl ?_; clear hf a; intro a hf
    refine s_m hf rfl ?_; clear hf a; intro a hf
    refine s_v hf (x_indexAddr sl58 (hf.eval rfl) (hf.eval rfl) (by omega) (by omega)) ?_; clear hf a; intro a hf
    refine s_r hf (x_loadS (f := opF) ag42 (fun _ => rfl) (hs.old hrosc) (hf.eval rfl) (by simpa using hlt)) ?_; clear hf a; intro a hf
    refine s_do hf rfl (y_call (hf.eval rfl) (hf.evals rfl) Try.call47 ((changes_spec _ _ _ p q s hs ops[i] (Rdy.old hg.data) hg.len ho (hb.up (by omega))).mono ?_))
    rintro e w1 ⟨rfl, hs⟩
    refine ⟨_, rfl, ?_⟩; clear hf a; intro a hf
    refine s_a hf rfl ?_; clear hf a; intro a hf
    refine s_nil ?_
    refine then_n ?_
    refine wp_seq ?_
    refine wp_region_lit ?_
    refine s_m hf rfl ?_; clear hf a; intro a hf
    refine s_v hf (x_not (hf.eval rfl)) ?_; clear hf a; intro a hf
    refine s_nil ?_
    refine then_n ?_
    refine c_cond_f hf rfl rfl ?_
    refine wp_skip ?_
    refine blk_n ?_
    refine then_n ?_
    refine wp_region_lit ?_
    refine s_m hf rfl ?_; clear hf a; intro a hf
    refine s_v hf (x_bin (hf.eval rfl) (hf.eval rfl) (r_addi _ (by omega) (by omega))) ?_; clear hf a; intro a hf
    refine s_a hf rfl ?_; clear hf a; intro a hf
    refine s_nil ?_
    exact ⟨_, _, ⟨i + 1, csS s ops[i], rfl, rfl, by omega, csS_ok ho hg.b1.2, csS_b ho hb _, (csS_room s _).trans hrm, hs⟩, by omega, hf.sub ⟨rfl, rfl, rfl, rfl, rfl, rfl, trivial⟩⟩
  · simp only [decide_eq_true_eq, decide_eq_false_iff_not, Bool.not_eq_true', Bool.not_eq_false', Bool.not_eq_true, Int.not_lt, Int.not_le] at hi2
    have hn1 := ho.now
    have hn2 := ho.room1
    refine wp_exit ?_
    refine then_x ?_
    refine then_x ?_
    refine blk_x ?_
    refine then_n ?_
    refine wp_seq ?_
    refine wp_region_lit ?_
    refine s_m hf rfl ?_; clear hf a; intro a hf
    replace hs := hs.take (A := cb cx 40 [.int .i64 csz, .slice ac secs.length cc, .int .i64 rest]) (by first | exact .here _ | exact .there _ (.here _) | exact .there _ (.there _ (.here _)) | exact .there _ (.there _ (.there _ (.here _))) | exact .there _ (.there _ (.there _ (.there _ (.here _)))) | exact .there _ (.there _ (.there _ (.there _ (.there _ (.here _))))) | exact .there _ (.there _ (.there _ (.there _ (.there _ (.there _ (.here _)))))) | exact .there _ (.there _ (.there _ (.there _ (.there _ (.there _ (.there _ (.here _))))))) | exact .there _ (.there _ (.there _ (.there _ (.there _ (.there _ (.there _ (.there _ (.here _)))))))) | exact .there _ (.there _ (.there _ (.there _ (.there _ (.there _ (.there _ (.there _ (.there _ (.here _))))))))) | exact .there _ (.there _ (.there _ (.there _ (.there _ (.there _ (.there _ (.there _ (.there _ (.there _ (.here _)))))))))) | exact .there _ (.there _ (.there _ (.there _ (.there _ (.there _ (.there _ (.there _ (.there _ (.there _ (.there _ (.here _))))))))))))
    refine s_r hf (x_loadBlk hs ag40 (hf.eval rfl) rfl (.here _)) ?_; clear hf a; intro a hf
    refine s_do hf rfl (y_call (hf.eval rfl) (hf.evals rfl) Try.call34 ((choice_spec _ csz ac cc secs rest (hs.old hrc) hlc).mono ?_))
    rintro e w1 ⟨e3, fe3, rfl, hj⟩
    replace hs := hs.join hj
    simp only [List.cons_append, List.nil_append] at hs
    refine ⟨_, rfl, ?_⟩; clear hf a; intro a hf
    replace hs := hs.take (A := sl 3 1 (.slice e3 secs.length fe3) secs.length (secs.flatMap iF)) (by first | exact .here _ | exact .there _ (.here _) | exact .there _ (.there _ (.here _)) | exact .there _ (.there _ (.there _ (.here _))) | exact .there _ (.there _ (.there _ (.there _ (.here _)))) | exact .there _ (.there _ (.there _ (.there _ (.there _ (.here _))))) | exact .there _ (.there _ (.there _ (.there _ (.there _ (.there _ (.here _)))))) | exact .there _ (.there _ (.there _ (.there _ (.there _ (.there _ (.there _ (.here _))))))) | exact .there _ (.there _ (.there _ (.there _ (.there _ (.there _ (.there _ (.there _ (.here _)))))))) | exact .there _ (.there _ (.there _ (.there _ (.there _ (.there _ (.there _ (.there _ (.there _ (.here _))))))))) | exact .there _ (.there _ (.there _ (.there _ (.there _ (.there _ (.there _ (.there _ (.there _ (.there _ (.here _)))))))))) | exact .there _ (.there _ (.there _ (.there _ (.there _ (.there _ (.there _ (.there _ (.there _ (.there _ (.there _ (.here _))))))))))))
    replace hs := hs.take (A := diskA 78 83 5 3 p s) (by first | exact .here _ | exact .there _ (.here _) | exact .there _ (.there _ (.here _)) | exact .there _ (.there _ (.there _ (.here _))) | exact .there _ (.there _ (.there _ (.there _ (.here _)))) | exact .there _ (.there _ (.there _ (.there _ (.there _ (.here _))))) | exact .there _ (.there _ (.there _ (.there _ (.there _ (.there _ (.here _)))))) | exact .there _ (.there _ (.there _ (.there _ (.there _ (.there _ (.there _ (.here _))))))) | exact .there _ (.there _ (.there _ (.there _ (.there _ (.there _ (.there _ (.there _ (.here _)))))))) | exact .there _ (.there _ (.there _ (.there _ (.there _ (.there _ (.there _ (.there _ (.there _ (.here _))))))))) | exact .there _ (.there _ (.there _ (.there _ (.there _ (.there _ (.there _ (.there _ (.there _ (.there _ (.here _)))))))))) | exact .there _ (.there _ (.there _ (.there _ (.there _ (.there _ (.there _ (.there _ (.there _ (.there _ (.there _ (.here _))))))))))))
    refine s_do hf rfl (y_call (hf.eval rfl) (hf.evals rfl) Try.call33 ((dCrash_spec _ _ _ p s hs csz e3 fe3 secs rest ho (RdyS.own (.here _)) (by have := hb.sizes; omega) (by have := hb.pcs; omega)).mono ?_))
    rintro e w1 ⟨p2, rfl, hs⟩
    refine ⟨_, rfl, ?_⟩; clear hf a; intro a hf
    refine s_m hf rfl ?_; clear hf a; intro a hf
    refine s_v hf (x_extract (hf.eval rfl) rfl) ?_; clear hf a; intro a hf
    refine s_v hf (x_extract (hf.eval rfl) rfl) ?_; clear hf a; intro a hf
    refine s_a hf rfl ?_; clear hf a; intro a hf
    refine s_a hf rfl ?_; clear hf a; intro a hf
    refine s_nil ?_
    refine then_n ?_
    refine wp_seq ?_
    refine wp_region_lit ?_
    refine s_m hf rfl ?_; clear hf a; intro a hf
    replace hs := hs.take (A := cb cx 40 [.int .i64 csz, .slice ac secs.length cc, .int .i64 rest]) (by first | exact .here _ | exact .there _ (.here _) | exact .there _ (.there _ (.here _)) | exact .there _ (.there _ (.there _ (.here _))) | exact .there _ (.there _ (.there _ (.there _ (.here _)))) | exact .there _ (.there _ (.there _ (.there _ (.there _ (.here _))))) | exact .there _ (.there _ (.there _ (.there _ (.there _ (.there _ (.here _)))))) | exact .there _ (.there _ (.there _ (.there _ (.there _ (.there _ (.there _ (.here _))))))) | exact .there _ (.there _ (.there _ (.there _ (.there _ (.there _ (.there _ (.there _ (.here _)))))))) | exact .there _ (.there _ (.there _ (.there _ (.there _ (.there _ (.there _ (.there _ (.there _ (.here _))))))))) | exact .there _ (.there _ (.there _ (.there _ (.there _ (.there _ (.there _ (.there _ (.there _ (.there _ (.here _)))))))))) | exact .there _ (.there _ (.there _ (.there _ (.there _ (.there _ (.there _ (.there _ (.there _ (.there _ (.there _ (.here _))))))))))))
    refine s_r hf (x_loadBlk hs ag40 (hf.eval rfl) rfl (.here _)) ?_; clear hf a; intro a hf
    replace hs := hs.take (A := refA 90 94 5 3 q s) (by first | exact .here _ | exact .there _ (.here _) | exact .there _ (.there _ (.here _)) | exact .there _ (.there _ (.there _ (.here _))) | exact .there _ (.there _ (.there _ (.there _ (.here _)))) | exact .there _ (.there _ (.there _ (.there _ (.there _ (.here _))))) | exact .there _ (.there _ (.there _ (.there _ (.there _ (.there _ (.here _)))))) | exact .there _ (.there _ (.there _ (.there _ (.there _ (.there _ (.there _ (.here _))))))) | exact .there _ (.there _ (.there _ (.there _ (.there _ (.there _ (.there _ (.there _ (.here _)))))))) | exact .there _ (.there _ (.there _ (.there _ (.there _ (.there _ (.there _ (.there _ (.there _ (.here _))))))))) | exact .there _ (.there _ (.there _ (.there _ (.there _ (.there _ (.there _ (.there _ (.there _ (.there _ (.here _)))))))))) | exact .there _ (.there _ (.there _ (.there _ (.there _ (.there _ (.there _ (.there _ (.there _ (.there _ (.there _ (.here _))))))))))))
    refine s_do hf rfl (y_call (hf.eval rfl) (hf.evals rfl) Try.call48 ((rCrash_spec _ _ _ q s hs csz ac cc secs rest ho (RdyS.old hrc) (by have := hb.sizes; omega) (by have := hb.pcs; omega)).mono ?_))
    rintro e w1 ⟨q2, rfl, hs⟩
    have hoL := outN_le ho (csz, secs, rest)
    have hOL := outS_length s (csz, secs, rest)
    refine ⟨_, rfl, ?_⟩; clear hf a; intro a hf
    refine s_m hf rfl ?_; clear hf a; intro a hf
    refine s_v hf (x_extract (hf.eval rfl) rfl) ?_; clear hf a; intro a hf
    refine s_v hf (x_extract (hf.eval rfl) rfl) ?_; clear hf a; intro a hf
    refine s_a hf rfl ?_; clear hf a; intro a hf
    refine s_a hf rfl ?_; clear hf a; intro a hf
    refine s_nil ?_
    refine then_n ?_
    refine wp_seq ?_
    refine wp_seq ?_
    refine wp_region_lit ?_
    refine s_m hf rfl ?_; clear hf a; intro a hf
    refine s_do hf rfl (y_call (hf.eval rfl) (hf.evals rfl) Try.call27 ((num_spec _ _).mono ?_))
    rintro e w1 ⟨rfl, rfl⟩
    refine ⟨_, rfl, ?_⟩; clear hf a; intro a hf
    refine s_m hf rfl ?_; clear hf a; intro a hf
    refine s_v hf (x_bin (hf.eval rfl) (hf.eval rfl) (r_ne _ _ _ _)) ?_; clear hf a; intro a hf
    refine s_m hf rfl ?_; clear hf a; intro a hf
    replace hf := hf.now (k := 67) (v' := .bool false) rfl (congrArg Value.bool (by first | rfl | simp))
    refine s_do hf (wanted_of hf rfl rfl rfl) (.value (x_move (hf.eval rfl) _) ?_); clear hf a; intro a hf
    refine s_do hf (wanted_of hf rfl rfl rfl) (.value (x_eqNil Try.underlying23 (hf.eval rfl) (hf.eval rfl) _) ?_); clear hf a; intro a hf
    refine s_v hf (x_pick_f (hf.eval rfl) (hf.eval rfl)) ?_; clear hf a; intro a hf
    refine s_nil ?_
    refine then_n ?_
    refine c_cond_f hf rfl (by first | rfl | simp) ?_
    refine wp_skip ?_
    refine then_n ?_
    refine wp_seq ?_
    refine wp_region_lit ?_
    refine s_m hf rfl ?_; clear hf a; intro a hf
    replace hs := hs.take (A := diskA 78 83 5 3 p2 (newS (outS s (csz, secs, rest)) s.room)) (by first | exact .here _ | exact .there _ (.here _) | exact .there _ (.there _ (.here _)) | exact .there _ (.there _ (.there _ (.here _))) | exact .there _ (.there _ (.there _ (.there _ (.here _)))) | exact .there _ (.there _ (.there _ (.there _ (.there _ (.here _))))) | exact .there _ (.there _ (.there _ (.there _ (.there _ (.there _ (.here _)))))) | exact .there _ (.there _ (.there _ (.there _ (.there _ (.there _ (.there _ (.here _))))))) | exact .there _ (.there _ (.there _ (.there _ (.there _ (.there _ (.there _ (.there _ (.here _)))))))) | exact .there _ (.there _ (.there _ (.there _ (.there _ (.there _ (.there _ (.there _ (.there _ (.here _))))))))) | exact .there _ (.there _ (.there _ (.there _ (.there _ (.there _ (.there _ (.there _ (.there _ (.there _ (.here _)))))))))) | exact .there _ (.there _ (.there _ (.there _ (.there _ (.there _ (.there _ (.there _ (.there _ (.there _ (.there _ (.here _))))))))))))
    refine s_do hf rfl (y_call (hf.eval rfl) (hf.evals rfl) Try.call19 ((dImage_spec _ _ _ p2 _ hs (by show (outS s (csz, secs, rest)).length ≤ _; omega)).mono ?_))
    rintro e w1 ⟨e4, fe4, rfl, hs⟩
    replace hs : St _ _ (slB 5 (.slice e4 (outS s (csz, secs, rest)).length fe4) (outS s (csz, secs, rest)) :: _) := hs
    refine ⟨_, rfl, ?_⟩; clear hf a; intro a hf
    refine s_a hf rfl ?_; clear hf a; intro a hf
    refine s_nil ?_
    refine then_n ?_
    refine wp_seq ?_
    refine wp_region_lit ?_
    refine s_m hf rfl ?_; clear hf a; intro a hf
    replace hs := hs.take (A := refA 90 94 5 3 q2 (newS (outS s (csz, secs, rest)) s.room)) (by first | exact .here _ | exact .there _ (.here _) | exact .there _ (.there _ (.here _)) | exact .there _ (.there _ (.there _ (.here _))) | exact .there _ (.there _ (.there _ (.there _ (.here _)))) | exact .there _ (.there _ (.there _ (.there _ (.there _ (.here _))))) | exact .there _ (.there _ (.there _ (.there _ (.there _ (.there _ (.here _)))))) | exact .there _ (.there _ (.there _ (.there _ (.there _ (.there _ (.there _ (.here _))))))) | exact .there _ (.there _ (.there _ (.there _ (.there _ (.there _ (.there _ (.there _ (.here _)))))))) | exact .there _ (.there _ (.there _ (.there _ (.there _ (.there _ (.there _ (.there _ (.there _ (.here _))))))))) | exact .there _ (.there _ (.there _ (.there _ (.there _ (.there _ (.there _ (.there _ (.there _ (.there _ (.here _)))))))))) | exact .there _ (.there _ (.there _ (.there _ (.there _ (.there _ (.there _ (.there _ (.there _ (.there _ (.there _ (.here _))))))))))))
    refine s_do hf rfl (y_call (hf.eval rfl) (hf.evals rfl) Try.call49 ((rImage_spec _ _ _ q2 _ hs (by show (outS s (csz, secs, rest)).length ≤ _; omega)).mono ?_))
    rintro e w1 ⟨e5, fe5, rfl, hs⟩
    replace hs : St _ _ (slB 5 (.slice e5 (outS s (csz, secs, rest)).length fe5) (outS s (csz, secs, rest)) :: _) := hs
    refine ⟨_, rfl, ?_⟩; clear hf a; intro a hf
    refine s_a hf rfl ?_; clear hf a; intro a hf
    refine s_nil ?_
    refine then_n ?_
    refine wp_seq ?_
    refine wp_region_lit ?_
    refine s_m hf rfl ?_; clear hf a; intro a hf
    replace hs := hs.take (A := diskA 78 83 5 3 p (kilS s)) (by first | exact .here _ | exact .there _ (.here _) | exact .there _ (.there _ (.here _)) | exact .there _ (.there _ (.there _ (.here _))) | exact .there _ (.there _ (.there _ (.there _ (.here _)))) | exact .there _ (.there _ (.there _ (.there _ (.there _ (.here _))))) | exact .there _ (.there _ (.there _ (.there _ (.there _ (.there _ (.here _)))))) | exact .there _ (.there _ (.there _ (.there _ (.there _ (.there _ (.there _ (.here _))))))) | exact .there _ (.there _ (.there _ (.there _ (.there _ (.there _ (.there _ (.there _ (.here _)))))))) | exact .there _ (.there _ (.there _ (.there _ (.there _ (.there _ (.there _ (.there _ (.there _ (.here _))))))))) | exact .there _ (.there _ (.there _ (.there _ (.there _ (.there _ (.there _ (.there _ (.there _ (.there _ (.here _)))))))))) | exact .there _ (.there _ (.there _ (.there _ (.there _ (.there _ (.there _ (.there _ (.there _ (.there _ (.there _ (.here _))))))))))))
    refine s_do hf rfl (y_call (hf.eval rfl) (hf.evals rfl) Try.call19 ((dImage_spec _ _ _ p _ hs (by show s.now.length ≤ _; omega)).mono ?_))
    rintro e w1 ⟨e6, fe6, rfl, hs⟩
    replace hs : St _ _ (slB 5 (.slice e6 s.now.length fe6) s.now :: _) := hs
    refine ⟨_, rfl, ?_⟩; clear hf a; intro a hf
    refine s_a hf rfl ?_; clear hf a; intro a hf
    refine s_nil ?_
    refine then_n ?_
    refine wp_seq ?_
    refine wp_region_lit ?_
    refine s_m hf rfl ?_; clear hf a; intro a hf
    replace hs := hs.take (A := refA 90 94 5 3 q (kilS s)) (by first | exact .here _ | exact .there _ (.here _) | exact .there _ (.there _ (.here _)) | exact .there _ (.there _ (.there _ (.here _))) | exact .there _ (.there _ (.there _ (.there _ (.here _)))) | exact .there _ (.there _ (.there _ (.there _ (.there _ (.here _))))) | exact .there _ (.there _ (.there _ (.there _ (.there _ (.there _ (.here _)))))) | exact .there _ (.there _ (.there _ (.there _ (.there _ (.there _ (.there _ (.here _))))))) | exact .there _ (.there _ (.there _ (.there _ (.there _ (.there _ (.there _ (.there _ (.here _)))))))) | exact .there _ (.there _ (.there _ (.there _ (.there _ (.there _ (.there _ (.there _ (.there _ (.here _))))))))) | exact .there _ (.there _ (.there _ (.there _ (.there _ (.there _ (.there _ (.there _ (.there _ (.there _ (.here _)))))))))) | exact .there _ (.there _ (.there _ (.there _ (.there _ (.there _ (.there _ (.there _ (.there _ (.there _ (.there _ (.here _))))))))))))
    refine s_do hf rfl (y_call (hf.eval rfl) (hf.evals rfl) Try.call49 ((rImage_spec _ _ _ q _ hs (by show s.now.length ≤ _; omega)).mono ?_))
    rintro e w1 ⟨e7, fe7, rfl, hs⟩
    replace hs : St _ _ (slB 5 (.slice e7 s.now.length fe7) s.now :: _) := hs
    refine ⟨_, rfl, ?_⟩; clear hf a; intro a hf
    refine s_a hf rfl ?_; clear hf a; intro a hf
    refine s_nil ?_
    refine then_n ?_
    refine wp_seq ?_
    refine wp_seq ?_
    refine wp_region_lit ?_
    refine s_m hf rfl ?_; clear hf a; intro a hf
    refine s_m hf rfl ?_; clear hf a; intro a hf
    replace hs := hs.take (A := slB 5 (.slice e5 (outS s (csz, secs, rest)).length fe5) (outS s (csz, secs, rest))) (by first | exact .here _ | exact .there _ (.here _) | exact .there _ (.there _ (.here _)) | exact .there _ (.there _ (.there _ (.here _))) | exact .there _ (.there _ (.there _ (.there _ (.here _)))) | exact .there _ (.there _ (.there _ (.there _ (.there _ (.here _))))) | exact .there _ (.there _ (.there _ (.there _ (.there _ (.there _ (.here _)))))) | exact .there _ (.there _ (.there _ (.there _ (.there _ (.there _ (.there _ (.here _))))))) | exact .there _ (.there _ (.there _ (.there _ (.there _ (.there _ (.there _ (.there _ (.here _)))))))) | exact .there _ (.there _ (.there _ (.there _ (.there _ (.there _ (.there _ (.there _ (.there _ (.here _))))))))) | exact .there _ (.there _ (.there _ (.there _ (.there _ (.there _ (.there _ (.there _ (.there _ (.there _ (.here _)))))))))) | exact .there _ (.there _ (.there _ (.there _ (.there _ (.there _ (.there _ (.there _ (.there _ (.there _ (.there _ (.here _))))))))))))
    replace hs := hs.take (A := slB 5 (.slice e4 (outS s (csz, secs, rest)).length fe4) (outS s (csz, secs, rest))) (by first | exact .here _ | exact .there _ (.here _) | exact .there _ (.there _ (.here _)) | exact .there _ (.there _ (.there _ (.here _))) | exact .there _ (.there _ (.there _ (.there _ (.here _)))) | exact .there _ (.there _ (.there _ (.there _ (.there _ (.here _))))) | exact .there _ (.there _ (.there _ (.there _ (.there _ (.there _ (.here _)))))) | exact .there _ (.there _ (.there _ (.there _ (.there _ (.there _ (.there _ (.here _))))))) | exact .there _ (.there _ (.there _ (.there _ (.there _ (.there _ (.there _ (.there _ (.here _)))))))) | exact .there _ (.there _ (.there _ (.there _ (.there _ (.there _ (.there _ (.there _ (.there _ (.here _))))))))) | exact .there _ (.there _ (.there _ (.there _ (.there _ (.there _ (.there _ (.there _ (.there _ (.there _ (.here _)))))))))) | exact .there _ (.there _ (.there _ (.there _ (.there _ (.there _ (.there _ (.there _ (.there _ (.there _ (.there _ (.here _))))))))))))
    refine s_do hf rfl (y_call (hf.eval rfl) (hf.evals rfl) Try.call24 ((same_spec _ _ _ (outS s (csz, secs, rest)) (hs.rdB (.here _) fun h => slB_rd) _ _ (outS s (csz, secs, rest)) (hs.rdB (.there _ (.here _)) fun h => slB_rd) (by omega)).mono ?_))
    rintro e w1 ⟨rfl, hk⟩
    replace hs := hs.ext hk
    refine ⟨_, rfl, ?_⟩; clear hf a; intro a hf
    refine s_v hf (x_not (hf.eval rfl)) ?_; clear hf a; intro a hf
    refine s_m hf rfl ?_; clear hf a; intro a hf
    replace hf := hf.now (k := 83) (v' := .bool false) rfl (congrArg Value.bool (by first | rfl | simp))
    refine s_do hf (wanted_of hf rfl rfl rfl) (.value (x_move (hf.eval rfl) _) ?_); clear hf a; intro a hf
    refine s_do hf (wanted_of hf rfl rfl rfl) (.value (x_move (hf.eval rfl) _) ?_); clear hf a; intro a hf
    replace hs := hs.take (A := slB 5 (.slice e7 s.now.length fe7) s.now) (by first | exact .here _ | exact .there _ (.here _) | exact .there _ (.there _ (.here _)) | exact .there _ (.there _ (.there _ (.here _))) | exact .there _ (.there _ (.there _ (.there _ (.here _)))) | exact .there _ (.there _ (.there _ (.there _ (.there _ (.here _))))) | exact .there _ (.there _ (.there _ (.there _ (.there _ (.there _ (.here _)))))) | exact .there _ (.there _ (.there _ (.there _ (.there _ (.there _ (.there _ (.here _))))))) | exact .there _ (.there _ (.there _ (.there _ (.there _ (.there _ (.there _ (.there _ (.here _)))))))) | exact .there _ (.there _ (.there _ (.there _ (.there _ (.there _ (.there _ (.there _ (.there _ (.here _))))))))) | exact .there _ (.there _ (.there _ (.there _ (.there _ (.there _ (.there _ (.there _ (.there _ (.there _ (.here _)))))))))) | exact .there _ (.there _ (.there _ (.there _ (.there _ (.there _ (.there _ (.there _ (.there _ (.there _ (.there _ (.here _))))))))))))
    replace hs := hs.take (A := slB 5 (.slice e6 s.now.length fe6) s.now) (by first | exact .here _ | exact .there _ (.here _) | exact .there _ (.there _ (.here _)) | exact .there _ (.there _ (.there _ (.here _))) | exact .there _ (.there _ (.there _ (.there _ (.here _)))) | exact .there _ (.there _ (.there _ (.there _ (.there _ (.here _))))) | exact .there _ (.there _ (.there _ (.there _ (.there _ (.there _ (.here _)))))) | exact .there _ (.there _ (.there _ (.there _ (.there _ (.there _ (.there _ (.here _))))))) | exact .there _ (.there _ (.there _ (.there _ (.there _ (.there _ (.there _ (.there _ (.here _)))))))) | exact .there _ (.there _ (.there _ (.there _ (.there _ (.there _ (.there _ (.there _ (.there _ (.here _))))))))) | exact .there _ (.there _ (.there _ (.there _ (.there _ (.there _ (.there _ (.there _ (.there _ (.there _ (.here _)))))))))) | exact .there _ (.there _ (.there _ (.there _ (.there _ (.there _ (.there _ (.there _ (.there _ (.there _ (.there _ (.here _))))))))))))
    refine s_do hf (wanted_of hf rfl rfl rfl) (y_call (hf.eval rfl) (hf.evals rfl) Try.call24 ((same_spec _ _ _ s.now (hs.rdB (.here _) fun h => slB_rd) _ _ s.now (hs.rdB (.there _ (.here _)) fun h => slB_rd) (by omega)).mono ?_))
    rintro e w1 ⟨rfl, hk⟩
    replace hs := hs.ext hk
    refine ⟨_, rfl, ?_⟩; clear hf a; intro a hf
    refine s_do hf (wanted_of hf rfl rfl rfl) (.value (x_not (hf.eval rfl) _) ?_); clear hf a; intro a hf
    refine s_v hf (x_pick_f (hf.eval rfl) (hf.eval rfl)) ?_; clear hf a; intro a hf
    refine s_nil ?_
    refine then_n ?_
    refine c_cond_f hf rfl (by first | rfl | simp) ?_
    refine wp_skip ?_
    refine then_n ?_
    refine wp_seq ?_
    refine wp_seq ?_
    refine wp_region_lit ?_
    refine s_m hf rfl ?_; clear hf a; intro a hf
    replace hs := hs.take (A := diskA 78 83 5 3 p2 (newS (outS s (csz, secs, rest)) s.room)) (by first | exact .here _ | exact .there _ (.here _) | exact .there _ (.there _ (.here _)) | exact .there _ (.there _ (.there _ (.here _))) | exact .there _ (.there _ (.there _ (.there _ (.here _)))) | exact .there _ (.there _ (.there _ (.there _ (.there _ (.here _))))) | exact .there _ (.there _ (.there _ (.there _ (.there _ (.there _ (.here _)))))) | exact .there _ (.there _ (.there _ (.there _ (.there _ (.there _ (.there _ (.here _))))))) | exact .there _ (.there _ (.there _ (.there _ (.there _ (.there _ (.there _ (.there _ (.here _)))))))) | exact .there _ (.there _ (.there _ (.there _ (.there _ (.there _ (.there _ (.there _ (.there _ (.here _))))))))) | exact .there _ (.there _ (.there _ (.there _ (.there _ (.there _ (.there _ (.there _ (.there _ (.there _ (.here _)))))))))) | exact .there _ (.there _ (.there _ (.there _ (.there _ (.there _ (.there _ (.there _ (.there _ (.there _ (.there _ (.here _))))))))))))
    refine s_do hf rfl (y_call (hf.eval rfl) (hf.evals rfl) Try.call21 ((dSize_spec _ _ _ p2 _ hs).mono ?_))
    rintro e w1 ⟨rfl, rfl⟩
    refine ⟨_, rfl, ?_⟩; clear hf a; intro a hf
    refine s_m hf rfl ?_; clear hf a; intro a hf
    refine s_v hf (x_len Try.underlying22 (hf.eval rfl)) ?_; clear hf a; intro a hf
    refine s_v hf (x_bin (hf.eval rfl) (hf.eval rfl) (r_ne _ _ _ _)) ?_; clear hf a; intro a hf
    refine s_m hf rfl ?_; clear hf a; intro a hf
    replace hf := hf.now (k := 94) (v' := .bool false) rfl (congrArg Value.bool (by first | rfl | (simp [newS]; done)))
    refine s_do hf (wanted_of hf rfl rfl rfl) (.value (x_move (hf.eval rfl) _) ?_); clear hf a; intro a hf
    refine s_do hf (wanted_of hf rfl rfl rfl) (y_call (hf.eval rfl) (hf.evals rfl) Try.call20 ((dCapacity_spec _ _ _ p2 _ hs).mono ?_))
    rintro e w1 ⟨rfl, rfl⟩
    refine ⟨_, rfl, ?_⟩; clear hf a; intro a hf
    refine s_do hf (wanted_of hf rfl rfl rfl) (.value (x_move (hf.eval rfl) _) ?_); clear hf a; intro a hf
    refine s_do hf (wanted_of hf rfl rfl rfl) (.value (x_bin (hf.eval rfl) (hf.eval rfl) (r_ne _ _ _ _) _) ?_); clear hf a; intro a hf
    refine s_v hf (x_pick_f (hf.eval rfl) (hf.eval rfl)) ?_; clear hf a; intro a hf
    refine s_m hf rfl ?_; clear hf a; intro a hf
    replace hf := hf.now (k := 100) (v' := .bool false) rfl (congrArg Value.bool (by simp [newS, hrm]))
    refine s_do hf (wanted_of hf rfl rfl rfl) (.value (x_move (hf.eval rfl) _) ?_); clear hf a; intro a hf
    refine s_do hf (wanted_of hf rfl rfl rfl) (y_call (hf.eval rfl) (hf.evals rfl) Try.call22 ((dCalls_spec _ _ _ p2 _ hs).mono ?_))
    rintro e w1 ⟨rfl, rfl⟩
    refine ⟨_, rfl, ?_⟩; clear hf a; intro a hf
    refine s_do hf (wanted_of hf rfl rfl rfl) (.value (x_bin (hf.eval rfl) (hf.eval rfl) (r_ne _ _ _ _) _) ?_); clear hf a; intro a hf
    refine s_v hf (x_pick_f (hf.eval rfl) (hf.eval rfl)) ?_; clear hf a; intro a hf
    refine s_m hf rfl ?_; clear hf a; intro a hf
    replace hf := hf.now (k := 105) (v' := .bool false) rfl (congrArg Value.bool (by simp [newS]))
    refine s_do hf (wanted_of hf rfl rfl rfl) (.value (x_move (hf.eval rfl) _) ?_); clear hf a; intro a hf
    refine s_do hf (wanted_of hf rfl rfl rfl) (y_call (hf.eval rfl) (hf.evals rfl) Try.call23 ((dAlive_spec _ _ _ p2 _ hs).mono ?_))
    rintro e w1 ⟨rfl, rfl⟩
    refine ⟨_, rfl, ?_⟩; clear hf a; intro a hf
    refine s_do hf (wanted_of hf rfl rfl rfl) (.value (x_not (hf.eval rfl) _) ?_); clear hf a; intro a hf
    refine s_v hf (x_pick_f (hf.eval rfl) (hf.eval rfl)) ?_; clear hf a; intro a hf
    refine s_m hf rfl ?_; clear hf a; intro a hf
    replace hf := hf.now (k := 110) (v' := .bool false) rfl (congrArg Value.bool (by simp [newS]))
    refine s_do hf (wanted_of hf rfl rfl rfl) (.value (x_move (hf.eval rfl) _) ?_); clear hf a; intro a hf
    replace hs := hs.take (A := diskA 78 83 5 3 p (kilS s)) (by first | exact .here _ | exact .there _ (.here _) | exact .there _ (.there _ (.here _)) | exact .there _ (.there _ (.there _ (.here _))) | exact .there _ (.there _ (.there _ (.there _ (.here _)))) | exact .there _ (.there _ (.there _ (.there _ (.there _ (.here _))))) | exact .there _ (.there _ (.there _ (.there _ (.there _ (.there _ (.here _)))))) | exact .there _ (.there _ (.there _ (.there _ (.there _ (.there _ (.there _ (.here _))))))) | exact .there _ (.there _ (.there _ (.there _ (.there _ (.there _ (.there _ (.there _ (.here _)))))))) | exact .there _ (.there _ (.there _ (.there _ (.there _ (.there _ (.there _ (.there _ (.there _ (.here _))))))))) | exact .there _ (.there _ (.there _ (.there _ (.there _ (.there _ (.there _ (.there _ (.there _ (.there _ (.here _)))))))))) | exact .there _ (.there _ (.there _ (.there _ (.there _ (.there _ (.there _ (.there _ (.there _ (.there _ (.there _ (.here _))))))))))))
    refine s_do hf (wanted_of hf rfl rfl rfl) (y_call (hf.eval rfl) (hf.evals rfl) Try.call23 ((dAlive_spec _ _ _ p _ hs).mono ?_))
    rintro e w1 ⟨rfl, rfl⟩
    refine ⟨_, rfl, ?_⟩; clear hf a; intro a hf
    refine s_v hf (x_pick_f (hf.eval rfl) (hf.eval rfl)) ?_; clear hf a; intro a hf
    refine s_nil ?_
    refine then_n ?_
    refine c_cond_f hf rfl (by simp [kilS]) ?_
    refine wp_skip ?_
    refine then_n ?_
    refine wp_seq ?_
    refine wp_region_lit ?_
    refine s_m hf rfl ?_; clear hf a; intro a hf
    replace hs := hs.take (A := cb cx 40 [.int .i64 csz, .slice ac secs.length cc, .int .i64 rest]) (by first | exact .here _ | exact .there _ (.here _) | exact .there _ (.there _ (.here _)) | exact .there _ (.there _ (.there _ (.here _))) | exact .there _ (.there _ (.there _ (.there _ (.here _)))) | exact .there _ (.there _ (.there _ (.there _ (.there _ (.here _))))) | exact .there _ (.there _ (.there _ (.there _ (.there _ (.there _ (.here _)))))) | exact .there _ (.there _ (.there _ (.there _ (.there _ (.there _ (.there _ (.here _))))))) | exact .there _ (.there _ (.there _ (.there _ (.there _ (.there _ (.there _ (.there _ (.here _)))))))) | exact .there _ (.there _ (.there _ (.there _ (.there _ (.there _ (.there _ (.there _ (.there _ (.here _))))))))) | exact .there _ (.there _ (.there _ (.there _ (.there _ (.there _ (.there _ (.there _ (.there _ (.there _ (.here _)))))))))) | exact .there _ (.there _ (.there _ (.there _ (.there _ (.there _ (.there _ (.there _ (.there _ (.there _ (.there _ (.here _))))))))))))
    refine s_r hf (x_loadBlk hs ag40 (hf.eval rfl) rfl (.here _)) ?_; clear hf a; intro a hf
    refine s_do hf rfl (y_call (hf.eval rfl) (hf.evals rfl) Try.call34 ((choice_spec _ csz ac cc secs rest (hs.old hrc) hlc).mono ?_))
    rintro e w1 ⟨e8, fe8, rfl, hj⟩
    replace hs := hs.join hj
    simp only [List.cons_append, List.nil_append] at hs
    refine ⟨_, rfl, ?_⟩; clear hf a; intro a hf
    replace hs := hs.take (A := sl 3 1 (.slice e8 secs.length fe8) secs.length (secs.flatMap iF)) (by first | exact .here _ | exact .there _ (.here _) | exact .there _ (.there _ (.here _)) | exact .there _ (.there _ (.there _ (.here _))) | exact .there _ (.there _ (.there _ (.there _ (.here _)))) | exact .there _ (.there _ (.there _ (.there _ (.there _ (.here _))))) | exact .there _ (.there _ (.there _ (.there _ (.there _ (.there _ (.here _)))))) | exact .there _ (.there _ (.there _ (.there _ (.there _ (.there _ (.there _ (.here _))))))) | exact .there _ (.there _ (.there _ (.there _ (.there _ (.there _ (.there _ (.there _ (.here _)))))))) | exact .there _ (.there _ (.there _ (.there _ (.there _ (.there _ (.there _ (.there _ (.there _ (.here _))))))))) | exact .there _ (.there _ (.there _ (.there _ (.there _ (.there _ (.there _ (.there _ (.there _ (.there _ (.here _)))))))))) | exact .there _ (.there _ (.there _ (.there _ (.there _ (.there _ (.there _ (.there _ (.there _ (.there _ (.there _ (.here _))))))))))))
    replace hs := hs.take (A := diskA 78 83 5 3 p2 (newS (outS s (csz, secs, rest)) s.room)) (by first | exact .here _ | exact .there _ (.here _) | exact .there _ (.there _ (.here _)) | exact .there _ (.there _ (.there _ (.here _))) | exact .there _ (.there _ (.there _ (.there _ (.here _)))) | exact .there _ (.there _ (.there _ (.there _ (.there _ (.here _))))) | exact .there _ (.there _ (.there _ (.there _ (.there _ (.there _ (.here _)))))) | exact .there _ (.there _ (.there _ (.there _ (.there _ (.there _ (.there _ (.here _))))))) | exact .there _ (.there _ (.there _ (.there _ (.there _ (.there _ (.there _ (.there _ (.here _)))))))) | exact .there _ (.there _ (.there _ (.there _ (.there _ (.there _ (.there _ (.there _ (.there _ (.here _))))))))) | exact .there _ (.there _ (.there _ (.there _ (.there _ (.there _ (.there _ (.there _ (.there _ (.there _ (.here _)))))))))) | exact .there _ (.there _ (.there _ (.there _ (.there _ (.there _ (.there _ (.there _ (.there _ (.there _ (.there _ (.here _))))))))))))
    refine s_do hf rfl (y_call (hf.eval rfl) (hf.evals rfl) Try.call33 ((dCrash_spec _ _ _ p2 (newS (outS s (csz, secs, rest)) s.room) hs csz e8 fe8 secs rest (outS_ok ho (csz, secs, rest)) (RdyS.own (.here _)) (by simp [newS]) (by simp [newS])).mono ?_))
    rintro e w1 ⟨p3, rfl, hs⟩
    rw [out_sync (s := (newS (outS s (csz, secs, rest)) s.room)) rfl rfl] at hs
    refine ⟨_, rfl, ?_⟩; clear hf a; intro a hf
    refine s_m hf rfl ?_; clear hf a; intro a hf
    refine s_v hf (x_extract (hf.eval rfl) rfl) ?_; clear hf a; intro a hf
    refine s_v hf (x_extract (hf.eval rfl) rfl) ?_; clear hf a; intro a hf
    refine s_a hf rfl ?_; clear hf a; intro a hf
    refine s_a hf rfl ?_; clear hf a; intro a hf
    refine s_nil ?_
    refine then_n ?_
    refine wp_seq ?_
    refine wp_seq ?_
    refine wp_region_lit ?_
    refine s_m hf rfl ?_; clear hf a; intro a hf
    refine s_v hf (x_bin (hf.eval rfl) (hf.eval rfl) (r_ne _ _ _ _)) ?_; clear hf a; intro a hf
    refine s_m hf rfl ?_; clear hf a; intro a hf
    replace hf := hf.now (k := 123) (v' := .bool false) rfl (congrArg Value.bool (by first | rfl | simp))
    refine s_do hf (wanted_of hf rfl rfl rfl) (.value (x_move (hf.eval rfl) _) ?_); clear hf a; intro a hf
    refine s_do hf (wanted_of hf rfl rfl rfl) (.value (x_eqNil Try.underlying23 (hf.eval rfl) (hf.eval rfl) _) ?_); clear hf a; intro a hf
    refine s_v hf (x_pick_f (hf.eval rfl) (hf.eval rfl)) ?_; clear hf a; intro a hf
    refine s_nil ?_
    refine then_n ?_
    refine c_cond_f hf rfl (by first | rfl | simp) ?_
    refine wp_skip ?_
    refine then_n ?_
    refine wp_seq ?_
    refine wp_region_lit ?_
    refine s_m hf rfl ?_; clear hf a; intro a hf
    replace hs := hs.take (A := diskA 78 83 5 3 p3 (newS (newS (outS s (csz, secs, rest)) s.room).dur (newS (outS s (csz, secs, rest)) s.room).room)) (by first | exact .here _ | exact .there _ (.here _) | exact .there _ (.there _ (.here _)) | exact .there _ (.there _ (.there _ (.here _))) | exact .there _ (.there _ (.there _ (.there _ (.here _)))) | exact .there _ (.there _ (.there _ (.there _ (.there _ (.here _))))) | exact .there _ (.there _ (.there _ (.there _ (.there _ (.there _ (.here _)))))) | exact .there _ (.there _ (.there _ (.there _ (.there _ (.there _ (.there _ (.here _))))))) | exact .there _ (.there _ (.there _ (.there _ (.there _ (.there _ (.there _ (.there _ (.here _)))))))) | exact .there _ (.there _ (.there _ (.there _ (.there _ (.there _ (.there _ (.there _ (.there _ (.here _))))))))) | exact .there _ (.there _ (.there _ (.there _ (.there _ (.there _ (.there _ (.there _ (.there _ (.there _ (.here _)))))))))) | exact .there _ (.there _ (.there _ (.there _ (.there _ (.there _ (.there _ (.there _ (.there _ (.there _ (.there _ (.here _))))))))))))
    refine s_do hf rfl (y_call (hf.eval rfl) (hf.evals rfl) Try.call19 ((dImage_spec _ _ _ p3 _ hs (by show (outS s (csz, secs, rest)).length ≤ _; omega)).mono ?_))
    rintro e w1 ⟨e9, fe9, rfl, hs⟩
    replace hs : St _ _ (slB 5 (.slice e9 (outS s (csz, secs, rest)).length fe9) (outS s (csz, secs, rest)) :: _) := hs
    refine ⟨_, rfl, ?_⟩; clear hf a; intro a hf
    refine s_m hf rfl ?_; clear hf a; intro a hf
    replace hs := hs.take (A := slB 5 (.slice e5 (outS s (csz, secs, rest)).length fe5) (outS s (csz, secs, rest))) (by first | exact .here _ | exact .there _ (.here _) | exact .there _ (.there _ (.here _)) | exact .there _ (.there _ (.there _ (.here _))) | exact .there _ (.there _ (.there _ (.there _ (.here _)))) | exact .there _ (.there _ (.there _ (.there _ (.there _ (.here _))))) | exact .there _ (.there _ (.there _ (.there _ (.there _ (.there _ (.here _)))))) | exact .there _ (.there _ (.there _ (.there _ (.there _ (.there _ (.there _ (.here _))))))) | exact .there _ (.there _ (.there _ (.there _ (.there _ (.there _ (.there _ (.there _ (.here _)))))))) | exact .there _ (.there _ (.there _ (.there _ (.there _ (.there _ (.there _ (.there _ (.there _ (.here _))))))))) | exact .there _ (.there _ (.there _ (.there _ (.there _ (.there _ (.there _ (.there _ (.there _ (.there _ (.here _)))))))))) | exact .there _ (.there _ (.there _ (.there _ (.there _ (.there _ (.there _ (.there _ (.there _ (.there _ (.there _ (.here _))))))))))))
    replace hs := hs.take (A := slB 5 (.slice e9 (outS s (csz, secs, rest)).length fe9) (outS s (csz, secs, rest))) (by first | exact .here _ | exact .there _ (.here _) | exact .there _ (.there _ (.here _)) | exact .there _ (.there _ (.there _ (.here _))) | exact .there _ (.there _ (.there _ (.there _ (.here _)))) | exact .there _ (.there _ (.there _ (.there _ (.there _ (.here _))))) | exact .there _ (.there _ (.there _ (.there _ (.there _ (.there _ (.here _)))))) | exact .there _ (.there _ (.there _ (.there _ (.there _ (.there _ (.there _ (.here _))))))) | exact .there _ (.there _ (.there _ (.there _ (.there _ (.there _ (.there _ (.there _ (.here _)))))))) | exact .there _ (.there _ (.there _ (.there _ (.there _ (.there _ (.there _ (.there _ (.there _ (.here _))))))))) | exact .there _ (.there _ (.there _ (.there _ (.there _ (.there _ (.there _ (.there _ (.there _ (.there _ (.here _)))))))))) | exact .there _ (.there _ (.there _ (.there _ (.there _ (.there _ (.there _ (.there _ (.there _ (.there _ (.there _ (.here _))))))))))))
    refine s_do hf rfl (y_call (hf.eval rfl) (hf.evals rfl) Try.call24 ((same_spec _ _ _ (outS s (csz, secs, rest)) (hs.rdB (.here _) fun h => slB_rd) _ _ (outS s (csz, secs, rest)) (hs.rdB (.there _ (.here _)) fun h => slB_rd) (by omega)).mono ?_))
    rintro e w1 ⟨rfl, hk⟩
    replace hs := hs.ext hk
    refine ⟨_, rfl, ?_⟩; clear hf a; intro a hf
    refine s_a hf rfl ?_; clear hf a; intro a hf
    refine s_nil ?_
    refine then_n ?_
    refine wp_ret ?_
    refine r_1 hf Try.results15 rfl ?_
    exact ⟨by simp, hs.kept⟩

theorem diskCrashes_spec (w0 : World) (a1 : Option Addr) (c1 : Nat) (image : List UInt8) (hr1 : RdB (hp w0) (.slice a1 image.length c1) image) (hl1 : image.length ≤ 140737488351232) (cap : Int) (asc : Option Addr) (csc : Nat) (ops : List DOp) (hrosc : RdS opF 7 (hp w0) (.slice asc ops.length csc) ops) (hogsc : ∀ o ∈ ops, DOpG (hp w0) o) (hlosc : ops.length ≤ 1048576) (csz : Int) (ac : Option Addr) (cc : Nat) (secs : List Int) (rest : Int) (hrc : RdS iF 1 (hp w0) (.slice ac secs.length cc) secs) (hlc : secs.length ≤ 1048576) : Calls Try.prog 15 #[.slice a1 image.length c1, .int .i64 cap, .slice asc ops.length csc, .agg #[.int .i64 csz, .slice ac secs.length cc, .int .i64 rest]] w0 fun e w' => e = .returned (.bool true) ∧ Kept w0 w' None_ := by
  by_cases h1 : cap < 0 ∨ 16777216 < cap
  · exact diskCrashes_b1 w0 a1 c1 image hr1 hl1 cap h1 asc csc ops hrosc hogsc hlosc csz ac cc secs rest hrc hlc
  · by_cases h2 : cap < image.length
    · exact diskCrashes_b2 w0 a1 c1 image hr1 hl1 cap (by omega) (by omega) h2 asc csc ops hrosc hogsc hlosc csz ac cc secs rest hrc hlc
    · exact diskCrashes_ok w0 a1 c1 image hr1 hl1 cap (by omega) (by omega) (by omega) asc csc ops hrosc hogsc hlosc csz ac cc secs rest hrc hlc

theorem diskPlays_b1 (w0 : World) (a1 : Option Addr) (c1 : Nat) (image : List UInt8) (hr1 : RdB (hp w0) (.slice a1 image.length c1) image) (hl1 : image.length ≤ 140737488351232) (cap : Int) (hc : cap < 0 ∨ 16777216 < cap) (asc : Option Addr) (csc : Nat) (ops : List DOp) (hrosc : RdS opF 7 (hp w0) (.slice asc ops.length csc) ops) (hogsc : ∀ o ∈ ops, DOpG (hp w0) o) (hlosc : ops.length ≤ 1048576) : Calls Try.prog 16 #[.slice a1 image.length c1, .int .i64 cap, .slice asc ops.length csc] w0 fun e w' => e = .returned (.bool true) ∧ Kept w0 w' None_ := by
  have hs := St.start w0 None_
  refine c_enter (N := 94) Try.func16 rfl Try.ntmps16 (by simp) ?_
  intro a hf
  refine wp_seq ?_
  refine wp_region_lit ?_
  refine s_a hf rfl ?_; clear hf a; intro a hf
  refine s_nil ?_
  refine then_n ?_
  refine wp_seq ?_
  refine wp_region_lit ?_
  refine s_m hf rfl ?_; clear hf a; intro a hf
  refine s_m hf rfl ?_; clear hf a; intro a hf
  refine s_do hf rfl (y_call (hf.eval rfl) (hf.evals rfl) Try.call18 ((made_b1 _ a1 c1 image (hs.oldB hr1) hl1 cap hc).mono ?_))
  rintro e w1 ⟨rfl, hk⟩
  replace hs := hs.ext hk
  refine ⟨_, rfl, ?_⟩; clear hf a; intro a hf
  refine s_m hf rfl ?_; clear hf a; intro a hf
  refine s_v hf (x_extract (hf.eval rfl) rfl) ?_; clear hf a; intro a hf
  refine s_v hf (x_extract (hf.eval rfl) rfl) ?_; clear hf a; intro a hf
  refine s_v hf (x_extract (hf.eval rfl) rfl) ?_; clear hf a; intro a hf
  refine s_a hf rfl ?_; clear hf a; intro a hf
  refine s_a hf rfl ?_; clear hf a; intro a hf
  refine s_a hf rfl ?_; clear hf a; intro a hf
  refine s_nil ?_
  refine then_n ?_
  refine wp_seq ?_
  refine wp_seq ?_
  refine wp_region_lit ?_
  refine s_m hf rfl ?_; clear hf a; intro a hf
  refine s_v hf (x_not (hf.eval rfl)) ?_; clear hf a; intro a hf
  refine s_nil ?_
  refine then_n ?_
  refine c_cond_f hf rfl rfl ?_
  refine wp_skip ?_
  refine then_n ?_
  refine wp_seq ?_
  refine wp_seq ?_
  refine wp_region_lit ?_
  refine s_a hf rfl ?_; clear hf a; intro a hf
  refine s_nil ?_
  refine then_n ?_
  refine wp_block ?_
  refine c_loop (L0 := [(2, _)]) (fun M w m => M = [(7, .pointer none), (8, .pointer none), (10, .int .i64 0)] ∧ 0 = m ∧ St ⟨w0, None_⟩ w []) (M0 := _) (⟨rfl, rfl, hs⟩) (hf.sub ⟨rfl, rfl, rfl, rfl, trivial⟩) ?_
  clear hf hs a
  rintro M m a w ⟨rfl, rfl, hs⟩ hf
  refine wp_seq ?_
  refine wp_seq ?_
  refine wp_region_lit ?_
  refine s_m hf rfl ?_; clear hf a; intro a hf
  refine s_m hf rfl ?_; clear hf a; intro a hf
  refine s_v hf (x_len Try.underlying58 (hf.eval rfl)) ?_; clear hf a; intro a hf
  refine s_v hf (x_bin (hf.eval rfl) (hf.eval rfl) (r_lt _ _ _ _)) ?_; clear hf a; intro a hf
  refine s_m hf rfl ?_; clear hf a; intro a hf
  refine s_bool hf (k := 32) rfl (fun hg5_4 hf' => ?_) (fun hg5_4 hf' => ?_)
  · clear hf
    have hf := hf'
    clear hf'
    simp only [decide_eq_true_eq, decide_eq_false_iff_not] at hg5_4
    refine s_do hf (wanted_of hf rfl rfl rfl) (.value (x_move (hf.eval rfl) _) ?_); clear hf a; intro a hf
    refine s_do hf (wanted_of hf rfl rfl rfl) (.value (x_neNil Try.underlying24 (hf.eval rfl) (hf.eval rfl) _) ?_); clear hf a; intro a hf
    refine s_v hf (x_pick_t (hf.eval rfl) (hf.eval rfl)) ?_; clear hf a; intro a hf
    refine s_nil ?_
    refine then_n ?_
    refine c_cond_f hf rfl (by first | rfl | simp) ?_
    refine wp_exit ?_
    refine then_x ?_
    refine then_x ?_
    refine blk_x ?_
    refine then_n ?_
    refine wp_seq ?_
    refine wp_region_lit ?_
    refine s_a hf rfl ?_; clear hf a; intro a hf
    refine s_nil ?_
    refine then_n ?_
    refine wp_ret ?_
    refine r_1 hf Try.results16 rfl ?_
    exact ⟨rfl, hs.kept⟩
  · clear hf
    have hf := hf'
    clear hf'
    simp only [decide_eq_true_eq, decide_eq_false_iff_not] at hg5_4
    refine s_pass hf rfl rfl ?_; clear hf a; intro a hf
    refine s_pass hf rfl rfl ?_; clear hf a; intro a hf
    refine s_v hf (x_pick_f (hf.eval rfl) (hf.eval rfl)) ?_; clear hf a; intro a hf
    refine s_nil ?_
    refine then_n ?_
    refine c_cond_f hf rfl (by first | rfl | simp) ?_
    refine wp_exit ?_
    refine then_x ?_
    refine then_x ?_
    refine blk_x ?_
    refine then_n ?_
    refine wp_seq ?_
    refine wp_region_lit ?_
    refine s_a hf rfl ?_; clear hf a; intro a hf
    refine s_nil ?_
    refine then_n ?_
    refine wp_ret ?_
    refine r_1 hf Try.results16 rfl ?_
    exact ⟨rfl, hs.kept⟩

theorem diskPlays_b2 (w0 : World) (a1 : Option Addr) (c1 : Nat) (image : List UInt8) (hr1 : RdB (hp w0) (.slice a1 image.length c1) image) (hl1 : image.length ≤ 140737488351232) (cap : Int) (hc1 : 0 ≤ cap) (hc2 : cap ≤ 16777216) (hc3 : cap < image.length) (asc : Option Addr) (csc : Nat) (ops : List DOp) (hrosc : RdS opF 7 (hp w0) (.slice asc ops.length csc) ops) (hogsc : ∀ o ∈ ops, DOpG (hp w0) o) (hlosc : ops.length ≤ 1048576) : Calls Try.prog 16 #[.slice a1 image.length c1, .int .i64 cap, .slice asc ops.length csc] w0 fun e w' => e = .returned (.bool true) ∧ Kept w0 w' None_ := by
  have hs := St.start w0 None_
  refine c_enter (N := 94) Try.func16 rfl Try.ntmps16 (by simp) ?_
  intro a hf
  refine wp_seq ?_
  refine wp_region_lit ?_
  refine s_a hf rfl ?_; clear hf a; intro a hf
  refine s_nil ?_
  refine then_n ?_
  refine wp_seq ?_
  refine wp_region_lit ?_
  refine s_m hf rfl ?_; clear hf a; intro a hf
  refine s_m hf rfl ?_; clear hf a; intro a hf
  refine s_do hf rfl (y_call (hf.eval rfl) (hf.evals rfl) Try.call18 ((made_b2 _ a1 c1 image (hs.oldB hr1) hl1 cap hc1 hc2 hc3).mono ?_))
  rintro e w1 ⟨rfl, hk⟩
  replace hs := hs.ext hk
  refine ⟨_, rfl, ?_⟩; clear hf a; intro a hf
  refine s_m hf rfl ?_; clear hf a; intro a hf
  refine s_v hf (x_extract (hf.eval rfl) rfl) ?_; clear hf a; intro a hf
  refine s_v hf (x_extract (hf.eval rfl) rfl) ?_; clear hf a; intro a hf
  refine s_v hf (x_extract (hf.eval rfl) rfl) ?_; clear hf a; intro a hf
  refine s_a hf rfl ?_; clear hf a; intro a hf
  refine s_a hf rfl ?_; clear hf a; intro a hf
  refine s_a hf rfl ?_; clear hf a; intro a hf
  refine s_nil ?_
  refine then_n ?_
  refine wp_seq ?_
  refine wp_seq ?_
  refine wp_region_lit ?_
  refine s_m hf rfl ?_; clear hf a; intro a hf
  refine s_v hf (x_not (hf.eval rfl)) ?_; clear hf a; intro a hf
  refine s_nil ?_
  refine then_n ?_
  refine c_cond_f hf rfl rfl ?_
  refine wp_skip ?_
  refine then_n ?_
  refine wp_seq ?_
  refine wp_seq ?_
  refine wp_region_lit ?_
  refine s_a hf rfl ?_; clear hf a; intro a hf
  refine s_nil ?_
  refine then_n ?_
  refine wp_block ?_
  refine c_loop (L0 := [(2, _)]) (fun M w m => M = [(7, .pointer none), (8, .pointer none), (10, .int .i64 0)] ∧ 0 = m ∧ St ⟨w0, None_⟩ w []) (M0 := _) (⟨rfl, rfl, hs⟩) (hf.sub ⟨rfl, rfl, rfl, rfl, trivial⟩) ?_
  clear hf hs a
  rintro M m a w ⟨rfl, rfl, hs⟩ hf
  refine wp_seq ?_
  refine wp_seq ?_
  refine wp_region_lit ?_
  refine s_m hf rfl ?_; clear hf a; intro a hf
  refine s_m hf rfl ?_; clear hf a; intro a hf
  refine s_v hf (x_len Try.underlying58 (hf.eval rfl)) ?_; clear hf a; intro a hf
  refine s_v hf (x_bin (hf.eval rfl) (hf.eval rfl) (r_lt _ _ _ _)) ?_; clear hf a; intro a hf
  refine s_m hf rfl ?_; clear hf a; intro a hf
  refine s_bool hf (k := 32) rfl (fun hg5_4 hf' => ?_) (fun hg5_4 hf' => ?_)
  · clear hf
    have hf := hf'
    clear hf'
    simp only [decide_eq_true_eq, decide_eq_false_iff_not] at hg5_4
    refine s_do hf (wanted_of hf rfl rfl rfl) (.value (x_move (hf.eval rfl) _) ?_); clear hf a; intro a hf
    refine s_do hf (wanted_of hf rfl rfl rfl) (.value (x_neNil Try.underlying24 (hf.eval rfl) (hf.eval rfl) _) ?_); clear hf a; intro a hf
    refine s_v hf (x_pick_t (hf.eval rfl) (hf.eval rfl)) ?_; clear hf a; intro a hf
    refine s_nil ?_
    refine then_n ?_
    refine c_cond_f hf rfl (by first | rfl | simp) ?_
    refine wp_exit ?_
    refine then_x ?_
    refine then_x ?_
    refine blk_x ?_
    refine then_n ?_
    refine wp_seq ?_
    refine wp_region_lit ?_
    refine s_a hf rfl ?_; clear hf a; intro a hf
    refine s_nil ?_
    refine then_n ?_
    refine wp_ret ?_
    refine r_1 hf Try.results16 rfl ?_
    exact ⟨rfl, hs.kept⟩
  · clear hf
    have hf := hf'
    clear hf'
    simp only [decide_eq_true_eq, decide_eq_false_iff_not] at hg5_4
    refine s_pass hf rfl rfl ?_; clear hf a; intro a hf
    refine s_pass hf rfl rfl ?_; clear hf a; intro a hf
    refine s_v hf (x_pick_f (hf.eval rfl) (hf.eval rfl)) ?_; clear hf a; intro a hf
    refine s_nil ?_
    refine then_n ?_
    refine c_cond_f hf rfl (by first | rfl | simp) ?_
    refine wp_exit ?_
    refine then_x ?_
    refine then_x ?_
    refine blk_x ?_
    refine then_n ?_
    refine wp_seq ?_
    refine wp_region_lit ?_
    refine s_a hf rfl ?_; clear hf a; intro a hf
    refine s_nil ?_
    refine then_n ?_
    refine wp_ret ?_
    refine r_1 hf Try.results16 rfl ?_
    exact ⟨rfl, hs.kept⟩

theorem diskPlays_ok (w0 : World) (a1 : Option Addr) (c1 : Nat) (image : List UInt8) (hr1 : RdB (hp w0) (.slice a1 image.length c1) image) (hl1 : image.length ≤ 140737488351232) (cap : Int) (hc1 : 0 ≤ cap) (hc2 : cap ≤ 16777216) (hc3 : image.length ≤ cap) (asc : Option Addr) (csc : Nat) (ops : List DOp) (hrosc : RdS opF 7 (hp w0) (.slice asc ops.length csc) ops) (hogsc : ∀ o ∈ ops, DOpG (hp w0) o) (hlosc : ops.length ≤ 1048576) : Calls Try.prog 16 #[.slice a1 image.length c1, .int .i64 cap, .slice asc ops.length csc] w0 fun e w' => e = .returned (.bool true) ∧ Kept w0 w' None_ := by
  have hs := St.start w0 None_
  refine c_enter (N := 94) Try.func16 rfl Try.ntmps16 (by simp) ?_
  intro a hf
  refine wp_seq ?_
  refine wp_region_lit ?_
  refine s_a hf rfl ?_; clear hf a; intro a hf
  refine s_nil ?_
  refine then_n ?_
  refine wp_seq ?_
  refine wp_region_lit ?_
  refine s_m hf rfl ?_; clear hf a; intro a hf
  refine s_m hf rfl ?_; clear hf a; intro a hf
  refine s_do hf rfl (y_call (hf.eval rfl) (hf.evals rfl) Try.call18 ((made_in _ a1 c1 image (hs.oldB hr1) hl1 cap hc1 hc2 hc3).mono ?_))
  rintro e w1 ⟨p, q, rfl, hj⟩
  replace hs := hs.join hj
  simp only [List.cons_append, List.nil_append] at hs
  refine ⟨_, rfl, ?_⟩; clear hf a; intro a hf
  refine s_m hf rfl ?_; clear hf a; intro a hf
  refine s_v hf (x_extract (hf.eval rfl) rfl) ?_; clear hf a; intro a hf
  refine s_v hf (x_extract (hf.eval rfl) rfl) ?_; clear hf a; intro a hf
  refine s_v hf (x_extract (hf.eval rfl) rfl) ?_; clear hf a; intro a hf
  refine s_a hf rfl ?_; clear hf a; intro a hf
  refine s_a hf rfl ?_; clear hf a; intro a hf
  refine s_a hf rfl ?_; clear hf a; intro a hf
  refine s_nil ?_
  refine then_n ?_
  refine wp_seq ?_
  refine wp_seq ?_
  refine wp_region_lit ?_
  refine s_m hf rfl ?_; clear hf a; intro a hf
  refine s_v hf (x_not (hf.eval rfl)) ?_; clear hf a; intro a hf
  refine s_nil ?_
  refine then_n ?_
  refine c_cond_f hf rfl rfl ?_
  refine wp_skip ?_
  refine then_n ?_
  refine wp_seq ?_
  refine wp_seq ?_
  refine wp_region_lit ?_
  refine s_a hf rfl ?_; clear hf a; intro a hf
  refine s_nil ?_
  refine then_n ?_
  refine wp_block ?_
  refine c_loop (L0 := [(2, _)]) (fun M w m => ∃ (i p q : Nat) (s : DS), M = [(7, .pointer (some ⟨p, 0, none⟩)), (8, .pointer (some ⟨q, 0, none⟩)), (10, .int .i64 (i : Int))] ∧ ops.length - i = m ∧ i ≤ ops.length ∧ DOk s ∧ DB s i ∧ St ⟨w0, None_⟩ w [diskA 78 83 5 3 p s, refA 90 94 5 3 q s]) (M0 := _) (⟨0, p, q, newS image cap, rfl, rfl, Nat.zero_le _, newS_ok hc1 hc2 hc3, newS_b _ _ _, hs⟩) (hf.sub ⟨rfl, rfl, rfl, rfl, trivial⟩) ?_
  clear hf hs a
  rintro M m a w ⟨i, p, q, s, rfl, rfl, hi, ho, hb, hs⟩ hf
  refine wp_seq ?_
  refine wp_seq ?_
  refine wp_region_lit ?_
  refine s_m hf rfl ?_; clear hf a; intro a hf
  refine s_m hf rfl ?_; clear hf a; intro a hf
  refine s_v hf (x_len Try.underlying58 (hf.eval rfl)) ?_; clear hf a; intro a hf
  refine s_v hf (x_bin (hf.eval rfl) (hf.eval rfl) (r_lt _ _ _ _)) ?_; clear hf a; intro a hf
  refine s_m hf rfl ?_; clear hf a; intro a hf
  refine s_bool hf (k := 32) rfl (fun hg5_4 hf' => ?_) (fun hg5_4 hf' => ?_)
  · clear hf
    have hf := hf'
    clear hf'
    simp only [decide_eq_true_eq, decide_eq_false_iff_not] at hg5_4
    have hlt : i < ops.length := by omega
    obtain ⟨asc, rfl⟩ := hrosc.some (by omega)
    have hg := hogsc _ (List.getElem_mem hlt)
    refine s_do hf (wanted_of hf rfl rfl rfl) (.value (x_move (hf.eval rfl) _) ?_); clear hf a; intro a hf
    refine s_do hf (wanted_of hf rfl rfl rfl) (.value (x_neNil Try.underlying24 (hf.eval rfl) (hf.eval rfl) _) ?_); clear hf a; intro a hf
    replace hf := hf.now (k := 34) (v' := .bool true) rfl rfl
    refine s_v hf (x_pick_t (hf.eval rfl) (hf.eval rfl)) ?_; clear hf a; intro a hf
    refine s_nil ?_
    refine then_n ?_
    refine c_cond_t hf rfl rfl ?_
    refine wp_skip ?_
    refine then_n ?_
    refine wp_seq ?_
    refine wp_block ?_
    refine wp_seq ?_
    refine wp_region_lit ?_
    refine s_m hf rfl ?_; clear hf a; intro a hf
    refine s_m hf rfl ?_; clear hf a; intro a hf
    refine s_v hf (x_indexAddr sl58 (hf.eval rfl) (hf.eval rfl) (by omega) (by omega)) ?_; clear hf a; intro a hf
    refine s_r hf (x_loadS (f := opF) ag42 (fun _ => rfl) (hs.old hrosc) (hf.eval rfl) (by simpa using hlt)) ?_; clear hf a; intro a hf
    refine s_do hf rfl (y_alloc hs Try.zeroValue42 ?_); clear hf hs a; intro b7 w hs a hf
    change St _ _ (cb b7 42 [.int .i64 0, .int .i64 0, .int .i64 0, .slice none 0 0, .int .i64 0, .slice none 0 0, .int .i64 0] :: _) at hs
    refine s_do0 hf rfl (y_storeAgg (cs := opF ops[i]) hs (n := 7) (by kernel_rfl) (hf.eval rfl) (hf.eval rfl) (by simp [Value.oneCell', opF]) rfl rfl (.here _) ?_); clear hf hs a; intro w hs a hf
    refine s_nil ?_
    refine then_n ?_
    refine wp_seq ?_
    refine wp_seq ?_
    refine wp_region_lit ?_
    refine s_v hf (x_fieldAddr fo42_0 (hf.eval rfl)) ?_; clear hf a; intro a hf
    refine s_r hf (x_load sc3 (hf.eval rfl) (by first | exact hs.cell (.here _) rfl | exact hs.cell (.there _ (.here _)) rfl | exact hs.cell (.there _ (.there _ (.here _))) rfl | exact hs.cell (.there _ (.there _ (.there _ (.here _)))) rfl | exact hs.cell (.there _ (.there _ (.there _ (.there _ (.here _))))) rfl | exact hs.cell (.there _ (.there _ (.there _ (.there _ (.there _ (.here _)))))) rfl)) ?_; clear hf a; intro a hf
    refine s_v hf (x_bin (hf.eval rfl) (hf.eval rfl) (r_eq _ _ _ _)) ?_; clear hf a; intro a hf
    refine s_nil ?_
    refine then_n ?_
    refine c_cond hf rfl (fun hi2 => ?_) (fun hi2 => ?_)
    · simp only [decide_eq_true_eq, decide_eq_false_iff_not] at hi2
      refine wp_seq ?_
      refine wp_region_lit ?_
      refine s_v hf (x_fieldAddr fo42_4 (hf.eval rfl)) ?_; clear hf a; intro a hf
      refine s_r hf (x_loadSub (xs := [.int .i64 ops[i].2.2.2.2.1, opW ops[i], .int .i64 ops[i].2.2.2.2.2.2]) hs ag40 (hf.eval rfl) rfl rfl (.here _)) ?_; clear hf a; intro a hf
      refine s_do hf rfl (y_call (hf.eval rfl) (hf.evals rfl) Try.call34 ((choice_spec _ ops[i].2.2.2.2.1 _ _ (opS ops[i]) ops[i].2.2.2.2.2.2 (hs.old hg.secs) hg.slen).mono ?_))
      rintro e w1 ⟨e3, fe3, rfl, hj⟩
      replace hs := hs.join hj
      simp only [List.cons_append, List.nil_append] at hs
      refine ⟨_, rfl, ?_⟩; clear hf a; intro a hf
      refine s_do hf rfl (y_alloc hs Try.zeroValue40 ?_); clear hf hs a; intro b8 w hs a hf
      change St _ _ (cb b8 40 [.int .i64 0, .slice none 0 0, .int .i64 0] :: _) at hs
      refine s_do0 hf rfl (y_storeAgg (cs := [.int .i64 ops[i].2.2.2.2.1, .slice e3 (opS ops[i]).length fe3, .int .i64 ops[i].2.2.2.2.2.2]) hs (n := 3) (by kernel_rfl) (hf.eval rfl) (hf.eval rfl) (by simp [Value.oneCell']) rfl rfl (.here _) ?_); clear hf hs a; intro w hs a hf
      refine s_nil ?_
      refine then_n ?_
      refine wp_seq ?_
      refine wp_region_lit ?_
      refine s_m hf rfl ?_; clear hf a; intro a hf
      refine s_r hf (x_loadBlk hs ag40 (hf.eval rfl) rfl (.here _)) ?_; clear hf a; intro a hf
      replace hs := hs.take (A := sl 3 1 (.slice e3 (opS ops[i]).length fe3) (opS ops[i]).length ((opS ops[i]).flatMap iF)) (by first | exact .here _ | exact .there _ (.here _) | exact .there _ (.there _ (.here _)) | exact .there _ (.there _ (.there _ (.here _))) | exact .there _ (.there _ (.there _ (.there _ (.here _)))) | exact .there _ (.there _ (.there _ (.there _ (.there _ (.here _))))) | exact .there _ (.there _ (.there _ (.there _ (.there _ (.there _ (.here _)))))) | exact .there _ (.there _ (.there _ (.there _ (.there _ (.there _ (.there _ (.here _))))))) | exact .there _ (.there _ (.there _ (.there _ (.there _ (.there _ (.there _ (.there _ (.here _)))))))) | exact .there _ (.there _ (.there _ (.there _ (.there _ (.there _ (.there _ (.there _ (.there _ (.here _))))))))) | exact .there _ (.there _ (.there _ (.there _ (.there _ (.there _ (.there _ (.there _ (.there _ (.there _ (.here _)))))))))) | exact .there _ (.there _ (.there _ (.there _ (.there _ (.there _ (.there _ (.there _ (.there _ (.there _ (.there _ (.here _))))))))))))
      replace hs := hs.take (A := diskA 78 83 5 3 p s) (by first | exact .here _ | exact .there _ (.here _) | exact .there _ (.there _ (.here _)) | exact .there _ (.there _ (.there _ (.here _))) | exact .there _ (.there _ (.there _ (.there _ (.here _)))) | exact .there _ (.there _ (.there _ (.there _ (.there _ (.here _))))) | exact .there _ (.there _ (.there _ (.there _ (.there _ (.there _ (.here _)))))) | exact .there _ (.there _ (.there _ (.there _ (.there _ (.there _ (.there _ (.here _))))))) | exact .there _ (.there _ (.there _ (.there _ (.there _ (.there _ (.there _ (.there _ (.here _)))))))) | exact .there _ (.there _ (.there _ (.there _ (.there _ (.there _ (.there _ (.there _ (.there _ (.here _))))))))) | exact .there _ (.there _ (.there _ (.there _ (.there _ (.there _ (.there _ (.there _ (.there _ (.there _ (.here _)))))))))) | exact .there _ (.there _ (.there _ (.there _ (.there _ (.there _ (.there _ (.there _ (.there _ (.there _ (.there _ (.here _))))))))))))
      refine s_do hf rfl (y_call (hf.eval rfl) (hf.evals rfl) Try.call33 ((dCrash_spec _ _ _ p s hs _ e3 fe3 (opS ops[i]) _ ho (RdyS.own (.here _)) (by have := hb.sizes; omega) (by have := hb.pcs; omega)).mono ?_))
      rintro e w1 ⟨p2, rfl, hs⟩
      refine ⟨_, rfl, ?_⟩; clear hf a; intro a hf
      refine s_m hf rfl ?_; clear hf a; intro a hf
      refine s_v hf (x_extract (hf.eval rfl) rfl) ?_; clear hf a; intro a hf
      refine s_v hf (x_extract (hf.eval rfl) rfl) ?_; clear hf a; intro a hf
      refine s_a hf rfl ?_; clear hf a; intro a hf
      refine s_a hf rfl ?_; clear hf a; intro a hf
      refine s_nil ?_
      refine then_n ?_
      refine wp_seq ?_
      refine wp_region_lit ?_
      refine s_m hf rfl ?_; clear hf a; intro a hf
      refine s_v hf (x_fieldAddr fo42_4 (hf.eval rfl)) ?_; clear hf a; intro a hf
      replace hs := hs.take (A := cb b7 42 (opF ops[i])) (by first | exact .here _ | exact .there _ (.here _) | exact .there _ (.there _ (.here _)) | exact .there _ (.there _ (.there _ (.here _))) | exact .there _ (.there _ (.there _ (.there _ (.here _)))) | exact .there _ (.there _ (.there _ (.there _ (.there _ (.here _))))) | exact .there _ (.there _ (.there _ (.there _ (.there _ (.there _ (.here _)))))) | exact .there _ (.there _ (.there _ (.there _ (.there _ (.there _ (.there _ (.here _))))))) | exact .there _ (.there _ (.there _ (.there _ (.there _ (.there _ (.there _ (.there _ (.here _)))))))) | exact .there _ (.there _ (.there _ (.there _ (.there _ (.there _ (.there _ (.there _ (.there _ (.here _))))))))) | exact .there _ (.there _ (.there _ (.there _ (.there _ (.there _ (.there _ (.there _ (.there _ (.there _ (.here _)))))))))) | exact .there _ (.there _ (.there _ (.there _ (.there _ (.there _ (.there _ (.there _ (.there _ (.there _ (.there _ (.here _))))))))))))
      refine s_r hf (x_loadSub (xs := [.int .i64 ops[i].2.2.2.2.1, opW ops[i], .int .i64 ops[i].2.2.2.2.2.2]) hs ag40 (hf.eval rfl) rfl rfl (.here _)) ?_; clear hf a; intro a hf
      replace hs := hs.take (A := refA 90 94 5 3 q s) (by first | exact .here _ | exact .there _ (.here _) | exact .there _ (.there _ (.here _)) | exact .there _ (.there _ (.there _ (.here _))) | exact .there _ (.there _ (.there _ (.there _ (.here _)))) | exact .there _ (.there _ (.there _ (.there _ (.there _ (.here _))))) | exact .there _ (.there _ (.there _ (.there _ (.there _ (.there _ (.here _)))))) | exact .there _ (.there _ (.there _ (.there _ (.there _ (.there _ (.there _ (.here _))))))) | exact .there _ (.there _ (.there _ (.there _ (.there _ (.there _ (.there _ (.there _ (.here _)))))))) | exact .there _ (.there _ (.there _ (.there _ (.there _ (.there _ (.there _ (.there _ (.there _ (.here _))))))))) | exact .there _ (.there _ (.there _ (.there _ (.there _ (.there _ (.there _ (.there _ (.there _ (.there _ (.here _)))))))))) | exact .there _ (.there _ (.there _ (.there _ (.there _ (.there _ (.there _ (.there _ (.there _ (.there _ (.there _ (.here _))))))))))))
      refine s_do hf rfl (y_call (hf.eval rfl) (hf.evals rfl) Try.call48 ((rCrash_spec _ _ _ q s hs _ _ _ (opS ops[i]) _ ho (RdyS.old hg.secs) (by have := hb.sizes; omega) (by have := hb.pcs; omega)).mono ?_))
      rintro e w1 ⟨q2, rfl, hs⟩
      refine ⟨_, rfl, ?_⟩; clear hf a; intro a hf
      refine s_m hf rfl ?_; clear hf a; intro a hf
      refine s_v hf (x_extract (hf.eval rfl) rfl) ?_; clear hf a; intro a hf
      refine s_v hf (x_extract (hf.eval rfl) rfl) ?_; clear hf a; intro a hf
      refine s_a hf rfl ?_; clear hf a; intro a hf
      refine s_a hf rfl ?_; clear hf a; intro a hf
      refine s_nil ?_
      refine then_n ?_
      refine wp_seq ?_
      refine wp_seq ?_
      refine wp_region_lit ?_
      refine s_m hf rfl ?_; clear hf a; intro a hf
      refine s_do hf rfl (y_call (hf.eval rfl) (hf.evals rfl) Try.call27 ((num_spec _ _).mono ?_))
      rintro e w1 ⟨rfl, rfl⟩
      refine ⟨_, rfl, ?_⟩; clear hf a; intro a hf
      refine s_m hf rfl ?_; clear hf a; intro a hf
      refine s_v hf (x_bin (hf.eval rfl) (hf.eval rfl) (r_ne _ _ _ _)) ?_; clear hf a; intro a hf
      refine s_m hf rfl ?_; clear hf a; intro a hf
      replace hf := hf.now (k := 65) (v' := .bool false) rfl (congrArg Value.bool (by first | rfl | simp))
      refine s_do hf (wanted_of hf rfl rfl rfl) (.value (x_move (hf.eval rfl) _) ?_); clear hf a; intro a hf
      refine s_do hf (wanted_of hf rfl rfl rfl) (.value (x_eqNil Try.underlying23 (hf.eval rfl) (hf.eval rfl) _) ?_); clear hf a; intro a hf
      refine s_v hf (x_pick_f (hf.eval rfl) (hf.eval rfl)) ?_; clear hf a; intro a hf
      refine s_m hf rfl ?_; clear hf a; intro a hf
      replace hf := hf.now (k := 69) (v' := .bool false) rfl (congrArg Value.bool (by first | rfl | simp))
      refine s_do hf (wanted_of hf rfl rfl rfl) (.value (x_fieldAddr fo40_1 (hf.eval rfl) _) ?_); clear hf a; intro a hf
      replace hs := hs.take (A := cb b8 40 [.int .i64 ops[i].2.2.2.2.1, .slice e3 (opS ops[i]).length fe3, .int .i64 ops[i].2.2.2.2.2.2]) (by first | exact .here _ | exact .there _ (.here _) | exact .there _ (.there _ (.here _)) | exact .there _ (.there _ (.there _ (.here _))) | exact .there _ (.there _ (.there _ (.there _ (.here _)))) | exact .there _ (.there _ (.there _ (.there _ (.there _ (.here _))))) | exact .there _ (.there _ (.there _ (.there _ (.there _ (.there _ (.here _)))))) | exact .there _ (.there _ (.there _ (.there _ (.there _ (.there _ (.there _ (.here _))))))) | exact .there _ (.there _ (.there _ (.there _ (.there _ (.there _ (.there _ (.there _ (.here _)))))))) | exact .there _ (.there _ (.there _ (.there _ (.there _ (.there _ (.there _ (.there _ (.there _ (.here _))))))))) | exact .there _ (.there _ (.there _ (.there _ (.there _ (.there _ (.there _ (.there _ (.there _ (.there _ (.here _)))))))))) | exact .there _ (.there _ (.there _ (.there _ (.there _ (.there _ (.there _ (.there _ (.there _ (.there _ (.there _ (.here _))))))))))))
      refine s_do hf (wanted_of hf rfl rfl rfl) (.value (x_load sc38 (hf.eval rfl) (by first | exact hs.cell (.here _) rfl | exact hs.cell (.there _ (.here _)) rfl | exact hs.cell (.there _ (.there _ (.here _))) rfl | exact hs.cell (.there _ (.there _ (.there _ (.here _)))) rfl | exact hs.cell (.there _ (.there _ (.there _ (.there _ (.here _))))) rfl | exact hs.cell (.there _ (.there _ (.there _ (.there _ (.there _ (.here _)))))) rfl)) ?_); clear hf a; intro a hf
      refine s_do hf (wanted_of hf rfl rfl rfl) (.value (x_fieldAddr fo42_4 (hf.eval rfl) _) ?_); clear hf a; intro a hf
      refine s_do hf (wanted_of hf rfl rfl rfl) (.value (x_fieldAddr fo40_1 (hf.eval rfl) _) ?_); clear hf a; intro a hf
      replace hs := hs.take (A := cb b7 42 (opF ops[i])) (by first | exact .here _ | exact .there _ (.here _) | exact .there _ (.there _ (.here _)) | exact .there _ (.there _ (.there _ (.here _))) | exact .there _ (.there _ (.there _ (.there _ (.here _)))) | exact .there _ (.there _ (.there _ (.there _ (.there _ (.here _))))) | exact .there _ (.there _ (.there _ (.there _ (.there _ (.there _ (.here _)))))) | exact .there _ (.there _ (.there _ (.there _ (.there _ (.there _ (.there _ (.here _))))))) | exact .there _ (.there _ (.there _ (.there _ (.there _ (.there _ (.there _ (.there _ (.here _)))))))) | exact .there _ (.there _ (.there _ (.there _ (.there _ (.there _ (.there _ (.there _ (.there _ (.here _))))))))) | exact .there _ (.there _ (.there _ (.there _ (.there _ (.there _ (.there _ (.there _ (.there _ (.there _ (.here _)))))))))) | exact .there _ (.there _ (.there _ (.there _ (.there _ (.there _ (.there _ (.there _ (.there _ (.there _ (.there _ (.here _))))))))))))
      refine s_do hf (wanted_of hf rfl rfl rfl) (.value (x_load sc38 (hf.eval rfl) (by first | exact hs.cell (.here _) rfl | exact hs.cell (.there _ (.here _)) rfl | exact hs.cell (.there _ (.there _ (.here _))) rfl | exact hs.cell (.there _ (.there _ (.there _ (.here _)))) rfl | exact hs.cell (.there _ (.there _ (.there _ (.there _ (.here _))))) rfl | exact hs.cell (.there _ (.there _ (.there _ (.there _ (.there _ (.here _)))))) rfl)) ?_); clear hf a; intro a hf
      replace hs := hs.take (A := sl 3 1 (.slice e3 (opS ops[i]).length fe3) (opS ops[i]).length ((opS ops[i]).flatMap iF)) (by first | exact .here _ | exact .there _ (.here _) | exact .there _ (.there _ (.here _)) | exact .there _ (.there _ (.there _ (.here _))) | exact .there _ (.there _ (.there _ (.there _ (.here _)))) | exact .there _ (.there _ (.there _ (.there _ (.there _ (.here _))))) | exact .there _ (.there _ (.there _ (.there _ (.there _ (.there _ (.here _)))))) | exact .there _ (.there _ (.there _ (.there _ (.there _ (.there _ (.there _ (.here _))))))) | exact .there _ (.there _ (.there _ (.there _ (.there _ (.there _ (.there _ (.there _ (.here _)))))))) | exact .there _ (.there _ (.there _ (.there _ (.there _ (.there _ (.there _ (.there _ (.there _ (.here _))))))))) | exact .there _ (.there _ (.there _ (.there _ (.there _ (.there _ (.there _ (.there _ (.there _ (.there _ (.here _)))))))))) | exact .there _ (.there _ (.there _ (.there _ (.there _ (.there _ (.there _ (.there _ (.there _ (.there _ (.there _ (.here _))))))))))))
      refine s_do hf (wanted_of hf rfl rfl rfl) (y_call (hf.eval rfl) (hf.evals rfl) Try.call50 ((equal_spec _ (opS ops[i]) _ _ (hs.rd (.here _) fun h hh => sl_rd hh) _ _ (hs.old hg.secs) hg.slen).mono ?_))
      rintro e w1 ⟨rfl, hk⟩
      replace hs := hs.ext hk
      refine ⟨_, rfl, ?_⟩; clear hf a; intro a hf
      refine s_do hf (wanted_of hf rfl rfl rfl) (.value (x_not (hf.eval rfl) _) ?_); clear hf a; intro a hf
      refine s_v hf (x_pick_f (hf.eval rfl) (hf.eval rfl)) ?_; clear hf a; intro a hf
      refine s_nil ?_
      refine then_n ?_
      refine c_cond_f hf rfl (by first | rfl | simp) ?_
      refine wp_skip ?_
      refine then_n ?_
      refine wp_seq ?_
      refine wp_region_lit ?_
      refine s_m hf rfl ?_; clear hf a; intro a hf
      refine s_a hf rfl ?_; clear hf a; intro a hf
      have h1 := hs.take (A := refA 90 94 5 3 q2 (newS (outS s (opC ops[i])) s.room)) (by first | exact .here _ | exact .there _ (.here _) | exact .there _ (.there _ (.here _)) | exact .there _ (.there _ (.there _ (.here _))) | exact .there _ (.there _ (.there _ (.there _ (.here _)))) | exact .there _ (.there _ (.there _ (.there _ (.there _ (.here _))))) | exact .there _ (.there _ (.there _ (.there _ (.there _ (.there _ (.here _)))))) | exact .there _ (.there _ (.there _ (.there _ (.there _ (.there _ (.there _ (.here _))))))) | exact .there _ (.there _ (.there _ (.there _ (.there _ (.there _ (.there _ (.there _ (.here _)))))))))
      have h2 := h1.take (A := diskA 78 83 5 3 p2 (newS (outS s (opC ops[i])) s.room)) (by first | exact .here _ | exact .there _ (.here _) | exact .there _ (.there _ (.here _)) | exact .there _ (.there _ (.there _ (.here _))) | exact .there _ (.there _ (.there _ (.there _ (.here _)))) | exact .there _ (.there _ (.there _ (.there _ (.there _ (.here _))))) | exact .there _ (.there _ (.there _ (.there _ (.there _ (.there _ (.here _)))))) | exact .there _ (.there _ (.there _ (.there _ (.there _ (.there _ (.there _ (.here _))))))) | exact .there _ (.there _ (.there _ (.there _ (.there _ (.there _ (.there _ (.there _ (.here _)))))))))
      have hs9 := only2 h2
      have ho9 := outS_ok ho (opC ops[i])
      have hb9 := newS_b (outS s (opC ops[i])) s.room (i + 1)
      refine s_nil ?_
      refine then_n ?_
      refine wp_seq ?_
      refine wp_region_lit ?_
      refine s_m hf rfl ?_; clear hf a; intro a hf
      refine s_a hf rfl ?_; clear hf a; intro a hf
      refine s_nil ?_
      refine then_n ?_
      refine wp_exit ?_
      refine then_x ?_
      refine blk_x ?_
      refine then_n ?_
      refine wp_region_lit ?_
      refine s_m hf rfl ?_; clear hf a; intro a hf
      refine s_v hf (x_bin (hf.eval rfl) (hf.eval rfl) (r_addi _ (by omega) (by omega))) ?_; clear hf a; intro a hf
      refine s_a hf rfl ?_; clear hf a; intro a hf
      refine s_nil ?_
      exact ⟨_, _, ⟨i + 1, _, _, _, rfl, rfl, by omega, ho9, hb9, hs9⟩, by omega, hf.sub ⟨rfl, rfl, rfl, rfl, trivial⟩⟩
    · simp only [decide_eq_true_eq, decide_eq_false_iff_not] at hi2
      refine wp_skip ?_
      refine then_n ?_
      refine wp_seq ?_
      refine wp_region_lit ?_
      refine s_m hf rfl ?_; clear hf a; intro a hf
      refine s_m hf rfl ?_; clear hf a; intro a hf
      replace hs := hs.take (A := cb b7 42 (opF ops[i])) (by first | exact .here _ | exact .there _ (.here _) | exact .there _ (.there _ (.here _)) | exact .there _ (.there _ (.there _ (.here _))) | exact .there _ (.there _ (.there _ (.there _ (.here _)))) | exact .there _ (.there _ (.there _ (.there _ (.there _ (.here _))))) | exact .there _ (.there _ (.there _ (.there _ (.there _ (.there _ (.here _)))))) | exact .there _ (.there _ (.there _ (.there _ (.there _ (.there _ (.there _ (.here _))))))) | exact .there _ (.there _ (.there _ (.there _ (.there _ (.there _ (.there _ (.there _ (.here _)))))))) | exact .there _ (.there _ (.there _ (.there _ (.there _ (.there _ (.there _ (.there _ (.there _ (.here _))))))))) | exact .there _ (.there _ (.there _ (.there _ (.there _ (.there _ (.there _ (.there _ (.there _ (.there _ (.here _)))))))))) | exact .there _ (.there _ (.there _ (.there _ (.there _ (.there _ (.there _ (.there _ (.there _ (.there _ (.there _ (.here _))))))))))))
      refine s_r hf (x_loadBlk hs ag42 (hf.eval rfl) rfl (.here _)) ?_; clear hf a; intro a hf
      replace hs := hs.take (A := refA 90 94 5 3 q s) (by first | exact .here _ | exact .there _ (.here _) | exact .there _ (.there _ (.here _)) | exact .there _ (.there _ (.there _ (.here _))) | exact .there _ (.there _ (.there _ (.there _ (.here _)))) | exact .there _ (.there _ (.there _ (.there _ (.there _ (.here _))))) | exact .there _ (.there _ (.there _ (.there _ (.there _ (.there _ (.here _)))))) | exact .there _ (.there _ (.there _ (.there _ (.there _ (.there _ (.there _ (.here _))))))) | exact .there _ (.there _ (.there _ (.there _ (.there _ (.there _ (.there _ (.there _ (.here _)))))))) | exact .there _ (.there _ (.there _ (.there _ (.there _ (.there _ (.there _ (.there _ (.there _ (.here _))))))))) | exact .there _ (.there _ (.there _ (.there _ (.there _ (.there _ (.there _ (.there _ (.there _ (.there _ (.here _)))))))))) | exact .there _ (.there _ (.there _ (.there _ (.there _ (.there _ (.there _ (.there _ (.there _ (.there _ (.there _ (.here _))))))))))))
      replace hs := hs.take (A := diskA 78 83 5 3 p s) (by first | exact .here _ | exact .there _ (.here _) | exact .there _ (.there _ (.here _)) | exact .there _ (.there _ (.there _ (.here _))) | exact .there _ (.there _ (.there _ (.there _ (.here _)))) | exact .there _ (.there _ (.there _ (.there _ (.there _ (.here _))))) | exact .there _ (.there _ (.there _ (.there _ (.there _ (.there _ (.here _)))))) | exact .there _ (.there _ (.there _ (.there _ (.there _ (.there _ (.there _ (.here _))))))) | exact .there _ (.there _ (.there _ (.there _ (.there _ (.there _ (.there _ (.there _ (.here _)))))))) | exact .there _ (.there _ (.there _ (.there _ (.there _ (.there _ (.there _ (.there _ (.there _ (.here _))))))))) | exact .there _ (.there _ (.there _ (.there _ (.there _ (.there _ (.there _ (.there _ (.there _ (.there _ (.here _)))))))))) | exact .there _ (.there _ (.there _ (.there _ (.there _ (.there _ (.there _ (.there _ (.there _ (.there _ (.there _ (.here _))))))))))))
      refine s_do hf rfl (y_call (hf.eval rfl) (hf.evals rfl) Try.call47 ((changes_spec _ _ _ p q s hs ops[i] (Rdy.old hg.data) hg.len ho (hb.up (by omega))).mono ?_))
      rintro e w1 ⟨rfl, hs⟩
      refine ⟨_, rfl, ?_⟩; clear hf a; intro a hf
      refine s_a hf rfl ?_; clear hf a; intro a hf
      refine s_nil ?_
      refine then_n ?_
      refine wp_seq ?_
      refine wp_region_lit ?_
      refine s_m hf rfl ?_; clear hf a; intro a hf
      refine s_m hf rfl ?_; clear hf a; intro a hf
      replace hs := hs.take (A := cb b7 42 (opF ops[i])) (by first | exact .here _ | exact .there _ (.here _) | exact .there _ (.there _ (.here _)) | exact .there _ (.there _ (.there _ (.here _))) | exact .there _ (.there _ (.there _ (.there _ (.here _)))) | exact .there _ (.there _ (.there _ (.there _ (.there _ (.here _))))) | exact .there _ (.there _ (.there _ (.there _ (.there _ (.there _ (.here _)))))) | exact .there _ (.there _ (.there _ (.there _ (.there _ (.there _ (.there _ (.here _))))))) | exact .there _ (.there _ (.there _ (.there _ (.there _ (.there _ (.there _ (.there _ (.here _)))))))) | exact .there _ (.there _ (.there _ (.there _ (.there _ (.there _ (.there _ (.there _ (.there _ (.here _))))))))) | exact .there _ (.there _ (.there _ (.there _ (.there _ (.there _ (.there _ (.there _ (.there _ (.there _ (.here _)))))))))) | exact .there _ (.there _ (.there _ (.there _ (.there _ (.there _ (.there _ (.there _ (.there _ (.there _ (.there _ (.here _))))))))))))
      refine s_r hf (x_loadBlk hs ag42 (hf.eval rfl) rfl (.here _)) ?_; clear hf a; intro a hf
      replace hs := hs.take (A := refA 90 94 5 3 q (csS s ops[i])) (by first | exact .here _ | exact .there _ (.here _) | exact .there _ (.there _ (.here _)) | exact .there _ (.there _ (.there _ (.here _))) | exact .there _ (.there _ (.there _ (.there _ (.here _)))) | exact .there _ (.there _ (.there _ (.there _ (.there _ (.here _))))) | exact .there _ (.there _ (.there _ (.there _ (.there _ (.there _ (.here _)))))) | exact .there _ (.there _ (.there _ (.there _ (.there _ (.there _ (.there _ (.here _))))))) | exact .there _ (.there _ (.there _ (.there _ (.there _ (.there _ (.there _ (.there _ (.here _)))))))) | exact .there _ (.there _ (.there _ (.there _ (.there _ (.there _ (.there _ (.there _ (.there _ (.here _))))))))) | exact .there _ (.there _ (.there _ (.there _ (.there _ (.there _ (.there _ (.there _ (.there _ (.there _ (.here _)))))))))) | exact .there _ (.there _ (.there _ (.there _ (.there _ (.there _ (.there _ (.there _ (.there _ (.there _ (.there _ (.here _))))))))))))
      replace hs := hs.take (A := diskA 78 83 5 3 p (csS s ops[i])) (by first | exact .here _ | exact .there _ (.here _) | exact .there _ (.there _ (.here _)) | exact .there _ (.there _ (.there _ (.here _))) | exact .there _ (.there _ (.there _ (.there _ (.here _)))) | exact .there _ (.there _ (.there _ (.there _ (.there _ (.here _))))) | exact .there _ (.there _ (.there _ (.there _ (.there _ (.there _ (.here _)))))) | exact .there _ (.there _ (.there _ (.there _ (.there _ (.there _ (.there _ (.here _))))))) | exact .there _ (.there _ (.there _ (.there _ (.there _ (.there _ (.there _ (.there _ (.here _)))))))) | exact .there _ (.there _ (.there _ (.there _ (.there _ (.there _ (.there _ (.there _ (.there _ (.here _))))))))) | exact .there _ (.there _ (.there _ (.there _ (.there _ (.there _ (.there _ (.there _ (.there _ (.there _ (.here _)))))))))) | exact .there _ (.there _ (.there _ (.there _ (.there _ (.there _ (.there _ (.there _ (.there _ (.there _ (.there _ (.here _))))))))))))
      refine s_do hf rfl (y_call (hf.eval rfl) (hf.evals rfl) Try.call51 ((asks_spec _ _ _ p q _ hs ops[i] (csS_ok ho hg.b1.2)).mono ?_))
      rintro e w1 ⟨rfl, hs⟩
      have hs9 := hs.lose (.there _ (.there _ (.here _)))
      have ho9 := csS_ok ho hg.b1.2
      have hb9 := csS_b ho hb ops[i]
      refine ⟨_, rfl, ?_⟩; clear hf a; intro a hf
      refine s_a hf rfl ?_; clear hf a; intro a hf
      refine s_nil ?_
      refine then_n ?_
      refine wp_seq ?_
      refine wp_region_lit ?_
      refine s_m hf rfl ?_; clear hf a; intro a hf
      refine s_v hf (x_not (hf.eval rfl)) ?_; clear hf a; intro a hf
      refine s_m hf rfl ?_; clear hf a; intro a hf
      replace hf := hf.now (k := 90) (v' := .bool false) rfl (congrArg Value.bool (by first | rfl | simp))
      refine s_do hf (wanted_of hf rfl rfl rfl) (.value (x_move (hf.eval rfl) _) ?_); clear hf a; intro a hf
      refine s_do hf (wanted_of hf rfl rfl rfl) (.value (x_not (hf.eval rfl) _) ?_); clear hf a; intro a hf
      refine s_v hf (x_pick_f (hf.eval rfl) (hf.eval rfl)) ?_; clear hf a; intro a hf
      refine s_nil ?_
      refine then_n ?_
      refine c_cond_f hf rfl (by first | rfl | simp) ?_
      refine wp_skip ?_
      refine blk_n ?_
      refine then_n ?_
      refine wp_region_lit ?_
      refine s_m hf rfl ?_; clear hf a; intro a hf
      refine s_v hf (x_bin (hf.eval rfl) (hf.eval rfl) (r_addi _ (by omega) (by omega))) ?_; clear hf a; intro a hf
      refine s_a hf rfl ?_; clear hf a; intro a hf
      refine s_nil ?_
      exact ⟨_, _, ⟨i + 1, _, _, _, rfl, rfl, by omega, ho9, hb9, hs9⟩, by omega, hf.sub ⟨rfl, rfl, rfl, rfl, trivial⟩⟩
  · clear hf
    have hf := hf'
    clear hf'
    simp only [decide_eq_true_eq, decide_eq_false_iff_not] at hg5_4
    refine s_pass hf rfl rfl ?_; clear hf a; intro a hf
    refine s_pass hf rfl rfl ?_; clear hf a; intro a hf
    refine s_v hf (x_pick_f (hf.eval rfl) (hf.eval rfl)) ?_; clear hf a; intro a hf
    refine s_nil ?_
    refine then_n ?_
    refine c_cond_f hf rfl rfl ?_
    refine wp_exit ?_
    refine then_x ?_
    refine then_x ?_
    refine blk_x ?_
    refine then_n ?_
    refine wp_seq ?_
    refine wp_region_lit ?_
    refine s_a hf rfl ?_; clear hf a; intro a hf
    refine s_nil ?_
    refine then_n ?_
    refine wp_ret ?_
    refine r_1 hf Try.results16 rfl ?_
    exact ⟨rfl, hs.kept⟩

theorem diskPlays_spec (w0 : World) (a1 : Option Addr) (c1 : Nat) (image : List UInt8) (hr1 : RdB (hp w0) (.slice a1 image.length c1) image) (hl1 : image.length ≤ 140737488351232) (cap : Int) (asc : Option Addr) (csc : Nat) (ops : List DOp) (hrosc : RdS opF 7 (hp w0) (.slice asc ops.length csc) ops) (hogsc : ∀ o ∈ ops, DOpG (hp w0) o) (hlosc : ops.length ≤ 1048576) : Calls Try.prog 16 #[.slice a1 image.length c1, .int .i64 cap, .slice asc ops.length csc] w0 fun e w' => e = .returned (.bool true) ∧ Kept w0 w' None_ := by
  by_cases h1 : cap < 0 ∨ 16777216 < cap
  · exact diskPlays_b1 w0 a1 c1 image hr1 hl1 cap h1 asc csc ops hrosc hogsc hlosc
  · by_cases h2 : cap < image.length
    · exact diskPlays_b2 w0 a1 c1 image hr1 hl1 cap (by omega) (by omega) h2 asc csc ops hrosc hogsc hlosc
    · exact diskPlays_ok w0 a1 c1 image hr1 hl1 cap (by omega) (by omega) (by omega) asc csc ops hrosc hogsc hlosc

theorem turned_spec (w0 w : World) (p p2 q q2 : Nat) (s t : DS) (asc : Option Addr) (csc : Nat) (ops : List DOp) (hrosc : RdS opF 7 (hp w0) (.slice asc ops.length csc) ops) (hogsc : ∀ o ∈ ops, DOpG (hp w0) o) (hlosc : ops.length ≤ 1048576) (atc : Option Addr) (ctc : Nat) (opt : List DOp) (hrotc : RdS opF 7 (hp w0) (.slice atc opt.length ctc) opt) (hogtc : ∀ o ∈ opt, DOpG (hp w0) o) (hlotc : opt.length ≤ 1048576) (hs : St ⟨w0, None_⟩ w [diskA 78 83 5 3 p s, refA 90 94 5 3 q s, diskA 78 83 5 3 p2 t, refA 90 94 5 3 q2 t]) (ho : DOk s) (hb : DB s 0) (ho2 : DOk t) (hb2 : DB t 0) : Calls Try.prog 46 #[.pointer (some ⟨p, 0, none⟩), .pointer (some ⟨p2, 0, none⟩), .pointer (some ⟨q, 0, none⟩), .pointer (some ⟨q2, 0, none⟩), .slice asc ops.length csc, .slice atc opt.length ctc] w fun e w' => e = .returned (.bool true) ∧ Kept w0 w' None_ := by
  refine c_enter (N := 90) Try.func46 rfl Try.ntmps46 (by simp) ?_
  intro a hf
  refine wp_seq ?_
  refine wp_region_lit ?_
  refine s_a hf rfl ?_; clear hf a; intro a hf
  refine s_nil ?_
  refine then_n ?_
  refine wp_seq ?_
  refine wp_seq ?_
  refine wp_region_lit ?_
  refine s_a hf rfl ?_; clear hf a; intro a hf
  refine s_nil ?_
  refine then_n ?_
  refine wp_block ?_
  refine c_loop (L0 := [(0, _), (1, _), (2, _), (3, _), (4, _), (5, _)]) (fun M w m => ∃ (i : Nat) (s t : DS), M = [(13, .int .i64 (i : Int))] ∧ (max ops.length opt.length - i = m) ∧ i ≤ 1048576 ∧ DOk s ∧ DB s i ∧ DOk t ∧ DB t i ∧ St ⟨w0, None_⟩ w [diskA 78 83 5 3 p s, refA 90 94 5 3 q s, diskA 78 83 5 3 p2 t, refA 90 94 5 3 q2 t]) (M0 := [(13, .int .i64 0)]) (⟨0, s, t, rfl, rfl, Nat.zero_le _, ho, hb, ho2, hb2, hs⟩) (hf.sub ⟨rfl, rfl, rfl, rfl, rfl, rfl, rfl, trivial⟩) ?_
  clear hf hs a
  rintro M m a w ⟨i, s, t, rfl, rfl, hi, ho, hb, ho2, hb2, hs⟩ hf
  refine wp_seq ?_
  refine wp_seq ?_
  refine wp_region_lit ?_
  refine s_m hf rfl ?_; clear hf a; intro a hf
  refine s_m hf rfl ?_; clear hf a; intro a hf
  refine s_v hf (x_len Try.underlying58 (hf.eval rfl)) ?_; clear hf a; intro a hf
  refine s_v hf (x_bin (hf.eval rfl) (hf.eval rfl) (r_lt _ _ _ _)) ?_; clear hf a; intro a hf
  refine s_m hf rfl ?_; clear hf a; intro a hf
  refine s_bool hf (k := 22) rfl (fun hg2_4 hf' => ?_) (fun hg2_4 hf' => ?_)
  · clear hf
    have hf := hf'
    clear hf'
    simp only [decide_eq_true_eq, decide_eq_false_iff_not] at hg2_4
    refine s_pass hf rfl rfl ?_; clear hf a; intro a hf
    refine s_pass hf rfl rfl ?_; clear hf a; intro a hf
    refine s_pass hf rfl rfl ?_; clear hf a; intro a hf
    refine s_pass hf rfl rfl ?_; clear hf a; intro a hf
    refine s_v hf (x_pick_t (hf.eval rfl) (hf.eval rfl)) ?_; clear hf a; intro a hf
    refine s_nil ?_
    refine then_n ?_
    refine c_cond_t hf rfl rfl ?_
    have hany : i < ops.length ∨ i < opt.length := by omega
    refine wp_skip ?_
    refine then_n ?_
    refine wp_seq ?_
    refine wp_block ?_
    refine c_join (N := 90) (L0 := [(0, _), (1, _), (2, _), (3, _), (4, _), (5, _), (13, _), (18, _), (19, _), (20, _), (21, _), (22, _), (23, _), (24, _), (25, _), (26, _), (27, _)]) (fun M w => ∃ s : DS, M = [] ∧ DOk s ∧ DB s (i + 1) ∧ St ⟨w0, None_⟩ w [diskA 78 83 5 3 p s, refA 90 94 5 3 q s, diskA 78 83 5 3 p2 t, refA 90 94 5 3 q2 t]) (hf.sub ⟨rfl, rfl, rfl, rfl, rfl, rfl, rfl, rfl, rfl, rfl, rfl, rfl, rfl, rfl, rfl, rfl, rfl, trivial⟩) ?_ ?_
    · refine wp_seq ?_
      refine wp_region_lit ?_
      refine s_m hf rfl ?_; clear hf a; intro a hf
      refine s_m hf rfl ?_; clear hf a; intro a hf
      refine s_v hf (x_len Try.underlying58 (hf.eval rfl)) ?_; clear hf a; intro a hf
      refine s_v hf (x_bin (hf.eval rfl) (hf.eval rfl) (r_lt _ _ _ _)) ?_; clear hf a; intro a hf
      refine s_nil ?_
      refine then_n ?_
      refine c_cond hf rfl (fun hi1 => ?_) (fun hi1 => ?_)
      · simp only [decide_eq_true_eq, decide_eq_false_iff_not, Bool.not_eq_true', Bool.not_eq_false', Bool.not_eq_true, Int.not_lt, Int.not_le] at hi1
        have hlt : i < ops.length := by omega
        obtain ⟨asc, rfl⟩ := hrosc.some (by omega)
        have hg := hogsc _ (List.getElem_mem hlt)
        refine wp_seq ?_
        refine wp_region_lit ?_
        refine s_m hf rfl ?_; clear hf a; intro a hf
        refine s_m hf rfl ?_; clear hf a; intro a hf
        refine s_m hf rfl ?_; clear hf a; intro a hf
        refine s_m hf rfl ?_; clear hf a; intro a hf
        refine s_v hf (x_indexAddr sl58 (hf.eval rfl) (hf.eval rfl) (by omega) (by omega)) ?_; clear hf a; intro a hf
        refine s_r hf (x_loadS (f := opF) ag42 (fun _ => rfl) (hs.old hrosc) (hf.eval rfl) (by simpa using hlt)) ?_; clear hf a; intro a hf
        replace hs := hs.take (A := refA 90 94 5 3 q s) (by first | exact .here _ | exact .there _ (.here _) | exact .there _ (.there _ (.here _)) | exact .there _ (.there _ (.there _ (.here _))) | exact .there _ (.there _ (.there _ (.there _ (.here _)))) | exact .there _ (.there _ (.there _ (.there _ (.there _ (.here _))))) | exact .there _ (.there _ (.there _ (.there _ (.there _ (.there _ (.here _)))))) | exact .there _ (.there _ (.there _ (.there _ (.there _ (.there _ (.there _ (.here _))))))) | exact .there _ (.there _ (.there _ (.there _ (.there _ (.there _ (.there _ (.there _ (.here _)))))))) | exact .there _ (.there _ (.there _ (.there _ (.there _ (.there _ (.there _ (.there _ (.there _ (.here _))))))))) | exact .there _ (.there _ (.there _ (.there _ (.there _ (.there _ (.there _ (.there _ (.there _ (.there _ (.here _)))))))))) | exact .there _ (.there _ (.there _ (.there _ (.there _ (.there _ (.there _ (.there _ (.there _ (.there _ (.there _ (.here _))))))))))))
        replace hs := hs.take (A := diskA 78 83 5 3 p s) (by first | exact .here _ | exact .there _ (.here _) | exact .there _ (.there _ (.here _)) | exact .there _ (.there _ (.there _ (.here _))) | exact .there _ (.there _ (.there _ (.there _ (.here _)))) | exact .there _ (.there _ (.there _ (.there _ (.there _ (.here _))))) | exact .there _ (.there _ (.there _ (.there _ (.there _ (.there _ (.here _)))))) | exact .there _ (.there _ (.there _ (.there _ (.there _ (.there _ (.there _ (.here _))))))) | exact .there _ (.there _ (.there _ (.there _ (.there _ (.there _ (.there _ (.there _ (.here _)))))))) | exact .there _ (.there _ (.there _ (.there _ (.there _ (.there _ (.there _ (.there _ (.there _ (.here _))))))))) | exact .there _ (.there _ (.there _ (.there _ (.there _ (.there _ (.there _ (.there _ (.there _ (.there _ (.here _)))))))))) | exact .there _ (.there _ (.there _ (.there _ (.there _ (.there _ (.there _ (.there _ (.there _ (.there _ (.there _ (.here _))))))))))))
        refine s_do hf rfl (y_call (hf.eval rfl) (hf.evals rfl) Try.call47 ((changes_spec _ _ _ p q s hs ops[i] (Rdy.old hg.data) hg.len ho (hb.up (by omega))).mono ?_))
        rintro e w1 ⟨rfl, hs⟩
        refine ⟨_, rfl, ?_⟩; clear hf a; intro a hf
        refine s_a hf rfl ?_; clear hf a; intro a hf
        refine s_nil ?_
        refine then_n ?_
        refine wp_seq ?_
        refine wp_region_lit ?_
        refine s_m hf rfl ?_; clear hf a; intro a hf
        refine s_m hf rfl ?_; clear hf a; intro a hf
        refine s_m hf rfl ?_; clear hf a; intro a hf
        refine s_m hf rfl ?_; clear hf a; intro a hf
        refine s_v hf (x_indexAddr sl58 (hf.eval rfl) (hf.eval rfl) (by omega) (by omega)) ?_; clear hf a; intro a hf
        refine s_r hf (x_loadS (f := opF) ag42 (fun _ => rfl) (hs.old hrosc) (hf.eval rfl) (by simpa using hlt)) ?_; clear hf a; intro a hf
        replace hs := hs.take (A := refA 90 94 5 3 q (csS s ops[i])) (by first | exact .here _ | exact .there _ (.here _) | exact .there _ (.there _ (.here _)) | exact .there _ (.there _ (.there _ (.here _))) | exact .there _ (.there _ (.there _ (.there _ (.here _)))) | exact .there _ (.there _ (.there _ (.there _ (.there _ (.here _))))) | exact .there _ (.there _ (.there _ (.there _ (.there _ (.there _ (.here _)))))) | exact .there _ (.there _ (.there _ (.there _ (.there _ (.there _ (.there _ (.here _))))))) | exact .there _ (.there _ (.there _ (.there _ (.there _ (.there _ (.there _ (.there _ (.here _)))))))) | exact .there _ (.there _ (.there _ (.there _ (.there _ (.there _ (.there _ (.there _ (.there _ (.here _))))))))) | exact .there _ (.there _ (.there _ (.there _ (.there _ (.there _ (.there _ (.there _ (.there _ (.there _ (.here _)))))))))) | exact .there _ (.there _ (.there _ (.there _ (.there _ (.there _ (.there _ (.there _ (.there _ (.there _ (.there _ (.here _))))))))))))
        replace hs := hs.take (A := diskA 78 83 5 3 p (csS s ops[i])) (by first | exact .here _ | exact .there _ (.here _) | exact .there _ (.there _ (.here _)) | exact .there _ (.there _ (.there _ (.here _))) | exact .there _ (.there _ (.there _ (.there _ (.here _)))) | exact .there _ (.there _ (.there _ (.there _ (.there _ (.here _))))) | exact .there _ (.there _ (.there _ (.there _ (.there _ (.there _ (.here _)))))) | exact .there _ (.there _ (.there _ (.there _ (.there _ (.there _ (.there _ (.here _))))))) | exact .there _ (.there _ (.there _ (.there _ (.there _ (.there _ (.there _ (.there _ (.here _)))))))) | exact .there _ (.there _ (.there _ (.there _ (.there _ (.there _ (.there _ (.there _ (.there _ (.here _))))))))) | exact .there _ (.there _ (.there _ (.there _ (.there _ (.there _ (.there _ (.there _ (.there _ (.there _ (.here _)))))))))) | exact .there _ (.there _ (.there _ (.there _ (.there _ (.there _ (.there _ (.there _ (.there _ (.there _ (.there _ (.here _))))))))))))
        refine s_do hf rfl (y_call (hf.eval rfl) (hf.evals rfl) Try.call51 ((asks_spec _ _ _ p q _ hs ops[i] (csS_ok ho hg.b1.2)).mono ?_))
        rintro e w1 ⟨rfl, hs⟩
        replace hs := hs.take (A := refA 90 94 5 3 q2 t) (by first | exact .here _ | exact .there _ (.here _) | exact .there _ (.there _ (.here _)) | exact .there _ (.there _ (.there _ (.here _))) | exact .there _ (.there _ (.there _ (.there _ (.here _)))) | exact .there _ (.there _ (.there _ (.there _ (.there _ (.here _))))) | exact .there _ (.there _ (.there _ (.there _ (.there _ (.there _ (.here _)))))) | exact .there _ (.there _ (.there _ (.there _ (.there _ (.there _ (.there _ (.here _))))))) | exact .there _ (.there _ (.there _ (.there _ (.there _ (.there _ (.there _ (.there _ (.here _)))))))) | exact .there _ (.there _ (.there _ (.there _ (.there _ (.there _ (.there _ (.there _ (.there _ (.here _))))))))) | exact .there _ (.there _ (.there _ (.there _ (.there _ (.there _ (.there _ (.there _ (.there _ (.there _ (.here _)))))))))) | exact .there _ (.there _ (.there _ (.there _ (.there _ (.there _ (.there _ (.there _ (.there _ (.there _ (.there _ (.here _))))))))))))
        replace hs := hs.take (A := diskA 78 83 5 3 p2 t) (by first | exact .here _ | exact .there _ (.here _) | exact .there _ (.there _ (.here _)) | exact .there _ (.there _ (.there _ (.here _))) | exact .there _ (.there _ (.there _ (.there _ (.here _)))) | exact .there _ (.there _ (.there _ (.there _ (.there _ (.here _))))) | exact .there _ (.there _ (.there _ (.there _ (.there _ (.there _ (.here _)))))) | exact .there _ (.there _ (.there _ (.there _ (.there _ (.there _ (.there _ (.here _))))))) | exact .there _ (.there _ (.there _ (.there _ (.there _ (.there _ (.there _ (.there _ (.here _)))))))) | exact .there _ (.there _ (.there _ (.there _ (.there _ (.there _ (.there _ (.there _ (.there _ (.here _))))))))) | exact .there _ (.there _ (.there _ (.there _ (.there _ (.there _ (.there _ (.there _ (.there _ (.there _ (.here _)))))))))) | exact .there _ (.there _ (.there _ (.there _ (.there _ (.there _ (.there _ (.there _ (.there _ (.there _ (.there _ (.here _))))))))))))
        replace hs := hs.take (A := refA 90 94 5 3 q (csS s ops[i])) (by first | exact .here _ | exact .there _ (.here _) | exact .there _ (.there _ (.here _)) | exact .there _ (.there _ (.there _ (.here _))) | exact .there _ (.there _ (.there _ (.there _ (.here _)))) | exact .there _ (.there _ (.there _ (.there _ (.there _ (.here _))))) | exact .there _ (.there _ (.there _ (.there _ (.there _ (.there _ (.here _)))))) | exact .there _ (.there _ (.there _ (.there _ (.there _ (.there _ (.there _ (.here _))))))) | exact .there _ (.there _ (.there _ (.there _ (.there _ (.there _ (.there _ (.there _ (.here _)))))))) | exact .there _ (.there _ (.there _ (.there _ (.there _ (.there _ (.there _ (.there _ (.there _ (.here _))))))))) | exact .there _ (.there _ (.there _ (.there _ (.there _ (.there _ (.there _ (.there _ (.there _ (.there _ (.here _)))))))))) | exact .there _ (.there _ (.there _ (.there _ (.there _ (.there _ (.there _ (.there _ (.there _ (.there _ (.there _ (.here _))))))))))))
        replace hs := hs.take (A := diskA 78 83 5 3 p (csS s ops[i])) (by first | exact .here _ | exact .there _ (.here _) | exact .there _ (.there _ (.here _)) | exact .there _ (.there _ (.there _ (.here _))) | exact .there _ (.there _ (.there _ (.there _ (.here _)))) | exact .there _ (.there _ (.there _ (.there _ (.there _ (.here _))))) | exact .there _ (.there _ (.there _ (.there _ (.there _ (.there _ (.here _)))))) | exact .there _ (.there _ (.there _ (.there _ (.there _ (.there _ (.there _ (.here _))))))) | exact .there _ (.there _ (.there _ (.there _ (.there _ (.there _ (.there _ (.there _ (.here _)))))))) | exact .there _ (.there _ (.there _ (.there _ (.there _ (.there _ (.there _ (.there _ (.there _ (.here _))))))))) | exact .there _ (.there _ (.there _ (.there _ (.there _ (.there _ (.there _ (.there _ (.there _ (.there _ (.here _)))))))))) | exact .there _ (.there _ (.there _ (.there _ (.there _ (.there _ (.there _ (.there _ (.there _ (.there _ (.there _ (.here _))))))))))))
        have hs9 := hs
        have ho9 := csS_ok ho hg.b1.2
        have hb9 := csS_b ho hb ops[i]
        refine ⟨_, rfl, ?_⟩; clear hf a; intro a hf
        refine s_a hf rfl ?_; clear hf a; intro a hf
        refine s_nil ?_
        refine then_n ?_
        refine wp_seq ?_
        refine wp_region_lit ?_
        refine s_m hf rfl ?_; clear hf a; intro a hf
        refine s_v hf (x_not (hf.eval rfl)) ?_; clear hf a; intro a hf
        refine s_m hf rfl ?_; clear hf a; intro a hf
        replace hf := hf.now (k := 50) (v' := .bool false) rfl (congrArg Value.bool (by first | rfl | simp))
        refine s_do hf (wanted_of hf rfl rfl rfl) (.value (x_move (hf.eval rfl) _) ?_); clear hf a; intro a hf
        refine s_do hf (wanted_of hf rfl rfl rfl) (.value (x_not (hf.eval rfl) _) ?_); clear hf a; intro a hf
        refine s_v hf (x_pick_f (hf.eval rfl) (hf.eval rfl)) ?_; clear hf a; intro a hf
        refine s_nil ?_
        refine then_n ?_
        refine c_cond_f hf rfl (by first | rfl | simp) ?_
        refine wp_skip ?_
        refine then_n ?_
        exact ⟨_, ⟨_, rfl, ho9, hb9, hs9⟩, hf.sub ⟨rfl, rfl, rfl, rfl, rfl, rfl, rfl, rfl, rfl, rfl, rfl, rfl, rfl, rfl, rfl, rfl, rfl, trivial⟩⟩
      · simp only [decide_eq_true_eq, decide_eq_false_iff_not, Bool.not_eq_true', Bool.not_eq_false', Bool.not_eq_true, Int.not_lt, Int.not_le] at hi1
        have ho9 := ho
        have hb9 := hb.up (Nat.le_succ i)
        have hs9 := hs
        refine wp_skip ?_
        refine then_n ?_
        exact ⟨_, ⟨_, rfl, ho9, hb9, hs9⟩, hf.sub ⟨rfl, rfl, rfl, rfl, rfl, rfl, rfl, rfl, rfl, rfl, rfl, rfl, rfl, rfl, rfl, rfl, rfl, trivial⟩⟩
    · clear hf hs a
      rintro M a w ⟨s, rfl, ho, hb, hs⟩ hf
      refine wp_seq ?_
      refine wp_region_lit ?_
      refine s_m hf rfl ?_; clear hf a; intro a hf
      refine s_m hf rfl ?_; clear hf a; intro a hf
      refine s_v hf (x_len Try.underlying58 (hf.eval rfl)) ?_; clear hf a; intro a hf
      refine s_v hf (x_bin (hf.eval rfl) (hf.eval rfl) (r_lt _ _ _ _)) ?_; clear hf a; intro a hf
      refine s_nil ?_
      refine then_n ?_
      refine c_cond hf rfl (fun hi3 => ?_) (fun hi3 => ?_)
      · simp only [decide_eq_true_eq, decide_eq_false_iff_not, Bool.not_eq_true', Bool.not_eq_false', Bool.not_eq_true, Int.not_lt, Int.not_le] at hi3
        have hlt : i < opt.length := by omega
        obtain ⟨atc, rfl⟩ := hrotc.some (by omega)
        have hg := hogtc _ (List.getElem_mem hlt)
        refine wp_seq ?_
        refine wp_region_lit ?_
        refine s_m hf rfl ?_; clear hf a; intro a hf
        refine s_m hf rfl ?_; clear hf a; intro a hf
        refine s_m hf rfl ?_; clear hf a; intro a hf
        refine s_m hf rfl ?_; clear hf a; intro a hf
        refine s_v hf (x_indexAddr sl58 (hf.eval rfl) (hf.eval rfl) (by omega) (by omega)) ?_; clear hf a; intro a hf
        refine s_r hf (x_loadS (f := opF) ag42 (fun _ => rfl) (hs.old hrotc) (hf.eval rfl) (by simpa using hlt)) ?_; clear hf a; intro a hf
        replace hs := hs.take (A := refA 90 94 5 3 q2 t) (by first | exact .here _ | exact .there _ (.here _) | exact .there _ (.there _ (.here _)) | exact .there _ (.there _ (.there _ (.here _))) | exact .there _ (.there _ (.there _ (.there _ (.here _)))) | exact .there _ (.there _ (.there _ (.there _ (.there _ (.here _))))) | exact .there _ (.there _ (.there _ (.there _ (.there _ (.there _ (.here _)))))) | exact .there _ (.there _ (.there _ (.there _ (.there _ (.there _ (.there _ (.here _))))))) | exact .there _ (.there _ (.there _ (.there _ (.there _ (.there _ (.there _ (.there _ (.here _)))))))) | exact .there _ (.there _ (.there _ (.there _ (.there _ (.there _ (.there _ (.there _ (.there _ (.here _))))))))) | exact .there _ (.there _ (.there _ (.there _ (.there _ (.there _ (.there _ (.there _ (.there _ (.there _ (.here _)))))))))) | exact .there _ (.there _ (.there _ (.there _ (.there _ (.there _ (.there _ (.there _ (.there _ (.there _ (.there _ (.here _))))))))))))
        replace hs := hs.take (A := diskA 78 83 5 3 p2 t) (by first | exact .here _ | exact .there _ (.here _) | exact .there _ (.there _ (.here _)) | exact .there _ (.there _ (.there _ (.here _))) | exact .there _ (.there _ (.there _ (.there _ (.here _)))) | exact .there _ (.there _ (.there _ (.there _ (.there _ (.here _))))) | exact .there _ (.there _ (.there _ (.there _ (.there _ (.there _ (.here _)))))) | exact .there _ (.there _ (.there _ (.there _ (.there _ (.there _ (.there _ (.here _))))))) | exact .there _ (.there _ (.there _ (.there _ (.there _ (.there _ (.there _ (.there _ (.here _)))))))) | exact .there _ (.there _ (.there _ (.there _ (.there _ (.there _ (.there _ (.there _ (.there _ (.here _))))))))) | exact .there _ (.there _ (.there _ (.there _ (.there _ (.there _ (.there _ (.there _ (.there _ (.there _ (.here _)))))))))) | exact .there _ (.there _ (.there _ (.there _ (.there _ (.there _ (.there _ (.there _ (.there _ (.there _ (.there _ (.here _))))))))))))
        refine s_do hf rfl (y_call (hf.eval rfl) (hf.evals rfl) Try.call47 ((changes_spec _ _ _ p2 q2 t hs opt[i] (Rdy.old hg.data) hg.len ho2 (hb2.up (by omega))).mono ?_))
        rintro e w1 ⟨rfl, hs⟩
        refine ⟨_, rfl, ?_⟩; clear hf a; intro a hf
        refine s_a hf rfl ?_; clear hf a; intro a hf
        refine s_nil ?_
        refine then_n ?_
        refine wp_seq ?_
        refine wp_region_lit ?_
        refine s_m hf rfl ?_; clear hf a; intro a hf
        refine s_m hf rfl ?_; clear hf a; intro a hf
        refine s_m hf rfl ?_; clear hf a; intro a hf
        refine s_m hf rfl ?_; clear hf a; intro a hf
        refine s_v hf (x_indexAddr sl58 (hf.eval rfl) (hf.eval rfl) (by omega) (by omega)) ?_; clear hf a; intro a hf
        refine s_r hf (x_loadS (f := opF) ag42 (fun _ => rfl) (hs.old hrotc) (hf.eval rfl) (by simpa using hlt)) ?_; clear hf a; intro a hf
        replace hs := hs.take (A := refA 90 94 5 3 q2 (csS t opt[i])) (by first | exact .here _ | exact .there _ (.here _) | exact .there _ (.there _ (.here _)) | exact .there _ (.there _ (.there _ (.here _))) | exact .there _ (.there _ (.there _ (.there _ (.here _)))) | exact .there _ (.there _ (.there _ (.there _ (.there _ (.here _))))) | exact .there _ (.there _ (.there _ (.there _ (.there _ (.there _ (.here _)))))) | exact .there _ (.there _ (.there _ (.there _ (.there _ (.there _ (.there _ (.here _))))))) | exact .there _ (.there _ (.there _ (.there _ (.there _ (.there _ (.there _ (.there _ (.here _)))))))) | exact .there _ (.there _ (.there _ (.there _ (.there _ (.there _ (.there _ (.there _ (.there _ (.here _))))))))) | exact .there _ (.there _ (.there _ (.there _ (.there _ (.there _ (.there _ (.there _ (.there _ (.there _ (.here _)))))))))) | exact .there _ (.there _ (.there _ (.there _ (.there _ (.there _ (.there _ (.there _ (.there _ (.there _ (.there _ (.here _))))))))))))
        replace hs := hs.take (A := diskA 78 83 5 3 p2 (csS t opt[i])) (by first | exact .here _ | exact .there _ (.here _) | exact .there _ (.there _ (.here _)) | exact .there _ (.there _ (.there _ (.here _))) | exact .there _ (.there _ (.there _ (.there _ (.here _)))) | exact .there _ (.there _ (.there _ (.there _ (.there _ (.here _))))) | exact .there _ (.there _ (.there _ (.there _ (.there _ (.there _ (.here _)))))) | exact .there _ (.there _ (.there _ (.there _ (.there _ (.there _ (.there _ (.here _))))))) | exact .there _ (.there _ (.there _ (.there _ (.there _ (.there _ (.there _ (.there _ (.here _)))))))) | exact .there _ (.there _ (.there _ (.there _ (.there _ (.there _ (.there _ (.there _ (.there _ (.here _))))))))) | exact .there _ (.there _ (.there _ (.there _ (.there _ (.there _ (.there _ (.there _ (.there _ (.there _ (.here _)))))))))) | exact .there _ (.there _ (.there _ (.there _ (.there _ (.there _ (.there _ (.there _ (.there _ (.there _ (.there _ (.here _))))))))))))
        refine s_do hf rfl (y_call (hf.eval rfl) (hf.evals rfl) Try.call51 ((asks_spec _ _ _ p2 q2 _ hs opt[i] (csS_ok ho2 hg.b1.2)).mono ?_))
        rintro e w1 ⟨rfl, hs⟩
        replace hs := hs.take (A := refA 90 94 5 3 q2 (csS t opt[i])) (by first | exact .here _ | exact .there _ (.here _) | exact .there _ (.there _ (.here _)) | exact .there _ (.there _ (.there _ (.here _))) | exact .there _ (.there _ (.there _ (.there _ (.here _)))) | exact .there _ (.there _ (.there _ (.there _ (.there _ (.here _))))) | exact .there _ (.there _ (.there _ (.there _ (.there _ (.there _ (.here _)))))) | exact .there _ (.there _ (.there _ (.there _ (.there _ (.there _ (.there _ (.here _))))))) | exact .there _ (.there _ (.there _ (.there _ (.there _ (.there _ (.there _ (.there _ (.here _)))))))) | exact .there _ (.there _ (.there _ (.there _ (.there _ (.there _ (.there _ (.there _ (.there _ (.here _))))))))) | exact .there _ (.there _ (.there _ (.there _ (.there _ (.there _ (.there _ (.there _ (.there _ (.there _ (.here _)))))))))) | exact .there _ (.there _ (.there _ (.there _ (.there _ (.there _ (.there _ (.there _ (.there _ (.there _ (.there _ (.here _))))))))))))
        replace hs := hs.take (A := diskA 78 83 5 3 p2 (csS t opt[i])) (by first | exact .here _ | exact .there _ (.here _) | exact .there _ (.there _ (.here _)) | exact .there _ (.there _ (.there _ (.here _))) | exact .there _ (.there _ (.there _ (.there _ (.here _)))) | exact .there _ (.there _ (.there _ (.there _ (.there _ (.here _))))) | exact .there _ (.there _ (.there _ (.there _ (.there _ (.there _ (.here _)))))) | exact .there _ (.there _ (.there _ (.there _ (.there _ (.there _ (.there _ (.here _))))))) | exact .there _ (.there _ (.there _ (.there _ (.there _ (.there _ (.there _ (.there _ (.here _)))))))) | exact .there _ (.there _ (.there _ (.there _ (.there _ (.there _ (.there _ (.there _ (.there _ (.here _))))))))) | exact .there _ (.there _ (.there _ (.there _ (.there _ (.there _ (.there _ (.there _ (.there _ (.there _ (.here _)))))))))) | exact .there _ (.there _ (.there _ (.there _ (.there _ (.there _ (.there _ (.there _ (.there _ (.there _ (.there _ (.here _))))))))))))
        replace hs := hs.take (A := refA 90 94 5 3 q s) (by first | exact .here _ | exact .there _ (.here _) | exact .there _ (.there _ (.here _)) | exact .there _ (.there _ (.there _ (.here _))) | exact .there _ (.there _ (.there _ (.there _ (.here _)))) | exact .there _ (.there _ (.there _ (.there _ (.there _ (.here _))))) | exact .there _ (.there _ (.there _ (.there _ (.there _ (.there _ (.here _)))))) | exact .there _ (.there _ (.there _ (.there _ (.there _ (.there _ (.there _ (.here _))))))) | exact .there _ (.there _ (.there _ (.there _ (.there _ (.there _ (.there _ (.there _ (.here _)))))))) | exact .there _ (.there _ (.there _ (.there _ (.there _ (.there _ (.there _ (.there _ (.there _ (.here _))))))))) | exact .there _ (.there _ (.there _ (.there _ (.there _ (.there _ (.there _ (.there _ (.there _ (.there _ (.here _)))))))))) | exact .there _ (.there _ (.there _ (.there _ (.there _ (.there _ (.there _ (.there _ (.there _ (.there _ (.there _ (.here _))))))))))))
        replace hs := hs.take (A := diskA 78 83 5 3 p s) (by first | exact .here _ | exact .there _ (.here _) | exact .there _ (.there _ (.here _)) | exact .there _ (.there _ (.there _ (.here _))) | exact .there _ (.there _ (.there _ (.there _ (.here _)))) | exact .there _ (.there _ (.there _ (.there _ (.there _ (.here _))))) | exact .there _ (.there _ (.there _ (.there _ (.there _ (.there _ (.here _)))))) | exact .there _ (.there _ (.there _ (.there _ (.there _ (.there _ (.there _ (.here _))))))) | exact .there _ (.there _ (.there _ (.there _ (.there _ (.there _ (.there _ (.there _ (.here _)))))))) | exact .there _ (.there _ (.there _ (.there _ (.there _ (.there _ (.there _ (.there _ (.there _ (.here _))))))))) | exact .there _ (.there _ (.there _ (.there _ (.there _ (.there _ (.there _ (.there _ (.there _ (.there _ (.here _)))))))))) | exact .there _ (.there _ (.there _ (.there _ (.there _ (.there _ (.there _ (.there _ (.there _ (.there _ (.there _ (.here _))))))))))))
        have hs9 := hs
        have ho9 := csS_ok ho2 hg.b1.2
        have hb9 := csS_b ho2 hb2 opt[i]
        refine ⟨_, rfl, ?_⟩; clear hf a; intro a hf
        refine s_a hf rfl ?_; clear hf a; intro a hf
        refine s_nil ?_
        refine then_n ?_
        refine wp_seq ?_
        refine wp_region_lit ?_
        refine s_m hf rfl ?_; clear hf a; intro a hf
        refine s_v hf (x_not (hf.eval rfl)) ?_; clear hf a; intro a hf
        refine s_m hf rfl ?_; clear hf a; intro a hf
        replace hf := hf.now (k := 74) (v' := .bool false) rfl (congrArg Value.bool (by first | rfl | simp))
        refine s_do hf (wanted_of hf rfl rfl rfl) (.value (x_move (hf.eval rfl) _) ?_); clear hf a; intro a hf
        refine s_do hf (wanted_of hf rfl rfl rfl) (.value (x_not (hf.eval rfl) _) ?_); clear hf a; intro a hf
        refine s_v hf (x_pick_f (hf.eval rfl) (hf.eval rfl)) ?_; clear hf a; intro a hf
        refine s_nil ?_
        refine then_n ?_
        refine c_cond_f hf rfl (by first | rfl | simp) ?_
        refine wp_skip ?_
        refine blk_n ?_
        refine then_n ?_
        refine wp_region_lit ?_
        refine s_m hf rfl ?_; clear hf a; intro a hf
        refine s_v hf (x_bin (hf.eval rfl) (hf.eval rfl) (r_addi _ (by omega) (by omega))) ?_; clear hf a; intro a hf
        refine s_a hf rfl ?_; clear hf a; intro a hf
        refine s_nil ?_
        exact ⟨_, _, ⟨i + 1, s, _, rfl, rfl, by omega, ho, hb, ho9, hb9, hs9⟩, by omega, hf.sub ⟨rfl, rfl, rfl, rfl, rfl, rfl, rfl, trivial⟩⟩
      · simp only [decide_eq_true_eq, decide_eq_false_iff_not, Bool.not_eq_true', Bool.not_eq_false', Bool.not_eq_true, Int.not_lt, Int.not_le] at hi3
        have ho9 := ho2
        have hb9 := hb2.up (Nat.le_succ i)
        have hs9 := hs
        refine wp_skip ?_
        refine blk_n ?_
        refine then_n ?_
        refine wp_region_lit ?_
        refine s_m hf rfl ?_; clear hf a; intro a hf
        refine s_v hf (x_bin (hf.eval rfl) (hf.eval rfl) (r_addi _ (by omega) (by omega))) ?_; clear hf a; intro a hf
        refine s_a hf rfl ?_; clear hf a; intro a hf
        refine s_nil ?_
        exact ⟨_, _, ⟨i + 1, s, _, rfl, rfl, by omega, ho, hb, ho9, hb9, hs9⟩, by omega, hf.sub ⟨rfl, rfl, rfl, rfl, rfl, rfl, rfl, trivial⟩⟩
  · clear hf
    have hf := hf'
    clear hf'
    simp only [decide_eq_true_eq, decide_eq_false_iff_not] at hg2_4
    refine s_do hf (wanted_of hf rfl rfl rfl) (.value (x_move (hf.eval rfl) _) ?_); clear hf a; intro a hf
    refine s_do hf (wanted_of hf rfl rfl rfl) (.value (x_move (hf.eval rfl) _) ?_); clear hf a; intro a hf
    refine s_do hf (wanted_of hf rfl rfl rfl) (.value (x_len Try.underlying58 (hf.eval rfl) _) ?_); clear hf a; intro a hf
    refine s_do hf (wanted_of hf rfl rfl rfl) (.value (x_bin (hf.eval rfl) (hf.eval rfl) (r_lt _ _ _ _) _) ?_); clear hf a; intro a hf
    refine s_v hf (x_pick_f (hf.eval rfl) (hf.eval rfl)) ?_; clear hf a; intro a hf
    refine s_nil ?_
    refine then_n ?_
    refine c_cond hf rfl (fun hi0 => ?_) (fun hi0 => ?_)
    · simp only [decide_eq_true_eq, decide_eq_false_iff_not, Bool.not_eq_true', Bool.not_eq_false', Bool.not_eq_true, Int.not_lt, Int.not_le] at hi0
      have hany : i < ops.length ∨ i < opt.length := by omega
      refine wp_skip ?_
      refine then_n ?_
      refine wp_seq ?_
      refine wp_block ?_
      refine c_join (N := 90) (L0 := [(0, _), (1, _), (2, _), (3, _), (4, _), (5, _), (13, _), (18, _), (19, _), (20, _), (21, _), (22, _), (23, _), (24, _), (25, _), (26, _), (27, _)]) (fun M w => ∃ s : DS, M = [] ∧ DOk s ∧ DB s (i + 1) ∧ St ⟨w0, None_⟩ w [diskA 78 83 5 3 p s, refA 90 94 5 3 q s, diskA 78 83 5 3 p2 t, refA 90 94 5 3 q2 t]) (hf.sub ⟨rfl, rfl, rfl, rfl, rfl, rfl, rfl, rfl, rfl, rfl, rfl, rfl, rfl, rfl, rfl, rfl, rfl, trivial⟩) ?_ ?_
      · refine wp_seq ?_
        refine wp_region_lit ?_
        refine s_m hf rfl ?_; clear hf a; intro a hf
        refine s_m hf rfl ?_; clear hf a; intro a hf
        refine s_v hf (x_len Try.underlying58 (hf.eval rfl)) ?_; clear hf a; intro a hf
        refine s_v hf (x_bin (hf.eval rfl) (hf.eval rfl) (r_lt _ _ _ _)) ?_; clear hf a; intro a hf
        refine s_nil ?_
        refine then_n ?_
        refine c_cond hf rfl (fun hi1 => ?_) (fun hi1 => ?_)
        · simp only [decide_eq_true_eq, decide_eq_false_iff_not, Bool.not_eq_true', Bool.not_eq_false', Bool.not_eq_true, Int.not_lt, Int.not_le] at hi1
          have hlt : i < ops.length := by omega
          obtain ⟨asc, rfl⟩ := hrosc.some (by omega)
          have hg := hogsc _ (List.getElem_mem hlt)
          refine wp_seq ?_
          refine wp_region_lit ?_
          refine s_m hf rfl ?_; clear hf a; intro a hf
          refine s_m hf rfl ?_; clear hf a; intro a hf
          refine s_m hf rfl ?_; clear hf a; intro a hf
          refine s_m hf rfl ?_; clear hf a; intro a hf
          refine s_v hf (x_indexAddr sl58 (hf.eval rfl) (hf.eval rfl) (by omega) (by omega)) ?_; clear hf a; intro a hf
          refine s_r hf (x_loadS (f := opF) ag42 (fun _ => rfl) (hs.old hrosc) (hf.eval rfl) (by simpa using hlt)) ?_; clear hf a; intro a hf
          replace hs := hs.take (A := refA 90 94 5 3 q s) (by first | exact .here _ | exact .there _ (.here _) | exact .there _ (.there _ (.here _)) | exact .there _ (.there _ (.there _ (.here _))) | exact .there _ (.there _ (.there _ (.there _ (.here _)))) | exact .there _ (.there _ (.there _ (.there _ (.there _ (.here _))))) | exact .there _ (.there _ (.there _ (.there _ (.there _ (.there _ (.here _)))))) | exact .there _ (.there _ (.there _ (.there _ (.there _ (.there _ (.there _ (.here _))))))) | exact .there _ (.there _ (.there _ (.there _ (.there _ (.there _ (.there _ (.there _ (.here _)))))))) | exact .there _ (.there _ (.there _ (.there _ (.there _ (.there _ (.there _ (.there _ (.there _ (.here _))))))))) | exact .there _ (.there _ (.there _ (.there _ (.there _ (.there _ (.there _ (.there _ (.there _ (.there _ (.here _)))))))))) | exact .there _ (.there _ (.there _ (.there _ (.there _ (.there _ (.there _ (.there _ (.there _ (.there _ (.there _ (.here _))))))))))))
          replace hs := hs.take (A := diskA 78 83 5 3 p s) (by first | exact .here _ | exact .there _ (.here _) | exact .there _ (.there _ (.here _)) | exact .there _ (.there _ (.there _ (.here _))) | exact .there _ (.there _ (.there _ (.there _ (.here _)))) | exact .there _ (.there _ (.there _ (.there _ (.there _ (.here _))))) | exact .there _ (.there _ (.there _ (.there _ (.there _ (.there _ (.here _)))))) | exact .there _ (.there _ (.there _ (.there _ (.there _ (.there _ (.there _ (.here _))))))) | exact .there _ (.there _ (.there _ (.there _ (.there _ (.there _ (.there _ (.there _ (.here _)))))))) | exact .there _ (.there _ (.there _ (.there _ (.there _ (.there _ (.there _ (.there _ (.there _ (.here _))))))))) | exact .there _ (.there _ (.there _ (.there _ (.there _ (.there _ (.there _ (.there _ (.there _ (.there _ (.here _)))))))))) | exact .there _ (.there _ (.there _ (.there _ (.there _ (.there _ (.there _ (.there _ (.there _ (.there _ (.there _ (.here _))))))))))))
          refine s_do hf rfl (y_call (hf.eval rfl) (hf.evals rfl) Try.call47 ((changes_spec _ _ _ p q s hs ops[i] (Rdy.old hg.data) hg.len ho (hb.up (by omega))).mono ?_))
          rintro e w1 ⟨rfl, hs⟩
          refine ⟨_, rfl, ?_⟩; clear hf a; intro a hf
          refine s_a hf rfl ?_; clear hf a; intro a hf
          refine s_nil ?_
          refine then_n ?_
          refine wp_seq ?_
          refine wp_region_lit ?_
          refine s_m hf rfl ?_; clear hf a; intro a hf
          refine s_m hf rfl ?_; clear hf a; intro a hf
          refine s_m hf rfl ?_; clear hf a; intro a hf
          refine s_m hf rfl ?_; clear hf a; intro a hf
          refine s_v hf (x_indexAddr sl58 (hf.eval rfl) (hf.eval rfl) (by omega) (by omega)) ?_; clear hf a; intro a hf
          refine s_r hf (x_loadS (f := opF) ag42 (fun _ => rfl) (hs.old hrosc) (hf.eval rfl) (by simpa using hlt)) ?_; clear hf a; intro a hf
          replace hs := hs.take (A := refA 90 94 5 3 q (csS s ops[i])) (by first | exact .here _ | exact .there _ (.here _) | exact .there _ (.there _ (.here _)) | exact .there _ (.there _ (.there _ (.here _))) | exact .there _ (.there _ (.there _ (.there _ (.here _)))) | exact .there _ (.there _ (.there _ (.there _ (.there _ (.here _))))) | exact .there _ (.there _ (.there _ (.there _ (.there _ (.there _ (.here _)))))) | exact .there _ (.there _ (.there _ (.there _ (.there _ (.there _ (.there _ (.here _))))))) | exact .there _ (.there _ (.there _ (.there _ (.there _ (.there _ (.there _ (.there _ (.here _)))))))) | exact .there _ (.there _ (.there _ (.there _ (.there _ (.there _ (.there _ (.there _ (.there _ (.here _))))))))) | exact .there _ (.there _ (.there _ (.there _ (.there _ (.there _ (.there _ (.there _ (.there _ (.there _ (.here _)))))))))) | exact .there _ (.there _ (.there _ (.there _ (.there _ (.there _ (.there _ (.there _ (.there _ (.there _ (.there _ (.here _))))))))))))
          replace hs := hs.take (A := diskA 78 83 5 3 p (csS s ops[i])) (by first | exact .here _ | exact .there _ (.here _) | exact .there _ (.there _ (.here _)) | exact .there _ (.there _ (.there _ (.here _))) | exact .there _ (.there _ (.there _ (.there _ (.here _)))) | exact .there _ (.there _ (.there _ (.there _ (.there _ (.here _))))) | exact .there _ (.there _ (.there _ (.there _ (.there _ (.there _ (.here _)))))) | exact .there _ (.there _ (.there _ (.there _ (.there _ (.there _ (.there _ (.here _))))))) | exact .there _ (.there _ (.there _ (.there _ (.there _ (.there _ (.there _ (.there _ (.here _)))))))) | exact .there _ (.there _ (.there _ (.there _ (.there _ (.there _ (.there _ (.there _ (.there _ (.here _))))))))) | exact .there _ (.there _ (.there _ (.there _ (.there _ (.there _ (.there _ (.there _ (.there _ (.there _ (.here _)))))))))) | exact .there _ (.there _ (.there _ (.there _ (.there _ (.there _ (.there _ (.there _ (.there _ (.there _ (.there _ (.here _))))))))))))
          refine s_do hf rfl (y_call (hf.eval rfl) (hf.evals rfl) Try.call51 ((asks_spec _ _ _ p q _ hs ops[i] (csS_ok ho hg.b1.2)).mono ?_))
          rintro e w1 ⟨rfl, hs⟩
          replace hs := hs.take (A := refA 90 94 5 3 q2 t) (by first | exact .here _ | exact .there _ (.here _) | exact .there _ (.there _ (.here _)) | exact .there _ (.there _ (.there _ (.here _))) | exact .there _ (.there _ (.there _ (.there _ (.here _)))) | exact .there _ (.there _ (.there _ (.there _ (.there _ (.here _))))) | exact .there _ (.there _ (.there _ (.there _ (.there _ (.there _ (.here _)))))) | exact .there _ (.there _ (.there _ (.there _ (.there _ (.there _ (.there _ (.here _))))))) | exact .there _ (.there _ (.there _ (.there _ (.there _ (.there _ (.there _ (.there _ (.here _)))))))) | exact .there _ (.there _ (.there _ (.there _ (.there _ (.there _ (.there _ (.there _ (.there _ (.here _))))))))) | exact .there _ (.there _ (.there _ (.there _ (.there _ (.there _ (.there _ (.there _ (.there _ (.there _ (.here _)))))))))) | exact .there _ (.there _ (.there _ (.there _ (.there _ (.there _ (.there _ (.there _ (.there _ (.there _ (.there _ (.here _))))))))))))
          replace hs := hs.take (A := diskA 78 83 5 3 p2 t) (by first | exact .here _ | exact .there _ (.here _) | exact .there _ (.there _ (.here _)) | exact .there _ (.there _ (.there _ (.here _))) | exact .there _ (.there _ (.there _ (.there _ (.here _)))) | exact .there _ (.there _ (.there _ (.there _ (.there _ (.here _))))) | exact .there _ (.there _ (.there _ (.there _ (.there _ (.there _ (.here _)))))) | exact .there _ (.there _ (.there _ (.there _ (.there _ (.there _ (.there _ (.here _))))))) | exact .there _ (.there _ (.there _ (.there _ (.there _ (.there _ (.there _ (.there _ (.here _)))))))) | exact .there _ (.there _ (.there _ (.there _ (.there _ (.there _ (.there _ (.there _ (.there _ (.here _))))))))) | exact .there _ (.there _ (.there _ (.there _ (.there _ (.there _ (.there _ (.there _ (.there _ (.there _ (.here _)))))))))) | exact .there _ (.there _ (.there _ (.there _ (.there _ (.there _ (.there _ (.there _ (.there _ (.there _ (.there _ (.here _))))))))))))
          replace hs := hs.take (A := refA 90 94 5 3 q (csS s ops[i])) (by first | exact .here _ | exact .there _ (.here _) | exact .there _ (.there _ (.here _)) | exact .there _ (.there _ (.there _ (.here _))) | exact .there _ (.there _ (.there _ (.there _ (.here _)))) | exact .there _ (.there _ (.there _ (.there _ (.there _ (.here _))))) | exact .there _ (.there _ (.there _ (.there _ (.there _ (.there _ (.here _)))))) | exact .there _ (.there _ (.there _ (.there _ (.there _ (.there _ (.there _ (.here _))))))) | exact .there _ (.there _ (.there _ (.there _ (.there _ (.there _ (.there _ (.there _ (.here _)))))))) | exact .there _ (.there _ (.there _ (.there _ (.there _ (.there _ (.there _ (.there _ (.there _ (.here _))))))))) | exact .there _ (.there _ (.there _ (.there _ (.there _ (.there _ (.there _ (.there _ (.there _ (.there _ (.here _)))))))))) | exact .there _ (.there _ (.there _ (.there _ (.there _ (.there _ (.there _ (.there _ (.there _ (.there _ (.there _ (.here _))))))))))))
          replace hs := hs.take (A := diskA 78 83 5 3 p (csS s ops[i])) (by first | exact .here _ | exact .there _ (.here _) | exact .there _ (.there _ (.here _)) | exact .there _ (.there _ (.there _ (.here _))) | exact .there _ (.there _ (.there _ (.there _ (.here _)))) | exact .there _ (.there _ (.there _ (.there _ (.there _ (.here _))))) | exact .there _ (.there _ (.there _ (.there _ (.there _ (.there _ (.here _)))))) | exact .there _ (.there _ (.there _ (.there _ (.there _ (.there _ (.there _ (.here _))))))) | exact .there _ (.there _ (.there _ (.there _ (.there _ (.there _ (.there _ (.there _ (.here _)))))))) | exact .there _ (.there _ (.there _ (.there _ (.there _ (.there _ (.there _ (.there _ (.there _ (.here _))))))))) | exact .there _ (.there _ (.there _ (.there _ (.there _ (.there _ (.there _ (.there _ (.there _ (.there _ (.here _)))))))))) | exact .there _ (.there _ (.there _ (.there _ (.there _ (.there _ (.there _ (.there _ (.there _ (.there _ (.there _ (.here _))))))))))))
          have hs9 := hs
          have ho9 := csS_ok ho hg.b1.2
          have hb9 := csS_b ho hb ops[i]
          refine ⟨_, rfl, ?_⟩; clear hf a; intro a hf
          refine s_a hf rfl ?_; clear hf a; intro a hf
          refine s_nil ?_
          refine then_n ?_
          refine wp_seq ?_
          refine wp_region_lit ?_
          refine s_m hf rfl ?_; clear hf a; intro a hf
          refine s_v hf (x_not (hf.eval rfl)) ?_; clear hf a; intro a hf
          refine s_m hf rfl ?_; clear hf a; intro a hf
          replace hf := hf.now (k := 50) (v' := .bool false) rfl (congrArg Value.bool (by first | rfl | simp))
          refine s_do hf (wanted_of hf rfl rfl rfl) (.value (x_move (hf.eval rfl) _) ?_); clear hf a; intro a hf
          refine s_do hf (wanted_of hf rfl rfl rfl) (.value (x_not (hf.eval rfl) _) ?_); clear hf a; intro a hf
          refine s_v hf (x_pick_f (hf.eval rfl) (hf.eval rfl)) ?_; clear hf a; intro a hf
          refine s_nil ?_
          refine then_n ?_
          refine c_cond_f hf rfl (by first | rfl | simp) ?_
          refine wp_skip ?_
          refine then_n ?_
          exact ⟨_, ⟨_, rfl, ho9, hb9, hs9⟩, hf.sub ⟨rfl, rfl, rfl, rfl, rfl, rfl, rfl, rfl, rfl, rfl, rfl, rfl, rfl, rfl, rfl, rfl, rfl, trivial⟩⟩
        · simp only [decide_eq_true_eq, decide_eq_false_iff_not, Bool.not_eq_true', Bool.not_eq_false', Bool.not_eq_true, Int.not_lt, Int.not_le] at hi1
          have ho9 := ho
          have hb9 := hb.up (Nat.le_succ i)
          have hs9 := hs
          refine wp_skip ?_
          refine then_n ?_
          exact ⟨_, ⟨_, rfl, ho9, hb9, hs9⟩, hf.sub ⟨rfl, rfl, rfl, rfl, rfl, rfl, rfl, rfl, rfl, rfl, rfl, rfl, rfl, rfl, rfl, rfl, rfl, trivial⟩⟩
      · clear hf hs a
        rintro M a w ⟨s, rfl, ho, hb, hs⟩ hf
        refine wp_seq ?_
        refine wp_region_lit ?_
        refine s_m hf rfl ?_; clear hf a; intro a hf
        refine s_m hf rfl ?_; clear hf a; intro a hf
        refine s_v hf (x_len Try.underlying58 (hf.eval rfl)) ?_; clear hf a; intro a hf
        refine s_v hf (x_bin (hf.eval rfl) (hf.eval rfl) (r_lt _ _ _ _)) ?_; clear hf a; intro a hf
        refine s_nil ?_
        refine then_n ?_
        refine c_cond hf rfl (fun hi3 => ?_) (fun hi3 => ?_)
        · simp only [decide_eq_true_eq, decide_eq_false_iff_not, Bool.not_eq_true', Bool.not_eq_false', Bool.not_eq_true, Int.not_lt, Int.not_le] at hi3
          have hlt : i < opt.length := by omega
          obtain ⟨atc, rfl⟩ := hrotc.some (by omega)
          have hg := hogtc _ (List.getElem_mem hlt)
          refine wp_seq ?_
          refine wp_region_lit ?_
          refine s_m hf rfl ?_; clear hf a; intro a hf
          refine s_m hf rfl ?_; clear hf a; intro a hf
          refine s_m hf rfl ?_; clear hf a; intro a hf
          refine s_m hf rfl ?_; clear hf a; intro a hf
          refine s_v hf (x_indexAddr sl58 (hf.eval rfl) (hf.eval rfl) (by omega) (by omega)) ?_; clear hf a; intro a hf
          refine s_r hf (x_loadS (f := opF) ag42 (fun _ => rfl) (hs.old hrotc) (hf.eval rfl) (by simpa using hlt)) ?_; clear hf a; intro a hf
          replace hs := hs.take (A := refA 90 94 5 3 q2 t) (by first | exact .here _ | exact .there _ (.here _) | exact .there _ (.there _ (.here _)) | exact .there _ (.there _ (.there _ (.here _))) | exact .there _ (.there _ (.there _ (.there _ (.here _)))) | exact .there _ (.there _ (.there _ (.there _ (.there _ (.here _))))) | exact .there _ (.there _ (.there _ (.there _ (.there _ (.there _ (.here _)))))) | exact .there _ (.there _ (.there _ (.there _ (.there _ (.there _ (.there _ (.here _))))))) | exact .there _ (.there _ (.there _ (.there _ (.there _ (.there _ (.there _ (.there _ (.here _)))))))) | exact .there _ (.there _ (.there _ (.there _ (.there _ (.there _ (.there _ (.there _ (.there _ (.here _))))))))) | exact .there _ (.there _ (.there _ (.there _ (.there _ (.there _ (.there _ (.there _ (.there _ (.there _ (.here _)))))))))) | exact .there _ (.there _ (.there _ (.there _ (.there _ (.there _ (.there _ (.there _ (.there _ (.there _ (.there _ (.here _))))))))))))
          replace hs := hs.take (A := diskA 78 83 5 3 p2 t) (by first | exact .here _ | exact .there _ (.here _) | exact .there _ (.there _ (.here _)) | exact .there _ (.there _ (.there _ (.here _))) | exact .there _ (.there _ (.there _ (.there _ (.here _)))) | exact .there _ (.there _ (.there _ (.there _ (.there _ (.here _))))) | exact .there _ (.there _ (.there _ (.there _ (.there _ (.there _ (.here _)))))) | exact .there _ (.there _ (.there _ (.there _ (.there _ (.there _ (.there _ (.here _))))))) | exact .there _ (.there _ (.there _ (.there _ (.there _ (.there _ (.there _ (.there _ (.here _)))))))) | exact .there _ (.there _ (.there _ (.there _ (.there _ (.there _ (.there _ (.there _ (.there _ (.here _))))))))) | exact .there _ (.there _ (.there _ (.there _ (.there _ (.there _ (.there _ (.there _ (.there _ (.there _ (.here _)))))))))) | exact .there _ (.there _ (.there _ (.there _ (.there _ (.there _ (.there _ (.there _ (.there _ (.there _ (.there _ (.here _))))))))))))
          refine s_do hf rfl (y_call (hf.eval rfl) (hf.evals rfl) Try.call47 ((changes_spec _ _ _ p2 q2 t hs opt[i] (Rdy.old hg.data) hg.len ho2 (hb2.up (by omega))).mono ?_))
          rintro e w1 ⟨rfl, hs⟩
          refine ⟨_, rfl, ?_⟩; clear hf a; intro a hf
          refine s_a hf rfl ?_; clear hf a; intro a hf
          refine s_nil ?_
          refine then_n ?_
          refine wp_seq ?_
          refine wp_region_lit ?_
          refine s_m hf rfl ?_; clear hf a; intro a hf
          refine s_m hf rfl ?_; clear hf a; intro a hf
          refine s_m hf rfl ?_; clear hf a; intro a hf
          refine s_m hf rfl ?_; clear hf a; intro a hf
          refine s_v hf (x_indexAddr sl58 (hf.eval rfl) (hf.eval rfl) (by omega) (by omega)) ?_; clear hf a; intro a hf
          refine s_r hf (x_loadS (f := opF) ag42 (fun _ => rfl) (hs.old hrotc) (hf.eval rfl) (by simpa using hlt)) ?_; clear hf a; intro a hf
          replace hs := hs.take (A := refA 90 94 5 3 q2 (csS t opt[i])) (by first | exact .here _ | exact .there _ (.here _) | exact .there _ (.there _ (.here _)) | exact .there _ (.there _ (.there _ (.here _))) | exact .there _ (.there _ (.there _ (.there _ (.here _)))) | exact .there _ (.there _ (.there _ (.there _ (.there _ (.here _))))) | exact .there _ (.there _ (.there _ (.there _ (.there _ (.there _ (.here _)))))) | exact .there _ (.there _ (.there _ (.there _ (.there _ (.there _ (.there _ (.here _))))))) | exact .there _ (.there _ (.there _ (.there _ (.there _ (.there _ (.there _ (.there _ (.here _)))))))) | exact .there _ (.there _ (.there _ (.there _ (.there _ (.there _ (.there _ (.there _ (.there _ (.here _))))))))) | exact .there _ (.there _ (.there _ (.there _ (.there _ (.there _ (.there _ (.there _ (.there _ (.there _ (.here _)))))))))) | exact .there _ (.there _ (.there _ (.there _ (.there _ (.there _ (.there _ (.there _ (.there _ (.there _ (.there _ (.here _))))))))))))
          replace hs := hs.take (A := diskA 78 83 5 3 p2 (csS t opt[i])) (by first | exact .here _ | exact .there _ (.here _) | exact .there _ (.there _ (.here _)) | exact .there _ (.there _ (.there _ (.here _))) | exact .there _ (.there _ (.there _ (.there _ (.here _)))) | exact .there _ (.there _ (.there _ (.there _ (.there _ (.here _))))) | exact .there _ (.there _ (.there _ (.there _ (.there _ (.there _ (.here _)))))) | exact .there _ (.there _ (.there _ (.there _ (.there _ (.there _ (.there _ (.here _))))))) | exact .there _ (.there _ (.there _ (.there _ (.there _ (.there _ (.there _ (.there _ (.here _)))))))) | exact .there _ (.there _ (.there _ (.there _ (.there _ (.there _ (.there _ (.there _ (.there _ (.here _))))))))) | exact .there _ (.there _ (.there _ (.there _ (.there _ (.there _ (.there _ (.there _ (.there _ (.there _ (.here _)))))))))) | exact .there _ (.there _ (.there _ (.there _ (.there _ (.there _ (.there _ (.there _ (.there _ (.there _ (.there _ (.here _))))))))))))
          refine s_do hf rfl (y_call (hf.eval rfl) (hf.evals rfl) Try.call51 ((asks_spec _ _ _ p2 q2 _ hs opt[i] (csS_ok ho2 hg.b1.2)).mono ?_))
          rintro e w1 ⟨rfl, hs⟩
          replace hs := hs.take (A := refA 90 94 5 3 q2 (csS t opt[i])) (by first | exact .here _ | exact .there _ (.here _) | exact .there _ (.there _ (.here _)) | exact .there _ (.there _ (.there _ (.here _))) | exact .there _ (.there _ (.there _ (.there _ (.here _)))) | exact .there _ (.there _ (.there _ (.there _ (.there _ (.here _))))) | exact .there _ (.there _ (.there _ (.there _ (.there _ (.there _ (.here _)))))) | exact .there _ (.there _ (.there _ (.there _ (.there _ (.there _ (.there _ (.here _))))))) | exact .there _ (.there _ (.there _ (.there _ (.there _ (.there _ (.there _ (.there _ (.here _)))))))) | exact .there _ (.there _ (.there _ (.there _ (.there _ (.there _ (.there _ (.there _ (.there _ (.here _))))))))) | exact .there _ (.there _ (.there _ (.there _ (.there _ (.there _ (.there _ (.there _ (.there _ (.there _ (.here _)))))))))) | exact .there _ (.there _ (.there _ (.there _ (.there _ (.there _ (.there _ (.there _ (.there _ (.there _ (.there _ (.here _))))))))))))
          replace hs := hs.take (A := diskA 78 83 5 3 p2 (csS t opt[i])) (by first | exact .here _ | exact .there _ (.here _) | exact .there _ (.there _ (.here _)) | exact .there _ (.there _ (.there _ (.here _))) | exact .there _ (.there _ (.there _ (.there _ (.here _)))) | exact .there _ (.there _ (.there _ (.there _ (.there _ (.here _))))) | exact .there _ (.there _ (.there _ (.there _ (.there _ (.there _ (.here _)))))) | exact .there _ (.there _ (.there _ (.there _ (.there _ (.there _ (.there _ (.here _))))))) | exact .there _ (.there _ (.there _ (.there _ (.there _ (.there _ (.there _ (.there _ (.here _)))))))) | exact .there _ (.there _ (.there _ (.there _ (.there _ (.there _ (.there _ (.there _ (.there _ (.here _))))))))) | exact .there _ (.there _ (.there _ (.there _ (.there _ (.there _ (.there _ (.there _ (.there _ (.there _ (.here _)))))))))) | exact .there _ (.there _ (.there _ (.there _ (.there _ (.there _ (.there _ (.there _ (.there _ (.there _ (.there _ (.here _))))))))))))
          replace hs := hs.take (A := refA 90 94 5 3 q s) (by first | exact .here _ | exact .there _ (.here _) | exact .there _ (.there _ (.here _)) | exact .there _ (.there _ (.there _ (.here _))) | exact .there _ (.there _ (.there _ (.there _ (.here _)))) | exact .there _ (.there _ (.there _ (.there _ (.there _ (.here _))))) | exact .there _ (.there _ (.there _ (.there _ (.there _ (.there _ (.here _)))))) | exact .there _ (.there _ (.there _ (.there _ (.there _ (.there _ (.there _ (.here _))))))) | exact .there _ (.there _ (.there _ (.there _ (.there _ (.there _ (.there _ (.there _ (.here _)))))))) | exact .there _ (.there _ (.there _ (.there _ (.there _ (.there _ (.there _ (.there _ (.there _ (.here _))))))))) | exact .there _ (.there _ (.there _ (.there _ (.there _ (.there _ (.there _ (.there _ (.there _ (.there _ (.here _)))))))))) | exact .there _ (.there _ (.there _ (.there _ (.there _ (.there _ (.there _ (.there _ (.there _ (.there _ (.there _ (.here _))))))))))))
          replace hs := hs.take (A := diskA 78 83 5 3 p s) (by first | exact .here _ | exact .there _ (.here _) | exact .there _ (.there _ (.here _)) | exact .there _ (.there _ (.there _ (.here _))) | exact .there _ (.there _ (.there _ (.there _ (.here _)))) | exact .there _ (.there _ (.there _ (.there _ (.there _ (.here _))))) | exact .there _ (.there _ (.there _ (.there _ (.there _ (.there _ (.here _)))))) | exact .there _ (.there _ (.there _ (.there _ (.there _ (.there _ (.there _ (.here _))))))) | exact .there _ (.there _ (.there _ (.there _ (.there _ (.there _ (.there _ (.there _ (.here _)))))))) | exact .there _ (.there _ (.there _ (.there _ (.there _ (.there _ (.there _ (.there _ (.there _ (.here _))))))))) | exact .there _ (.there _ (.there _ (.there _ (.there _ (.there _ (.there _ (.there _ (.there _ (.there _ (.here _)))))))))) | exact .there _ (.there _ (.there _ (.there _ (.there _ (.there _ (.there _ (.there _ (.there _ (.there _ (.there _ (.here _))))))))))))
          have hs9 := hs
          have ho9 := csS_ok ho2 hg.b1.2
          have hb9 := csS_b ho2 hb2 opt[i]
          refine ⟨_, rfl, ?_⟩; clear hf a; intro a hf
          refine s_a hf rfl ?_; clear hf a; intro a hf
          refine s_nil ?_
          refine then_n ?_
          refine wp_seq ?_
          refine wp_region_lit ?_
          refine s_m hf rfl ?_; clear hf a; intro a hf
          refine s_v hf (x_not (hf.eval rfl)) ?_; clear hf a; intro a hf
          refine s_m hf rfl ?_; clear hf a; intro a hf
          replace hf := hf.now (k := 74) (v' := .bool false) rfl (congrArg Value.bool (by first | rfl | simp))
          refine s_do hf (wanted_of hf rfl rfl rfl) (.value (x_move (hf.eval rfl) _) ?_); clear hf a; intro a hf
          refine s_do hf (wanted_of hf rfl rfl rfl) (.value (x_not (hf.eval rfl) _) ?_); clear hf a; intro a hf
          refine s_v hf (x_pick_f (hf.eval rfl) (hf.eval rfl)) ?_; clear hf a; intro a hf
          refine s_nil ?_
          refine then_n ?_
          refine c_cond_f hf rfl (by first | rfl | simp) ?_
          refine wp_skip ?_
          refine blk_n ?_
          refine then_n ?_
          refine wp_region_lit ?_
          refine s_m hf rfl ?_; clear hf a; intro a hf
          refine s_v hf (x_bin (hf.eval rfl) (hf.eval rfl) (r_addi _ (by omega) (by omega))) ?_; clear hf a; intro a hf
          refine s_a hf rfl ?_; clear hf a; intro a hf
          refine s_nil ?_
          exact ⟨_, _, ⟨i + 1, s, _, rfl, rfl, by omega, ho, hb, ho9, hb9, hs9⟩, by omega, hf.sub ⟨rfl, rfl, rfl, rfl, rfl, rfl, rfl, trivial⟩⟩
        · simp only [decide_eq_true_eq, decide_eq_false_iff_not, Bool.not_eq_true', Bool.not_eq_false', Bool.not_eq_true, Int.not_lt, Int.not_le] at hi3
          have ho9 := ho2
          have hb9 := hb2.up (Nat.le_succ i)
          have hs9 := hs
          refine wp_skip ?_
          refine blk_n ?_
          refine then_n ?_
          refine wp_region_lit ?_
          refine s_m hf rfl ?_; clear hf a; intro a hf
          refine s_v hf (x_bin (hf.eval rfl) (hf.eval rfl) (r_addi _ (by omega) (by omega))) ?_; clear hf a; intro a hf
          refine s_a hf rfl ?_; clear hf a; intro a hf
          refine s_nil ?_
          exact ⟨_, _, ⟨i + 1, s, _, rfl, rfl, by omega, ho, hb, ho9, hb9, hs9⟩, by omega, hf.sub ⟨rfl, rfl, rfl, rfl, rfl, rfl, rfl, trivial⟩⟩
    · simp only [decide_eq_true_eq, decide_eq_false_iff_not, Bool.not_eq_true', Bool.not_eq_false', Bool.not_eq_true, Int.not_lt, Int.not_le] at hi0
      have hn1 := ho.now
      have hn2 := ho.room1
      have hn3 := ho2.now
      have hn4 := ho2.room1
      refine wp_exit ?_
      refine then_x ?_
      refine then_x ?_
      refine blk_x ?_
      refine then_n ?_
      refine wp_seq ?_
      refine wp_region_lit ?_
      refine s_m hf rfl ?_; clear hf a; intro a hf
      replace hs := hs.take (A := diskA 78 83 5 3 p s) (by first | exact .here _ | exact .there _ (.here _) | exact .there _ (.there _ (.here _)) | exact .there _ (.there _ (.there _ (.here _))) | exact .there _ (.there _ (.there _ (.there _ (.here _)))) | exact .there _ (.there _ (.there _ (.there _ (.there _ (.here _))))) | exact .there _ (.there _ (.there _ (.there _ (.there _ (.there _ (.here _)))))) | exact .there _ (.there _ (.there _ (.there _ (.there _ (.there _ (.there _ (.here _))))))) | exact .there _ (.there _ (.there _ (.there _ (.there _ (.there _ (.there _ (.there _ (.here _)))))))) | exact .there _ (.there _ (.there _ (.there _ (.there _ (.there _ (.there _ (.there _ (.there _ (.here _))))))))) | exact .there _ (.there _ (.there _ (.there _ (.there _ (.there _ (.there _ (.there _ (.there _ (.there _ (.here _)))))))))) | exact .there _ (.there _ (.there _ (.there _ (.there _ (.there _ (.there _ (.there _ (.there _ (.there _ (.there _ (.here _))))))))))))
      refine s_do hf rfl (y_call (hf.eval rfl) (hf.evals rfl) Try.call19 ((dImage_spec _ _ _ p s hs (by omega)).mono ?_))
      rintro e w1 ⟨e1, fe1, rfl, hs⟩
      refine ⟨_, rfl, ?_⟩; clear hf a; intro a hf
      refine s_m hf rfl ?_; clear hf a; intro a hf
      replace hs := hs.take (A := refA 90 94 5 3 q s) (by first | exact .here _ | exact .there _ (.here _) | exact .there _ (.there _ (.here _)) | exact .there _ (.there _ (.there _ (.here _))) | exact .there _ (.there _ (.there _ (.there _ (.here _)))) | exact .there _ (.there _ (.there _ (.there _ (.there _ (.here _))))) | exact .there _ (.there _ (.there _ (.there _ (.there _ (.there _ (.here _)))))) | exact .there _ (.there _ (.there _ (.there _ (.there _ (.there _ (.there _ (.here _))))))) | exact .there _ (.there _ (.there _ (.there _ (.there _ (.there _ (.there _ (.there _ (.here _)))))))) | exact .there _ (.there _ (.there _ (.there _ (.there _ (.there _ (.there _ (.there _ (.there _ (.here _))))))))) | exact .there _ (.there _ (.there _ (.there _ (.there _ (.there _ (.there _ (.there _ (.there _ (.there _ (.here _)))))))))) | exact .there _ (.there _ (.there _ (.there _ (.there _ (.there _ (.there _ (.there _ (.there _ (.there _ (.there _ (.here _))))))))))))
      refine s_do hf rfl (y_call (hf.eval rfl) (hf.evals rfl) Try.call49 ((rImage_spec _ _ _ q s hs (by omega)).mono ?_))
      rintro e w1 ⟨e2, fe2, rfl, hs⟩
      refine ⟨_, rfl, ?_⟩; clear hf a; intro a hf
      replace hs := hs.take (A := slB 5 (.slice e2 s.now.length fe2) s.now) (by first | exact .here _ | exact .there _ (.here _) | exact .there _ (.there _ (.here _)) | exact .there _ (.there _ (.there _ (.here _))) | exact .there _ (.there _ (.there _ (.there _ (.here _)))) | exact .there _ (.there _ (.there _ (.there _ (.there _ (.here _))))) | exact .there _ (.there _ (.there _ (.there _ (.there _ (.there _ (.here _)))))) | exact .there _ (.there _ (.there _ (.there _ (.there _ (.there _ (.there _ (.here _))))))) | exact .there _ (.there _ (.there _ (.there _ (.there _ (.there _ (.there _ (.there _ (.here _)))))))) | exact .there _ (.there _ (.there _ (.there _ (.there _ (.there _ (.there _ (.there _ (.there _ (.here _))))))))) | exact .there _ (.there _ (.there _ (.there _ (.there _ (.there _ (.there _ (.there _ (.there _ (.there _ (.here _)))))))))) | exact .there _ (.there _ (.there _ (.there _ (.there _ (.there _ (.there _ (.there _ (.there _ (.there _ (.there _ (.here _))))))))))))
      replace hs := hs.take (A := slB 5 (.slice e1 s.now.length fe1) s.now) (by first | exact .here _ | exact .there _ (.here _) | exact .there _ (.there _ (.here _)) | exact .there _ (.there _ (.there _ (.here _))) | exact .there _ (.there _ (.there _ (.there _ (.here _)))) | exact .there _ (.there _ (.there _ (.there _ (.there _ (.here _))))) | exact .there _ (.there _ (.there _ (.there _ (.there _ (.there _ (.here _)))))) | exact .there _ (.there _ (.there _ (.there _ (.there _ (.there _ (.there _ (.here _))))))) | exact .there _ (.there _ (.there _ (.there _ (.there _ (.there _ (.there _ (.there _ (.here _)))))))) | exact .there _ (.there _ (.there _ (.there _ (.there _ (.there _ (.there _ (.there _ (.there _ (.here _))))))))) | exact .there _ (.there _ (.there _ (.there _ (.there _ (.there _ (.there _ (.there _ (.there _ (.there _ (.here _)))))))))) | exact .there _ (.there _ (.there _ (.there _ (.there _ (.there _ (.there _ (.there _ (.there _ (.there _ (.there _ (.here _))))))))))))
      refine s_do hf rfl (y_call (hf.eval rfl) (hf.evals rfl) Try.call24 ((same_spec _ _ _ s.now (hs.rdB (.here _) fun h => slB_rd) _ _ s.now (hs.rdB (.there _ (.here _)) fun h => slB_rd) (by omega)).mono ?_))
      rintro e w1 ⟨rfl, hk⟩
      replace hs := hs.ext hk
      refine ⟨_, rfl, ?_⟩; clear hf a; intro a hf
      refine s_m hf rfl ?_; clear hf a; intro a hf
      replace hf := hf.now (k := 83) (v' := .bool true) rfl (congrArg Value.bool (by simp))
      refine s_do hf (wanted_of hf rfl rfl rfl) (.value (x_move (hf.eval rfl) _) ?_); clear hf a; intro a hf
      replace hs := hs.take (A := diskA 78 83 5 3 p2 t) (by first | exact .here _ | exact .there _ (.here _) | exact .there _ (.there _ (.here _)) | exact .there _ (.there _ (.there _ (.here _))) | exact .there _ (.there _ (.there _ (.there _ (.here _)))) | exact .there _ (.there _ (.there _ (.there _ (.there _ (.here _))))) | exact .there _ (.there _ (.there _ (.there _ (.there _ (.there _ (.here _)))))) | exact .there _ (.there _ (.there _ (.there _ (.there _ (.there _ (.there _ (.here _))))))) | exact .there _ (.there _ (.there _ (.there _ (.there _ (.there _ (.there _ (.there _ (.here _)))))))) | exact .there _ (.there _ (.there _ (.there _ (.there _ (.there _ (.there _ (.there _ (.there _ (.here _))))))))) | exact .there _ (.there _ (.there _ (.there _ (.there _ (.there _ (.there _ (.there _ (.there _ (.there _ (.here _)))))))))) | exact .there _ (.there _ (.there _ (.there _ (.there _ (.there _ (.there _ (.there _ (.there _ (.there _ (.there _ (.here _))))))))))))
      refine s_do hf (wanted_of hf rfl rfl rfl) (y_call (hf.eval rfl) (hf.evals rfl) Try.call19 ((dImage_spec _ _ _ p2 t hs (by omega)).mono ?_))
      rintro e w1 ⟨e3, fe3, rfl, hs⟩
      refine ⟨_, rfl, ?_⟩; clear hf a; intro a hf
      refine s_do hf (wanted_of hf rfl rfl rfl) (.value (x_move (hf.eval rfl) _) ?_); clear hf a; intro a hf
      replace hs := hs.take (A := refA 90 94 5 3 q2 t) (by first | exact .here _ | exact .there _ (.here _) | exact .there _ (.there _ (.here _)) | exact .there _ (.there _ (.there _ (.here _))) | exact .there _ (.there _ (.there _ (.there _ (.here _)))) | exact .there _ (.there _ (.there _ (.there _ (.there _ (.here _))))) | exact .there _ (.there _ (.there _ (.there _ (.there _ (.there _ (.here _)))))) | exact .there _ (.there _ (.there _ (.there _ (.there _ (.there _ (.there _ (.here _))))))) | exact .there _ (.there _ (.there _ (.there _ (.there _ (.there _ (.there _ (.there _ (.here _)))))))) | exact .there _ (.there _ (.there _ (.there _ (.there _ (.there _ (.there _ (.there _ (.there _ (.here _))))))))) | exact .there _ (.there _ (.there _ (.there _ (.there _ (.there _ (.there _ (.there _ (.there _ (.there _ (.here _)))))))))) | exact .there _ (.there _ (.there _ (.there _ (.there _ (.there _ (.there _ (.there _ (.there _ (.there _ (.there _ (.here _))))))))))))
      refine s_do hf (wanted_of hf rfl rfl rfl) (y_call (hf.eval rfl) (hf.evals rfl) Try.call49 ((rImage_spec _ _ _ q2 t hs (by omega)).mono ?_))
      rintro e w1 ⟨e4, fe4, rfl, hs⟩
      refine ⟨_, rfl, ?_⟩; clear hf a; intro a hf
      replace hs := hs.take (A := slB 5 (.slice e4 t.now.length fe4) t.now) (by first | exact .here _ | exact .there _ (.here _) | exact .there _ (.there _ (.here _)) | exact .there _ (.there _ (.there _ (.here _))) | exact .there _ (.there _ (.there _ (.there _ (.here _)))) | exact .there _ (.there _ (.there _ (.there _ (.there _ (.here _))))) | exact .there _ (.there _ (.there _ (.there _ (.there _ (.there _ (.here _)))))) | exact .there _ (.there _ (.there _ (.there _ (.there _ (.there _ (.there _ (.here _))))))) | exact .there _ (.there _ (.there _ (.there _ (.there _ (.there _ (.there _ (.there _ (.here _)))))))) | exact .there _ (.there _ (.there _ (.there _ (.there _ (.there _ (.there _ (.there _ (.there _ (.here _))))))))) | exact .there _ (.there _ (.there _ (.there _ (.there _ (.there _ (.there _ (.there _ (.there _ (.there _ (.here _)))))))))) | exact .there _ (.there _ (.there _ (.there _ (.there _ (.there _ (.there _ (.there _ (.there _ (.there _ (.there _ (.here _))))))))))))
      replace hs := hs.take (A := slB 5 (.slice e3 t.now.length fe3) t.now) (by first | exact .here _ | exact .there _ (.here _) | exact .there _ (.there _ (.here _)) | exact .there _ (.there _ (.there _ (.here _))) | exact .there _ (.there _ (.there _ (.there _ (.here _)))) | exact .there _ (.there _ (.there _ (.there _ (.there _ (.here _))))) | exact .there _ (.there _ (.there _ (.there _ (.there _ (.there _ (.here _)))))) | exact .there _ (.there _ (.there _ (.there _ (.there _ (.there _ (.there _ (.here _))))))) | exact .there _ (.there _ (.there _ (.there _ (.there _ (.there _ (.there _ (.there _ (.here _)))))))) | exact .there _ (.there _ (.there _ (.there _ (.there _ (.there _ (.there _ (.there _ (.there _ (.here _))))))))) | exact .there _ (.there _ (.there _ (.there _ (.there _ (.there _ (.there _ (.there _ (.there _ (.there _ (.here _)))))))))) | exact .there _ (.there _ (.there _ (.there _ (.there _ (.there _ (.there _ (.there _ (.there _ (.there _ (.there _ (.here _))))))))))))
      refine s_do hf (wanted_of hf rfl rfl rfl) (y_call (hf.eval rfl) (hf.evals rfl) Try.call24 ((same_spec _ _ _ t.now (hs.rdB (.here _) fun h => slB_rd) _ _ t.now (hs.rdB (.there _ (.here _)) fun h => slB_rd) (by omega)).mono ?_))
      rintro e w1 ⟨rfl, hk⟩
      replace hs := hs.ext hk
      refine ⟨_, rfl, ?_⟩; clear hf a; intro a hf
      refine s_v hf (x_pick_t (hf.eval rfl) (hf.eval rfl)) ?_; clear hf a; intro a hf
      refine s_a hf rfl ?_; clear hf a; intro a hf
      refine s_nil ?_
      refine then_n ?_
      refine wp_ret ?_
      refine r_1 hf Try.results46 rfl ?_
      exact ⟨by simp, hs.kept⟩

theorem diskTwoInTurns_b1_b1 (w0 : World) (a1 : Option Addr) (c1 : Nat) (image : List UInt8) (hr1 : RdB (hp w0) (.slice a1 image.length c1) image) (hl1 : image.length ≤ 140737488351232) (cap : Int) (a2 : Option Addr) (c2 : Nat) (other : List UInt8) (hr2 : RdB (hp w0) (.slice a2 other.length c2) other) (hl2 : other.length ≤ 140737488351232) (room : Int) (hc : cap < 0 ∨ 16777216 < cap) (hcb : room < 0 ∨ 16777216 < room) (asc : Option Addr) (csc : Nat) (ops : List DOp) (hrosc : RdS opF 7 (hp w0) (.slice asc ops.length csc) ops) (hogsc : ∀ o ∈ ops, DOpG (hp w0) o) (hlosc : ops.length ≤ 1048576) (atc : Option Addr) (ctc : Nat) (opt : List DOp) (hrotc : RdS opF 7 (hp w0) (.slice atc opt.length ctc) opt) (hogtc : ∀ o ∈ opt, DOpG (hp w0) o) (hlotc : opt.length ≤ 1048576) : Calls Try.prog 14 #[.slice a1 image.length c1, .int .i64 cap, .slice asc ops.length csc, .slice a2 other.length c2, .int .i64 room, .slice atc opt.length ctc] w0 fun e w' => e = .returned (.bool true) ∧ Kept w0 w' None_ := by
  have hs := St.start w0 None_
  refine c_enter (N := 52) Try.func14 rfl Try.ntmps14 (by simp) ?_
  intro a hf
  refine wp_seq ?_
  refine wp_region_lit ?_
  refine s_a hf rfl ?_; clear hf a; intro a hf
  refine s_nil ?_
  refine then_n ?_
  refine wp_seq ?_
  refine wp_region_lit ?_
  refine s_m hf rfl ?_; clear hf a; intro a hf
  refine s_m hf rfl ?_; clear hf a; intro a hf
  refine s_do hf rfl (y_call (hf.eval rfl) (hf.evals rfl) Try.call18 ((made_b1 _ a1 c1 image (hs.oldB hr1) hl1 cap hc).mono ?_))
  rintro e w1 ⟨rfl, hk⟩
  replace hs := hs.ext hk
  refine ⟨_, rfl, ?_⟩; clear hf a; intro a hf
  refine s_m hf rfl ?_; clear hf a; intro a hf
  refine s_v hf (x_extract (hf.eval rfl) rfl) ?_; clear hf a; intro a hf
  refine s_v hf (x_extract (hf.eval rfl) rfl) ?_; clear hf a; intro a hf
  refine s_v hf (x_extract (hf.eval rfl) rfl) ?_; clear hf a; intro a hf
  refine s_a hf rfl ?_; clear hf a; intro a hf
  refine s_a hf rfl ?_; clear hf a; intro a hf
  refine s_a hf rfl ?_; clear hf a; intro a hf
  refine s_nil ?_
  refine then_n ?_
  refine wp_seq ?_
  refine wp_region_lit ?_
  refine s_m hf rfl ?_; clear hf a; intro a hf
  refine s_m hf rfl ?_; clear hf a; intro a hf
  refine s_do hf rfl (y_call (hf.eval rfl) (hf.evals rfl) Try.call18 ((made_b1 _ a2 c2 other (hs.oldB hr2) hl2 room hcb).mono ?_))
  rintro e w1 ⟨rfl, hk⟩
  replace hs := hs.ext hk
  refine ⟨_, rfl, ?_⟩; clear hf a; intro a hf
  refine s_m hf rfl ?_; clear hf a; intro a hf
  refine s_v hf (x_extract (hf.eval rfl) rfl) ?_; clear hf a; intro a hf
  refine s_v hf (x_extract (hf.eval rfl) rfl) ?_; clear hf a; intro a hf
  refine s_v hf (x_extract (hf.eval rfl) rfl) ?_; clear hf a; intro a hf
  refine s_a hf rfl ?_; clear hf a; intro a hf
  refine s_a hf rfl ?_; clear hf a; intro a hf
  refine s_a hf rfl ?_; clear hf a; intro a hf
  refine s_nil ?_
  refine then_n ?_
  refine wp_seq ?_
  refine wp_seq ?_
  refine wp_region_lit ?_
  refine s_m hf rfl ?_; clear hf a; intro a hf
  refine s_v hf (x_not (hf.eval rfl)) ?_; clear hf a; intro a hf
  refine s_m hf rfl ?_; clear hf a; intro a hf
  replace hf := hf.now (k := 35) (v' := .bool false) rfl (congrArg Value.bool rfl)
  refine s_do hf (wanted_of hf rfl rfl rfl) (.value (x_move (hf.eval rfl) _) ?_); clear hf a; intro a hf
  refine s_do hf (wanted_of hf rfl rfl rfl) (.value (x_not (hf.eval rfl) _) ?_); clear hf a; intro a hf
  refine s_v hf (x_pick_f (hf.eval rfl) (hf.eval rfl)) ?_; clear hf a; intro a hf
  refine s_nil ?_
  refine then_n ?_
  refine c_cond_f hf rfl (by first | rfl | simp) ?_
  refine wp_skip ?_
  refine then_n ?_
  refine wp_seq ?_
  refine wp_seq ?_
  refine wp_region_lit ?_
  refine s_m hf rfl ?_; clear hf a; intro a hf
  refine s_v hf (x_eqNil Try.underlying24 (hf.eval rfl) (hf.eval rfl)) ?_; clear hf a; intro a hf
  refine s_m hf rfl ?_; clear hf a; intro a hf
  replace hf := hf.now (k := 41) (v' := .bool true) rfl (congrArg Value.bool rfl)
  refine s_pass hf rfl rfl ?_; clear hf a; intro a hf
  refine s_pass hf rfl rfl ?_; clear hf a; intro a hf
  refine s_v hf (x_pick_t (hf.eval rfl) (hf.eval rfl)) ?_; clear hf a; intro a hf
  refine s_nil ?_
  refine then_n ?_
  refine c_cond_t hf rfl (by first | rfl | simp) ?_
  refine wp_seq ?_
  refine wp_region_lit ?_
  refine s_a hf rfl ?_; clear hf a; intro a hf
  refine s_nil ?_
  refine then_n ?_
  refine wp_ret ?_
  refine then_r ?_
  refine r_1 hf Try.results14 rfl ?_
  exact ⟨rfl, hs.kept⟩

theorem diskTwoInTurns_b1_b2 (w0 : World) (a1 : Option Addr) (c1 : Nat) (image : List UInt8) (hr1 : RdB (hp w0) (.slice a1 image.length c1) image) (hl1 : image.length ≤ 140737488351232) (cap : Int) (a2 : Option Addr) (c2 : Nat) (other : List UInt8) (hr2 : RdB (hp w0) (.slice a2 other.length c2) other) (hl2 : other.length ≤ 140737488351232) (room : Int) (hc : cap < 0 ∨ 16777216 < cap) (hcb1 : 0 ≤ room) (hcb2 : room ≤ 16777216) (hcb3 : room < other.length) (asc : Option Addr) (csc : Nat) (ops : List DOp) (hrosc : RdS opF 7 (hp w0) (.slice asc ops.length csc) ops) (hogsc : ∀ o ∈ ops, DOpG (hp w0) o) (hlosc : ops.length ≤ 1048576) (atc : Option Addr) (ctc : Nat) (opt : List DOp) (hrotc : RdS opF 7 (hp w0) (.slice atc opt.length ctc) opt) (hogtc : ∀ o ∈ opt, DOpG (hp w0) o) (hlotc : opt.length ≤ 1048576) : Calls Try.prog 14 #[.slice a1 image.length c1, .int .i64 cap, .slice asc ops.length csc, .slice a2 other.length c2, .int .i64 room, .slice atc opt.length ctc] w0 fun e w' => e = .returned (.bool true) ∧ Kept w0 w' None_ := by
  have hs := St.start w0 None_
  refine c_enter (N := 52) Try.func14 rfl Try.ntmps14 (by simp) ?_
  intro a hf
  refine wp_seq ?_
  refine wp_region_lit ?_
  refine s_a hf rfl ?_; clear hf a; intro a hf
  refine s_nil ?_
  refine then_n ?_
  refine wp_seq ?_
  refine wp_region_lit ?_
  refine s_m hf rfl ?_; clear hf a; intro a hf
  refine s_m hf rfl ?_; clear hf a; intro a hf
  refine s_do hf rfl (y_call (hf.eval rfl) (hf.evals rfl) Try.call18 ((made_b1 _ a1 c1 image (hs.oldB hr1) hl1 cap hc).mono ?_))
  rintro e w1 ⟨rfl, hk⟩
  replace hs := hs.ext hk
  refine ⟨_, rfl, ?_⟩; clear hf a; intro a hf
  refine s_m hf rfl ?_; clear hf a; intro a hf
  refine s_v hf (x_extract (hf.eval rfl) rfl) ?_; clear hf a; intro a hf
  refine s_v hf (x_extract (hf.eval rfl) rfl) ?_; clear hf a; intro a hf
  refine s_v hf (x_extract (hf.eval rfl) rfl) ?_; clear hf a; intro a hf
  refine s_a hf rfl ?_; clear hf a; intro a hf
  refine s_a hf rfl ?_; clear hf a; intro a hf
  refine s_a hf rfl ?_; clear hf a; intro a hf
  refine s_nil ?_
  refine then_n ?_
  refine wp_seq ?_
  refine wp_region_lit ?_
  refine s_m hf rfl ?_; clear hf a; intro a hf
  refine s_m hf rfl ?_; clear hf a; intro a hf
  refine s_do hf rfl (y_call (hf.eval rfl) (hf.evals rfl) Try.call18 ((made_b2 _ a2 c2 other (hs.oldB hr2) hl2 room hcb1 hcb2 hcb3).mono ?_))
  rintro e w1 ⟨rfl, hk⟩
  replace hs := hs.ext hk
  refine ⟨_, rfl, ?_⟩; clear hf a; intro a hf
  refine s_m hf rfl ?_; clear hf a; intro a hf
  refine s_v hf (x_extract (hf.eval rfl) rfl) ?_; clear hf a; intro a hf
  refine s_v hf (x_extract (hf.eval rfl) rfl) ?_; clear hf a; intro a hf
  refine s_v hf (x_extract (hf.eval rfl) rfl) ?_; clear hf a; intro a hf
  refine s_a hf rfl ?_; clear hf a; intro a hf
  refine s_a hf rfl ?_; clear hf a; intro a hf
  refine s_a hf rfl ?_; clear hf a; intro a hf
  refine s_nil ?_
  refine then_n ?_
  refine wp_seq ?_
  refine wp_seq ?_
  refine wp_region_lit ?_
  refine s_m hf rfl ?_; clear hf a; intro a hf
  refine s_v hf (x_not (hf.eval rfl)) ?_; clear hf a; intro a hf
  refine s_m hf rfl ?_; clear hf a; intro a hf
  replace hf := hf.now (k := 35) (v' := .bool false) rfl (congrArg Value.bool rfl)
  refine s_do hf (wanted_of hf rfl rfl rfl) (.value (x_move (hf.eval rfl) _) ?_); clear hf a; intro a hf
  refine s_do hf (wanted_of hf rfl rfl rfl) (.value (x_not (hf.eval rfl) _) ?_); clear hf a; intro a hf
  refine s_v hf (x_pick_f (hf.eval rfl) (hf.eval rfl)) ?_; clear hf a; intro a hf
  refine s_nil ?_
  refine then_n ?_
  refine c_cond_f hf rfl (by first | rfl | simp) ?_
  refine wp_skip ?_
  refine then_n ?_
  refine wp_seq ?_
  refine wp_seq ?_
  refine wp_region_lit ?_
  refine s_m hf rfl ?_; clear hf a; intro a hf
  refine s_v hf (x_eqNil Try.underlying24 (hf.eval rfl) (hf.eval rfl)) ?_; clear hf a; intro a hf
  refine s_m hf rfl ?_; clear hf a; intro a hf
  replace hf := hf.now (k := 41) (v' := .bool true) rfl (congrArg Value.bool rfl)
  refine s_pass hf rfl rfl ?_; clear hf a; intro a hf
  refine s_pass hf rfl rfl ?_; clear hf a; intro a hf
  refine s_v hf (x_pick_t (hf.eval rfl) (hf.eval rfl)) ?_; clear hf a; intro a hf
  refine s_nil ?_
  refine then_n ?_
  refine c_cond_t hf rfl (by first | rfl | simp) ?_
  refine wp_seq ?_
  refine wp_region_lit ?_
  refine s_a hf rfl ?_; clear hf a; intro a hf
  refine s_nil ?_
  refine then_n ?_
  refine wp_ret ?_
  refine then_r ?_
  refine r_1 hf Try.results14 rfl ?_
  exact ⟨rfl, hs.kept⟩

theorem diskTwoInTurns_b1_ok (w0 : World) (a1 : Option Addr) (c1 : Nat) (image : List UInt8) (hr1 : RdB (hp w0) (.slice a1 image.length c1) image) (hl1 : image.length ≤ 140737488351232) (cap : Int) (a2 : Option Addr) (c2 : Nat) (other : List UInt8) (hr2 : RdB (hp w0) (.slice a2 other.length c2) other) (hl2 : other.length ≤ 140737488351232) (room : Int) (hc : cap < 0 ∨ 16777216 < cap) (hcb1 : 0 ≤ room) (hcb2 : room ≤ 16777216) (hcb3 : other.length ≤ room) (asc : Option Addr) (csc : Nat) (ops : List DOp) (hrosc : RdS opF 7 (hp w0) (.slice asc ops.length csc) ops) (hogsc : ∀ o ∈ ops, DOpG (hp w0) o) (hlosc : ops.length ≤ 1048576) (atc : Option Addr) (ctc : Nat) (opt : List DOp) (hrotc : RdS opF 7 (hp w0) (.slice atc opt.length ctc) opt) (hogtc : ∀ o ∈ opt, DOpG (hp w0) o) (hlotc : opt.length ≤ 1048576) : Calls Try.prog 14 #[.slice a1 image.length c1, .int .i64 cap, .slice asc ops.length csc, .slice a2 other.length c2, .int .i64 room, .slice atc opt.length ctc] w0 fun e w' => e = .returned (.bool true) ∧ Kept w0 w' None_ := by
  have hs := St.start w0 None_
  refine c_enter (N := 52) Try.func14 rfl Try.ntmps14 (by simp) ?_
  intro a hf
  refine wp_seq ?_
  refine wp_region_lit ?_
  refine s_a hf rfl ?_; clear hf a; intro a hf
  refine s_nil ?_
  refine then_n ?_
  refine wp_seq ?_
  refine wp_region_lit ?_
  refine s_m hf rfl ?_; clear hf a; intro a hf
  refine s_m hf rfl ?_; clear hf a; intro a hf
  refine s_do hf rfl (y_call (hf.eval rfl) (hf.evals rfl) Try.call18 ((made_b1 _ a1 c1 image (hs.oldB hr1) hl1 cap hc).mono ?_))
  rintro e w1 ⟨rfl, hk⟩
  replace hs := hs.ext hk
  refine ⟨_, rfl, ?_⟩; clear hf a; intro a hf
  refine s_m hf rfl ?_; clear hf a; intro a hf
  refine s_v hf (x_extract (hf.eval rfl) rfl) ?_; clear hf a; intro a hf
  refine s_v hf (x_extract (hf.eval rfl) rfl) ?_; clear hf a; intro a hf
  refine s_v hf (x_extract (hf.eval rfl) rfl) ?_; clear hf a; intro a hf
  refine s_a hf rfl ?_; clear hf a; intro a hf
  refine s_a hf rfl ?_; clear hf a; intro a hf
  refine s_a hf rfl ?_; clear hf a; intro a hf
  refine s_nil ?_
  refine then_n ?_
  refine wp_seq ?_
  refine wp_region_lit ?_
  refine s_m hf rfl ?_; clear hf a; intro a hf
  refine s_m hf rfl ?_; clear hf a; intro a hf
  refine s_do hf rfl (y_call (hf.eval rfl) (hf.evals rfl) Try.call18 ((made_in _ a2 c2 other (hs.oldB hr2) hl2 room hcb1 hcb2 hcb3).mono ?_))
  rintro e w1 ⟨p2, q2, rfl, hj⟩
  replace hs := hs.join hj
  simp only [List.cons_append, List.nil_append] at hs
  refine ⟨_, rfl, ?_⟩; clear hf a; intro a hf
  refine s_m hf rfl ?_; clear hf a; intro a hf
  refine s_v hf (x_extract (hf.eval rfl) rfl) ?_; clear hf a; intro a hf
  refine s_v hf (x_extract (hf.eval rfl) rfl) ?_; clear hf a; intro a hf
  refine s_v hf (x_extract (hf.eval rfl) rfl) ?_; clear hf a; intro a hf
  refine s_a hf rfl ?_; clear hf a; intro a hf
  refine s_a hf rfl ?_; clear hf a; intro a hf
  refine s_a hf rfl ?_; clear hf a; intro a hf
  refine s_nil ?_
  refine then_n ?_
  refine wp_seq ?_
  refine wp_seq ?_
  refine wp_region_lit ?_
  refine s_m hf rfl ?_; clear hf a; intro a hf
  refine s_v hf (x_not (hf.eval rfl)) ?_; clear hf a; intro a hf
  refine s_m hf rfl ?_; clear hf a; intro a hf
  replace hf := hf.now (k := 35) (v' := .bool false) rfl (congrArg Value.bool rfl)
  refine s_do hf (wanted_of hf rfl rfl rfl) (.value (x_move (hf.eval rfl) _) ?_); clear hf a; intro a hf
  refine s_do hf (wanted_of hf rfl rfl rfl) (.value (x_not (hf.eval rfl) _) ?_); clear hf a; intro a hf
  refine s_v hf (x_pick_f (hf.eval rfl) (hf.eval rfl)) ?_; clear hf a; intro a hf
  refine s_nil ?_
  refine then_n ?_
  refine c_cond_f hf rfl (by first | rfl | simp) ?_
  refine wp_skip ?_
  refine then_n ?_
  refine wp_seq ?_
  refine wp_seq ?_
  refine wp_region_lit ?_
  refine s_m hf rfl ?_; clear hf a; intro a hf
  refine s_v hf (x_eqNil Try.underlying24 (hf.eval rfl) (hf.eval rfl)) ?_; clear hf a; intro a hf
  refine s_m hf rfl ?_; clear hf a; intro a hf
  replace hf := hf.now (k := 41) (v' := .bool true) rfl (congrArg Value.bool rfl)
  refine s_pass hf rfl rfl ?_; clear hf a; intro a hf
  refine s_pass hf rfl rfl ?_; clear hf a; intro a hf
  refine s_v hf (x_pick_t (hf.eval rfl) (hf.eval rfl)) ?_; clear hf a; intro a hf
  refine s_nil ?_
  refine then_n ?_
  refine c_cond_t hf rfl (by first | rfl | simp) ?_
  refine wp_seq ?_
  refine wp_region_lit ?_
  refine s_a hf rfl ?_; clear hf a; intro a hf
  refine s_nil ?_
  refine then_n ?_
  refine wp_ret ?_
  refine then_r ?_
  refine r_1 hf Try.results14 rfl ?_
  exact ⟨rfl, hs.kept⟩

theorem diskTwoInTurns_b2_b1 (w0 : World) (a1 : Option Addr) (c1 : Nat) (image : List UInt8) (hr1 : RdB (hp w0) (.slice a1 image.length c1) image) (hl1 : image.length ≤ 140737488351232) (cap : Int) (a2 : Option Addr) (c2 : Nat) (other : List UInt8) (hr2 : RdB (hp w0) (.slice a2 other.length c2) other) (hl2 : other.length ≤ 140737488351232) (room : Int) (hc1 : 0 ≤ cap) (hc2 : cap ≤ 16777216) (hc3 : cap < image.length) (hcb : room < 0 ∨ 16777216 < room) (asc : Option Addr) (csc : Nat) (ops : List DOp) (hrosc : RdS opF 7 (hp w0) (.slice asc ops.length csc) ops) (hogsc : ∀ o ∈ ops, DOpG (hp w0) o) (hlosc : ops.length ≤ 1048576) (atc : Option Addr) (ctc : Nat) (opt : List DOp) (hrotc : RdS opF 7 (hp w0) (.slice atc opt.length ctc) opt) (hogtc : ∀ o ∈ opt, DOpG (hp w0) o) (hlotc : opt.length ≤ 1048576) : Calls Try.prog 14 #[.slice a1 image.length c1, .int .i64 cap, .slice asc ops.length csc, .slice a2 other.length c2, .int .i64 room, .slice atc opt.length ctc] w0 fun e w' => e = .returned (.bool true) ∧ Kept w0 w' None_ := by
  have hs := St.start w0 None_
  refine c_enter (N := 52) Try.func14 rfl Try.ntmps14 (by simp) ?_
  intro a hf
  refine wp_seq ?_
  refine wp_region_lit ?_
  refine s_a hf rfl ?_; clear hf a; intro a hf
  refine s_nil ?_
  refine then_n ?_
  refine wp_seq ?_
  refine wp_region_lit ?_
  refine s_m hf rfl ?_; clear hf a; intro a hf
  refine s_m hf rfl ?_; clear hf a; intro a hf
  refine s_do hf rfl (y_call (hf.eval rfl) (hf.evals rfl) Try.call18 ((made_b2 _ a1 c1 image (hs.oldB hr1) hl1 cap hc1 hc2 hc3).mono ?_))
  rintro e w1 ⟨rfl, hk⟩
  replace hs := hs.ext hk
  refine ⟨_, rfl, ?_⟩; clear hf a; intro a hf
  refine s_m hf rfl ?_; clear hf a; intro a hf
  refine s_v hf (x_extract (hf.eval rfl) rfl) ?_; clear hf a; intro a hf
  refine s_v hf (x_extract (hf.eval rfl) rfl) ?_; clear hf a; intro a hf
  refine s_v hf (x_extract (hf.eval rfl) rfl) ?_; clear hf a; intro a hf
  refine s_a hf rfl ?_; clear hf a; intro a hf
  refine s_a hf rfl ?_; clear hf a; intro a hf
  refine s_a hf rfl ?_; clear hf a; intro a hf
  refine s_nil ?_
  refine then_n ?_
  refine wp_seq ?_
  refine wp_region_lit ?_
  refine s_m hf rfl ?_; clear hf a; intro a hf
  refine s_m hf rfl ?_; clear hf a; intro a hf
  refine s_do hf rfl (y_call (hf.eval rfl) (hf.evals rfl) Try.call18 ((made_b1 _ a2 c2 other (hs.oldB hr2) hl2 room hcb).mono ?_))
  rintro e w1 ⟨rfl, hk⟩
  replace hs := hs.ext hk
  refine ⟨_, rfl, ?_⟩; clear hf a; intro a hf
  refine s_m hf rfl ?_; clear hf a; intro a hf
  refine s_v hf (x_extract (hf.eval rfl) rfl) ?_; clear hf a; intro a hf
  refine s_v hf (x_extract (hf.eval rfl) rfl) ?_; clear hf a; intro a hf
  refine s_v hf (x_extract (hf.eval rfl) rfl) ?_; clear hf a; intro a hf
  refine s_a hf rfl ?_; clear hf a; intro a hf
  refine s_a hf rfl ?_; clear hf a; intro a hf
  refine s_a hf rfl ?_; clear hf a; intro a hf
  refine s_nil ?_
  refine then_n ?_
  refine wp_seq ?_
  refine wp_seq ?_
  refine wp_region_lit ?_
  refine s_m hf rfl ?_; clear hf a; intro a hf
  refine s_v hf (x_not (hf.eval rfl)) ?_; clear hf a; intro a hf
  refine s_m hf rfl ?_; clear hf a; intro a hf
  replace hf := hf.now (k := 35) (v' := .bool false) rfl (congrArg Value.bool rfl)
  refine s_do hf (wanted_of hf rfl rfl rfl) (.value (x_move (hf.eval rfl) _) ?_); clear hf a; intro a hf
  refine s_do hf (wanted_of hf rfl rfl rfl) (.value (x_not (hf.eval rfl) _) ?_); clear hf a; intro a hf
  refine s_v hf (x_pick_f (hf.eval rfl) (hf.eval rfl)) ?_; clear hf a; intro a hf
  refine s_nil ?_
  refine then_n ?_
  refine c_cond_f hf rfl (by first | rfl | simp) ?_
  refine wp_skip ?_
  refine then_n ?_
  refine wp_seq ?_
  refine wp_seq ?_
  refine wp_region_lit ?_
  refine s_m hf rfl ?_; clear hf a; intro a hf
  refine s_v hf (x_eqNil Try.underlying24 (hf.eval rfl) (hf.eval rfl)) ?_; clear hf a; intro a hf
  refine s_m hf rfl ?_; clear hf a; intro a hf
  replace hf := hf.now (k := 41) (v' := .bool true) rfl (congrArg Value.bool rfl)
  refine s_pass hf rfl rfl ?_; clear hf a; intro a hf
  refine s_pass hf rfl rfl ?_; clear hf a; intro a hf
  refine s_v hf (x_pick_t (hf.eval rfl) (hf.eval rfl)) ?_; clear hf a; intro a hf
  refine s_nil ?_
  refine then_n ?_
  refine c_cond_t hf rfl (by first | rfl | simp) ?_
  refine wp_seq ?_
  refine wp_region_lit ?_
  refine s_a hf rfl ?_; clear hf a; intro a hf
  refine s_nil ?_
  refine then_n ?_
  refine wp_ret ?_
  refine then_r ?_
  refine r_1 hf Try.results14 rfl ?_
  exact ⟨rfl, hs.kept⟩

theorem diskTwoInTurns_b2_b2 (w0 : World) (a1 : Option Addr) (c1 : Nat) (image : List UInt8) (hr1 : RdB (hp w0) (.slice a1 image.length c1) image) (hl1 : image.length ≤ 140737488351232) (cap : Int) (a2 : Option Addr) (c2 : Nat) (other : List UInt8) (hr2 : RdB (hp w0) (.slice a2 other.length c2) other) (hl2 : other.length ≤ 140737488351232) (room : Int) (hc1 : 0 ≤ cap) (hc2 : cap ≤ 16777216) (hc3 : cap < image.length) (hcb1 : 0 ≤ room) (hcb2 : room ≤ 16777216) (hcb3 : room < other.length) (asc : Option Addr) (csc : Nat) (ops : List DOp) (hrosc : RdS opF 7 (hp w0) (.slice asc ops.length csc) ops) (hogsc : ∀ o ∈ ops, DOpG (hp w0) o) (hlosc : ops.length ≤ 1048576) (atc : Option Addr) (ctc : Nat) (opt : List DOp) (hrotc : RdS opF 7 (hp w0) (.slice atc opt.length ctc) opt) (hogtc : ∀ o ∈ opt, DOpG (hp w0) o) (hlotc : opt.length ≤ 1048576) : Calls Try.prog 14 #[.slice a1 image.length c1, .int .i64 cap, .slice asc ops.length csc, .slice a2 other.length c2, .int .i64 room, .slice atc opt.length ctc] w0 fun e w' => e = .returned (.bool true) ∧ Kept w0 w' None_ := by
  have hs := St.start w0 None_
  refine c_enter (N := 52) Try.func14 rfl Try.ntmps14 (by simp) ?_
  intro a hf
  refine wp_seq ?_
  refine wp_region_lit ?_
  refine s_a hf rfl ?_; clear hf a; intro a hf
  refine s_nil ?_
  refine then_n ?_
  refine wp_seq ?_
  refine wp_region_lit ?_
  refine s_m hf rfl ?_; clear hf a; intro a hf
  refine s_m hf rfl ?_; clear hf a; intro a hf
  refine s_do hf rfl (y_call (hf.eval rfl) (hf.evals rfl) Try.call18 ((made_b2 _ a1 c1 image (hs.oldB hr1) hl1 cap hc1 hc2 hc3).mono ?_))
  rintro e w1 ⟨rfl, hk⟩
  replace hs := hs.ext hk
  refine ⟨_, rfl, ?_⟩; clear hf a; intro a hf
  refine s_m hf rfl ?_; clear hf a; intro a hf
  refine s_v hf (x_extract (hf.eval rfl) rfl) ?_; clear hf a; intro a hf
  refine s_v hf (x_extract (hf.eval rfl) rfl) ?_; clear hf a; intro a hf
  refine s_v hf (x_extract (hf.eval rfl) rfl) ?_; clear hf a; intro a hf
  refine s_a hf rfl ?_; clear hf a; intro a hf
  refine s_a hf rfl ?_; clear hf a; intro a hf
  refine s_a hf rfl ?_; clear hf a; intro a hf
  refine s_nil ?_
  refine then_n ?_
  refine wp_seq ?_
  refine wp_region_lit ?_
  refine s_m hf rfl ?_; clear hf a; intro a hf
  refine s_m hf rfl ?_; clear hf a; intro a hf
  refine s_do hf rfl (y_call (hf.eval rfl) (hf.evals rfl) Try.call18 ((made_b2 _ a2 c2 other (hs.oldB hr2) hl2 room hcb1 hcb2 hcb3).mono ?_))
  rintro e w1 ⟨rfl, hk⟩
  replace hs := hs.ext hk
  refine ⟨_, rfl, ?_⟩; clear hf a; intro a hf
  refine s_m hf rfl ?_; clear hf a; intro a hf
  refine s_v hf (x_extract (hf.eval rfl) rfl) ?_; clear hf a; intro a hf
  refine s_v hf (x_extract (hf.eval rfl) rfl) ?_; clear hf a; intro a hf
  refine s_v hf (x_extract (hf.eval rfl) rfl) ?_; clear hf a; intro a hf
  refine s_a hf rfl ?_; clear hf a; intro a hf
  refine s_a hf rfl ?_; clear hf a; intro a hf
  refine s_a hf rfl ?_; clear hf a; intro a hf
  refine s_nil ?_
  refine then_n ?_
  refine wp_seq ?_
  refine wp_seq ?_
  refine wp_region_lit ?_
  refine s_m hf rfl ?_; clear hf a; intro a hf
  refine s_v hf (x_not (hf.eval rfl)) ?_; clear hf a; intro a hf
  refine s_m hf rfl ?_; clear hf a; intro a hf
  replace hf := hf.now (k := 35) (v' := .bool false) rfl (congrArg Value.bool rfl)
  refine s_do hf (wanted_of hf rfl rfl rfl) (.value (x_move (hf.eval rfl) _) ?_); clear hf a; intro a hf
  refine s_do hf (wanted_of hf rfl rfl rfl) (.value (x_not (hf.eval rfl) _) ?_); clear hf a; intro a hf
  refine s_v hf (x_pick_f (hf.eval rfl) (hf.eval rfl)) ?_; clear hf a; intro a hf
  refine s_nil ?_
  refine then_n ?_
  refine c_cond_f hf rfl (by first | rfl | simp) ?_
  refine wp_skip ?_
  refine then_n ?_
  refine wp_seq ?_
  refine wp_seq ?_
  refine wp_region_lit ?_
  refine s_m hf rfl ?_; clear hf a; intro a hf
  refine s_v hf (x_eqNil Try.underlying24 (hf.eval rfl) (hf.eval rfl)) ?_; clear hf a; intro a hf
  refine s_m hf rfl ?_; clear hf a; intro a hf
  replace hf := hf.now (k := 41) (v' := .bool true) rfl (congrArg Value.bool rfl)
  refine s_pass hf rfl rfl ?_; clear hf a; intro a hf
  refine s_pass hf rfl rfl ?_; clear hf a; intro a hf
  refine s_v hf (x_pick_t (hf.eval rfl) (hf.eval rfl)) ?_; clear hf a; intro a hf
  refine s_nil ?_
  refine then_n ?_
  refine c_cond_t hf rfl (by first | rfl | simp) ?_
  refine wp_seq ?_
  refine wp_region_lit ?_
  refine s_a hf rfl ?_; clear hf a; intro a hf
  refine s_nil ?_
  refine then_n ?_
  refine wp_ret ?_
  refine then_r ?_
  refine r_1 hf Try.results14 rfl ?_
  exact ⟨rfl, hs.kept⟩

theorem diskTwoInTurns_b2_ok (w0 : World) (a1 : Option Addr) (c1 : Nat) (image : List UInt8) (hr1 : RdB (hp w0) (.slice a1 image.length c1) image) (hl1 : image.length ≤ 140737488351232) (cap : Int) (a2 : Option Addr) (c2 : Nat) (other : List UInt8) (hr2 : RdB (hp w0) (.slice a2 other.length c2) other) (hl2 : other.length ≤ 140737488351232) (room : Int) (hc1 : 0 ≤ cap) (hc2 : cap ≤ 16777216) (hc3 : cap < image.length) (hcb1 : 0 ≤ room) (hcb2 : room ≤ 16777216) (hcb3 : other.length ≤ room) (asc : Option Addr) (csc : Nat) (ops : List DOp) (hrosc : RdS opF 7 (hp w0) (.slice asc ops.length csc) ops) (hogsc : ∀ o ∈ ops, DOpG (hp w0) o) (hlosc : ops.length ≤ 1048576) (atc : Option Addr) (ctc : Nat) (opt : List DOp) (hrotc : RdS opF 7 (hp w0) (.slice atc opt.length ctc) opt) (hogtc : ∀ o ∈ opt, DOpG (hp w0) o) (hlotc : opt.length ≤ 1048576) : Calls Try.prog 14 #[.slice a1 image.length c1, .int .i64 cap, .slice asc ops.length csc, .slice a2 other.length c2, .int .i64 room, .slice atc opt.length ctc] w0 fun e w' => e = .returned (.bool true) ∧ Kept w0 w' None_ := by
  have hs := St.start w0 None_
  refine c_enter (N := 52) Try.func14 rfl Try.ntmps14 (by simp) ?_
  intro a hf
  refine wp_seq ?_
  refine wp_region_lit ?_
  refine s_a hf rfl ?_; clear hf a; intro a hf
  refine s_nil ?_
  refine then_n ?_
  refine wp_seq ?_
  refine wp_region_lit ?_
  refine s_m hf rfl ?_; clear hf a; intro a hf
  refine s_m hf rfl ?_; clear hf a; intro a hf
  refine s_do hf rfl (y_call (hf.eval rfl) (hf.evals rfl) Try.call18 ((made_b2 _ a1 c1 image (hs.oldB hr1) hl1 cap hc1 hc2 hc3).mono ?_))
  rintro e w1 ⟨rfl, hk⟩
  replace hs := hs.ext hk
  refine ⟨_, rfl, ?_⟩; clear hf a; intro a hf
  refine s_m hf rfl ?_; clear hf a; intro a hf
  refine s_v hf (x_extract (hf.eval rfl) rfl) ?_; clear hf a; intro a hf
  refine s_v hf (x_extract (hf.eval rfl) rfl) ?_; clear hf a; intro a hf
  refine s_v hf (x_extract (hf.eval rfl) rfl) ?_; clear hf a; intro a hf
  refine s_a hf rfl ?_; clear hf a; intro a hf
  refine s_a hf rfl ?_; clear hf a; intro a hf
  refine s_a hf rfl ?_; clear hf a; intro a hf
  refine s_nil ?_
  refine then_n ?_
  refine wp_seq ?_
  refine wp_region_lit ?_
  refine s_m hf rfl ?_; clear hf a; intro a hf
  refine s_m hf rfl ?_; clear hf a; intro a hf
  refine s_do hf rfl (y_call (hf.eval rfl) (hf.evals rfl) Try.call18 ((made_in _ a2 c2 other (hs.oldB hr2) hl2 room hcb1 hcb2 hcb3).mono ?_))
  rintro e w1 ⟨p2, q2, rfl, hj⟩
  replace hs := hs.join hj
  simp only [List.cons_append, List.nil_append] at hs
  refine ⟨_, rfl, ?_⟩; clear hf a; intro a hf
  refine s_m hf rfl ?_; clear hf a; intro a hf
  refine s_v hf (x_extract (hf.eval rfl) rfl) ?_; clear hf a; intro a hf
  refine s_v hf (x_extract (hf.eval rfl) rfl) ?_; clear hf a; intro a hf
  refine s_v hf (x_extract (hf.eval rfl) rfl) ?_; clear hf a; intro a hf
  refine s_a hf rfl ?_; clear hf a; intro a hf
  refine s_a hf rfl ?_; clear hf a; intro a hf
  refine s_a hf rfl ?_; clear hf a; intro a hf
  refine s_nil ?_
  refine then_n ?_
  refine wp_seq ?_
  refine wp_seq ?_
  refine wp_region_lit ?_
  refine s_m hf rfl ?_; clear hf a; intro a hf
  refine s_v hf (x_not (hf.eval rfl)) ?_; clear hf a; intro a hf
  refine s_m hf rfl ?_; clear hf a; intro a hf
  replace hf := hf.now (k := 35) (v' := .bool false) rfl (congrArg Value.bool rfl)
  refine s_do hf (wanted_of hf rfl rfl rfl) (.value (x_move (hf.eval rfl) _) ?_); clear hf a; intro a hf
  refine s_do hf (wanted_of hf rfl rfl rfl) (.value (x_not (hf.eval rfl) _) ?_); clear hf a; intro a hf
  refine s_v hf (x_pick_f (hf.eval rfl) (hf.eval rfl)) ?_; clear hf a; intro a hf
  refine s_nil ?_
  refine then_n ?_
  refine c_cond_f hf rfl (by first | rfl | simp) ?_
  refine wp_skip ?_
  refine then_n ?_
  refine wp_seq ?_
  refine wp_seq ?_
  refine wp_region_lit ?_
  refine s_m hf rfl ?_; clear hf a; intro a hf
  refine s_v hf (x_eqNil Try.underlying24 (hf.eval rfl) (hf.eval rfl)) ?_; clear hf a; intro a hf
  refine s_m hf rfl ?_; clear hf a; intro a hf
  replace hf := hf.now (k := 41) (v' := .bool true) rfl (congrArg Value.bool rfl)
  refine s_pass hf rfl rfl ?_; clear hf a; intro a hf
  refine s_pass hf rfl rfl ?_; clear hf a; intro a hf
  refine s_v hf (x_pick_t (hf.eval rfl) (hf.eval rfl)) ?_; clear hf a; intro a hf
  refine s_nil ?_
  refine then_n ?_
  refine c_cond_t hf rfl (by first | rfl | simp) ?_
  refine wp_seq ?_
  refine wp_region_lit ?_
  refine s_a hf rfl ?_; clear hf a; intro a hf
  refine s_nil ?_
  refine then_n ?_
  refine wp_ret ?_
  refine then_r ?_
  refine r_1 hf Try.results14 rfl ?_
  exact ⟨rfl, hs.kept⟩

theorem diskTwoInTurns_ok_b1 (w0 : World) (a1 : Option Addr) (c1 : Nat) (image : List UInt8) (hr1 : RdB (hp w0) (.slice a1 image.length c1) image) (hl1 : image.length ≤ 140737488351232) (cap : Int) (a2 : Option Addr) (c2 : Nat) (other : List UInt8) (hr2 : RdB (hp w0) (.slice a2 other.length c2) other) (hl2 : other.length ≤ 140737488351232) (room : Int) (hc1 : 0 ≤ cap) (hc2 : cap ≤ 16777216) (hc3 : image.length ≤ cap) (hcb : room < 0 ∨ 16777216 < room) (asc : Option Addr) (csc : Nat) (ops : List DOp) (hrosc : RdS opF 7 (hp w0) (.slice asc ops.length csc) ops) (hogsc : ∀ o ∈ ops, DOpG (hp w0) o) (hlosc : ops.length ≤ 1048576) (atc : Option Addr) (ctc : Nat) (opt : List DOp) (hrotc : RdS opF 7 (hp w0) (.slice atc opt.length ctc) opt) (hogtc : ∀ o ∈ opt, DOpG (hp w0) o) (hlotc : opt.length ≤ 1048576) : Calls Try.prog 14 #[.slice a1 image.length c1, .int .i64 cap, .slice asc ops.length csc, .slice a2 other.length c2, .int .i64 room, .slice atc opt.length ctc] w0 fun e w' => e = .returned (.bool true) ∧ Kept w0 w' None_ := by
  have hs := St.start w0 None_
  refine c_enter (N := 52) Try.func14 rfl Try.ntmps14 (by simp) ?_
  intro a hf
  refine wp_seq ?_
  refine wp_region_lit ?_
  refine s_a hf rfl ?_; clear hf a; intro a hf
  refine s_nil ?_
  refine then_n ?_
  refine wp_seq ?_
  refine wp_region_lit ?_
  refine s_m hf rfl ?_; clear hf a; intro a hf
  refine s_m hf rfl ?_; clear hf a; intro a hf
  refine s_do hf rfl (y_call (hf.eval rfl) (hf.evals rfl) Try.call18 ((made_in _ a1 c1 image (hs.oldB hr1) hl1 cap hc1 hc2 hc3).mono ?_))
  rintro e w1 ⟨p, q, rfl, hj⟩
  replace hs := hs.join hj
  simp only [List.cons_append, List.nil_append] at hs
  refine ⟨_, rfl, ?_⟩; clear hf a; intro a hf
  refine s_m hf rfl ?_; clear hf a; intro a hf
  refine s_v hf (x_extract (hf.eval rfl) rfl) ?_; clear hf a; intro a hf
  refine s_v hf (x_extract (hf.eval rfl) rfl) ?_; clear hf a; intro a hf
  refine s_v hf (x_extract (hf.eval rfl) rfl) ?_; clear hf a; intro a hf
  refine s_a hf rfl ?_; clear hf a; intro a hf
  refine s_a hf rfl ?_; clear hf a; intro a hf
  refine s_a hf rfl ?_; clear hf a; intro a hf
  refine s_nil ?_
  refine then_n ?_
  refine wp_seq ?_
  refine wp_region_lit ?_
  refine s_m hf rfl ?_; clear hf a; intro a hf
  refine s_m hf rfl ?_; clear hf a; intro a hf
  refine s_do hf rfl (y_call (hf.eval rfl) (hf.evals rfl) Try.call18 ((made_b1 _ a2 c2 other (hs.oldB hr2) hl2 room hcb).mono ?_))
  rintro e w1 ⟨rfl, hk⟩
  replace hs := hs.ext hk
  refine ⟨_, rfl, ?_⟩; clear hf a; intro a hf
  refine s_m hf rfl ?_; clear hf a; intro a hf
  refine s_v hf (x_extract (hf.eval rfl) rfl) ?_; clear hf a; intro a hf
  refine s_v hf (x_extract (hf.eval rfl) rfl) ?_; clear hf a; intro a hf
  refine s_v hf (x_extract (hf.eval rfl) rfl) ?_; clear hf a; intro a hf
  refine s_a hf rfl ?_; clear hf a; intro a hf
  refine s_a hf rfl ?_; clear hf a; intro a hf
  refine s_a hf rfl ?_; clear hf a; intro a hf
  refine s_nil ?_
  refine then_n ?_
  refine wp_seq ?_
  refine wp_seq ?_
  refine wp_region_lit ?_
  refine s_m hf rfl ?_; clear hf a; intro a hf
  refine s_v hf (x_not (hf.eval rfl)) ?_; clear hf a; intro a hf
  refine s_m hf rfl ?_; clear hf a; intro a hf
  replace hf := hf.now (k := 35) (v' := .bool false) rfl (congrArg Value.bool rfl)
  refine s_do hf (wanted_of hf rfl rfl rfl) (.value (x_move (hf.eval rfl) _) ?_); clear hf a; intro a hf
  refine s_do hf (wanted_of hf rfl rfl rfl) (.value (x_not (hf.eval rfl) _) ?_); clear hf a; intro a hf
  refine s_v hf (x_pick_f (hf.eval rfl) (hf.eval rfl)) ?_; clear hf a; intro a hf
  refine s_nil ?_
  refine then_n ?_
  refine c_cond_f hf rfl (by first | rfl | simp) ?_
  refine wp_skip ?_
  refine then_n ?_
  refine wp_seq ?_
  refine wp_seq ?_
  refine wp_region_lit ?_
  refine s_m hf rfl ?_; clear hf a; intro a hf
  refine s_v hf (x_eqNil Try.underlying24 (hf.eval rfl) (hf.eval rfl)) ?_; clear hf a; intro a hf
  refine s_m hf rfl ?_; clear hf a; intro a hf
  replace hf := hf.now (k := 41) (v' := .bool false) rfl (congrArg Value.bool rfl)
  refine s_do hf (wanted_of hf rfl rfl rfl) (.value (x_move (hf.eval rfl) _) ?_); clear hf a; intro a hf
  refine s_do hf (wanted_of hf rfl rfl rfl) (.value (x_eqNil Try.underlying24 (hf.eval rfl) (hf.eval rfl) _) ?_); clear hf a; intro a hf
  refine s_v hf (x_pick_f (hf.eval rfl) (hf.eval rfl)) ?_; clear hf a; intro a hf
  refine s_nil ?_
  refine then_n ?_
  refine c_cond_t hf rfl (by first | rfl | simp) ?_
  refine wp_seq ?_
  refine wp_region_lit ?_
  refine s_a hf rfl ?_; clear hf a; intro a hf
  refine s_nil ?_
  refine then_n ?_
  refine wp_ret ?_
  refine then_r ?_
  refine r_1 hf Try.results14 rfl ?_
  exact ⟨rfl, hs.kept⟩

theorem diskTwoInTurns_ok_b2 (w0 : World) (a1 : Option Addr) (c1 : Nat) (image : List UInt8) (hr1 : RdB (hp w0) (.slice a1 image.length c1) image) (hl1 : image.length ≤ 140737488351232) (cap : Int) (a2 : Option Addr) (c2 : Nat) (other : List UInt8) (hr2 : RdB (hp w0) (.slice a2 other.length c2) other) (hl2 : other.length ≤ 140737488351232) (room : Int) (hc1 : 0 ≤ cap) (hc2 : cap ≤ 16777216) (hc3 : image.length ≤ cap) (hcb1 : 0 ≤ room) (hcb2 : room ≤ 16777216) (hcb3 : room < other.length) (asc : Option Addr) (csc : Nat) (ops : List DOp) (hrosc : RdS opF 7 (hp w0) (.slice asc ops.length csc) ops) (hogsc : ∀ o ∈ ops, DOpG (hp w0) o) (hlosc : ops.length ≤ 1048576) (atc : Option Addr) (ctc : Nat) (opt : List DOp) (hrotc : RdS opF 7 (hp w0) (.slice atc opt.length ctc) opt) (hogtc : ∀ o ∈ opt, DOpG (hp w0) o) (hlotc : opt.length ≤ 1048576) : Calls Try.prog 14 #[.slice a1 image.length c1, .int .i64 cap, .slice asc ops.length csc, .slice a2 other.length c2, .int .i64 room, .slice atc opt.length ctc] w0 fun e w' => e = .returned (.bool true) ∧ Kept w0 w' None_ := by
  have hs := St.start w0 None_
  refine c_enter (N := 52) Try.func14 rfl Try.ntmps14 (by simp) ?_
  intro a hf
  refine wp_seq ?_
  refine wp_region_lit ?_
  refine s_a hf rfl ?_; clear hf a; intro a hf
  refine s_nil ?_
  refine then_n ?_
  refine wp_seq ?_
  refine wp_region_lit ?_
  refine s_m hf rfl ?_; clear hf a; intro a hf
  refine s_m hf rfl ?_; clear hf a; intro a hf
  refine s_do hf rfl (y_call (hf.eval rfl) (hf.evals rfl) Try.call18 ((made_in _ a1 c1 image (hs.oldB hr1) hl1 cap hc1 hc2 hc3).mono ?_))
  rintro e w1 ⟨p, q, rfl, hj⟩
  replace hs := hs.join hj
  simp only [List.cons_append, List.nil_append] at hs
  refine ⟨_, rfl, ?_⟩; clear hf a; intro a hf
  refine s_m hf rfl ?_; clear hf a; intro a hf
  refine s_v hf (x_extract (hf.eval rfl) rfl) ?_; clear hf a; intro a hf
  refine s_v hf (x_extract (hf.eval rfl) rfl) ?_; clear hf a; intro a hf
  refine s_v hf (x_extract (hf.eval rfl) rfl) ?_; clear hf a; intro a hf
  refine s_a hf rfl ?_; clear hf a; intro a hf
  refine s_a hf rfl ?_; clear hf a; intro a hf
  refine s_a hf rfl ?_; clear hf a; intro a hf
  refine s_nil ?_
  refine then_n ?_
  refine wp_seq ?_
  refine wp_region_lit ?_
  refine s_m hf rfl ?_; clear hf a; intro a hf
  refine s_m hf rfl ?_; clear hf a; intro a hf
  refine s_do hf rfl (y_call (hf.eval rfl) (hf.evals rfl) Try.call18 ((made_b2 _ a2 c2 other (hs.oldB hr2) hl2 room hcb1 hcb2 hcb3).mono ?_))
  rintro e w1 ⟨rfl, hk⟩
  replace hs := hs.ext hk
  refine ⟨_, rfl, ?_⟩; clear hf a; intro a hf
  refine s_m hf rfl ?_; clear hf a; intro a hf
  refine s_v hf (x_extract (hf.eval rfl) rfl) ?_; clear hf a; intro a hf
  refine s_v hf (x_extract (hf.eval rfl) rfl) ?_; clear hf a; intro a hf
  refine s_v hf (x_extract (hf.eval rfl) rfl) ?_; clear hf a; intro a hf
  refine s_a hf rfl ?_; clear hf a; intro a hf
  refine s_a hf rfl ?_; clear hf a; intro a hf
  refine s_a hf rfl ?_; clear hf a; intro a hf
  refine s_nil ?_
  refine then_n ?_
  refine wp_seq ?_
  refine wp_seq ?_
  refine wp_region_lit ?_
  refine s_m hf rfl ?_; clear hf a; intro a hf
  refine s_v hf (x_not (hf.eval rfl)) ?_; clear hf a; intro a hf
  refine s_m hf rfl ?_; clear hf a; intro a hf
  replace hf := hf.now (k := 35) (v' := .bool false) rfl (congrArg Value.bool rfl)
  refine s_do hf (wanted_of hf rfl rfl rfl) (.value (x_move (hf.eval rfl) _) ?_); clear hf a; intro a hf
  refine s_do hf (wanted_of hf rfl rfl rfl) (.value (x_not (hf.eval rfl) _) ?_); clear hf a; intro a hf
  refine s_v hf (x_pick_f (hf.eval rfl) (hf.eval rfl)) ?_; clear hf a; intro a hf
  refine s_nil ?_
  refine then_n ?_
  refine c_cond_f hf rfl (by first | rfl | simp) ?_
  refine wp_skip ?_
  refine then_n ?_
  refine wp_seq ?_
  refine wp_seq ?_
  refine wp_region_lit ?_
  refine s_m hf rfl ?_; clear hf a; intro a hf
  refine s_v hf (x_eqNil Try.underlying24 (hf.eval rfl) (hf.eval rfl)) ?_; clear hf a; intro a hf
  refine s_m hf rfl ?_; clear hf a; intro a hf
  replace hf := hf.now (k := 41) (v' := .bool false) rfl (congrArg Value.bool rfl)
  refine s_do hf (wanted_of hf rfl rfl rfl) (.value (x_move (hf.eval rfl) _) ?_); clear hf a; intro a hf
  refine s_do hf (wanted_of hf rfl rfl rfl) (.value (x_eqNil Try.underlying24 (hf.eval rfl) (hf.eval rfl) _) ?_); clear hf a; intro a hf
  refine s_v hf (x_pick_f (hf.eval rfl) (hf.eval rfl)) ?_; clear hf a; intro a hf
  refine s_nil ?_
  refine then_n ?_
  refine c_cond_t hf rfl (by first | rfl | simp) ?_
  refine wp_seq ?_
  refine wp_region_lit ?_
  refine s_a hf rfl ?_; clear hf a; intro a hf
  refine s_nil ?_
  refine then_n ?_
  refine wp_ret ?_
  refine then_r ?_
  refine r_1 hf Try.results14 rfl ?_
  exact ⟨rfl, hs.kept⟩

theorem diskTwoInTurns_ok_ok (w0 : World) (a1 : Option Addr) (c1 : Nat) (image : List UInt8) (hr1 : RdB (hp w0) (.slice a1 image.length c1) image) (hl1 : image.length ≤ 140737488351232) (cap : Int) (a2 : Option Addr) (c2 : Nat) (other : List UInt8) (hr2 : RdB (hp w0) (.slice a2 other.length c2) other) (hl2 : other.length ≤ 140737488351232) (room : Int) (hc1 : 0 ≤ cap) (hc2 : cap ≤ 16777216) (hc3 : image.length ≤ cap) (hcb1 : 0 ≤ room) (hcb2 : room ≤ 16777216) (hcb3 : other.length ≤ room) (asc : Option Addr) (csc : Nat) (ops : List DOp) (hrosc : RdS opF 7 (hp w0) (.slice asc ops.length csc) ops) (hogsc : ∀ o ∈ ops, DOpG (hp w0) o) (hlosc : ops.length ≤ 1048576) (atc : Option Addr) (ctc : Nat) (opt : List DOp) (hrotc : RdS opF 7 (hp w0) (.slice atc opt.length ctc) opt) (hogtc : ∀ o ∈ opt, DOpG (hp w0) o) (hlotc : opt.length ≤ 1048576) : Calls Try.prog 14 #[.slice a1 image.length c1, .int .i64 cap, .slice asc ops.length csc, .slice a2 other.length c2, .int .i64 room, .slice atc opt.length ctc] w0 fun e w' => e = .returned (.bool true) ∧ Kept w0 w' None_ := by
  have hs := St.start w0 None_
  refine c_enter (N := 52) Try.func14 rfl Try.ntmps14 (by simp) ?_
  intro a hf
  refine wp_seq ?_
  refine wp_region_lit ?_
  refine s_a hf rfl ?_; clear hf a; intro a hf
  refine s_nil ?_
  refine then_n ?_
  refine wp_seq ?_
  refine wp_region_lit ?_
  refine s_m hf rfl ?_; clear hf a; intro a hf
  refine s_m hf rfl ?_; clear hf a; intro a hf
  refine s_do hf rfl (y_call (hf.eval rfl) (hf.evals rfl) Try.call18 ((made_in _ a1 c1 image (hs.oldB hr1) hl1 cap hc1 hc2 hc3).mono ?_))
  rintro e w1 ⟨p, q, rfl, hj⟩
  replace hs := hs.join hj
  simp only [List.cons_append, List.nil_append] at hs
  refine ⟨_, rfl, ?_⟩; clear hf a; intro a hf
  refine s_m hf rfl ?_; clear hf a; intro a hf
  refine s_v hf (x_extract (hf.eval rfl) rfl) ?_; clear hf a; intro a hf
  refine s_v hf (x_extract (hf.eval rfl) rfl) ?_; clear hf a; intro a hf
  refine s_v hf (x_extract (hf.eval rfl) rfl) ?_; clear hf a; intro a hf
  refine s_a hf rfl ?_; clear hf a; intro a hf
  refine s_a hf rfl ?_; clear hf a; intro a hf
  refine s_a hf rfl ?_; clear hf a; intro a hf
  refine s_nil ?_
  refine then_n ?_
  refine wp_seq ?_
  refine wp_region_lit ?_
  refine s_m hf rfl ?_; clear hf a; intro a hf
  refine s_m hf rfl ?_; clear hf a; intro a hf
  refine s_do hf rfl (y_call (hf.eval rfl) (hf.evals rfl) Try.call18 ((made_in _ a2 c2 other (hs.oldB hr2) hl2 room hcb1 hcb2 hcb3).mono ?_))
  rintro e w1 ⟨p2, q2, rfl, hj⟩
  replace hs := hs.join hj
  simp only [List.cons_append, List.nil_append] at hs
  refine ⟨_, rfl, ?_⟩; clear hf a; intro a hf
  refine s_m hf rfl ?_; clear hf a; intro a hf
  refine s_v hf (x_extract (hf.eval rfl) rfl) ?_; clear hf a; intro a hf
  refine s_v hf (x_extract (hf.eval rfl) rfl) ?_; clear hf a; intro a hf
  refine s_v hf (x_extract (hf.eval rfl) rfl) ?_; clear hf a; intro a hf
  refine s_a hf rfl ?_; clear hf a; intro a hf
  refine s_a hf rfl ?_; clear hf a; intro a hf
  refine s_a hf rfl ?_; clear hf a; intro a hf
  refine s_nil ?_
  refine then_n ?_
  refine wp_seq ?_
  refine wp_seq ?_
  refine wp_region_lit ?_
  refine s_m hf rfl ?_; clear hf a; intro a hf
  refine s_v hf (x_not (hf.eval rfl)) ?_; clear hf a; intro a hf
  refine s_m hf rfl ?_; clear hf a; intro a hf
  replace hf := hf.now (k := 35) (v' := .bool false) rfl (congrArg Value.bool rfl)
  refine s_do hf (wanted_of hf rfl rfl rfl) (.value (x_move (hf.eval rfl) _) ?_); clear hf a; intro a hf
  refine s_do hf (wanted_of hf rfl rfl rfl) (.value (x_not (hf.eval rfl) _) ?_); clear hf a; intro a hf
  refine s_v hf (x_pick_f (hf.eval rfl) (hf.eval rfl)) ?_; clear hf a; intro a hf
  refine s_nil ?_
  refine then_n ?_
  refine c_cond_f hf rfl (by first | rfl | simp) ?_
  refine wp_skip ?_
  refine then_n ?_
  refine wp_seq ?_
  refine wp_seq ?_
  refine wp_region_lit ?_
  refine s_m hf rfl ?_; clear hf a; intro a hf
  refine s_v hf (x_eqNil Try.underlying24 (hf.eval rfl) (hf.eval rfl)) ?_; clear hf a; intro a hf
  refine s_m hf rfl ?_; clear hf a; intro a hf
  replace hf := hf.now (k := 41) (v' := .bool false) rfl (congrArg Value.bool rfl)
  refine s_do hf (wanted_of hf rfl rfl rfl) (.value (x_move (hf.eval rfl) _) ?_); clear hf a; intro a hf
  refine s_do hf (wanted_of hf rfl rfl rfl) (.value (x_eqNil Try.underlying24 (hf.eval rfl) (hf.eval rfl) _) ?_); clear hf a; intro a hf
  refine s_v hf (x_pick_f (hf.eval rfl) (hf.eval rfl)) ?_; clear hf a; intro a hf
  refine s_nil ?_
  refine then_n ?_
  refine c_cond_f hf rfl (by first | rfl | simp) ?_
  refine wp_skip ?_
  refine then_n ?_
  refine wp_seq ?_
  refine wp_region_lit ?_
  refine s_m hf rfl ?_; clear hf a; intro a hf
  refine s_m hf rfl ?_; clear hf a; intro a hf
  refine s_m hf rfl ?_; clear hf a; intro a hf
  refine s_m hf rfl ?_; clear hf a; intro a hf
  refine s_m hf rfl ?_; clear hf a; intro a hf
  refine s_m hf rfl ?_; clear hf a; intro a hf
  replace hs := hs.take (A := refA 90 94 5 3 q (newS image cap)) (by first | exact .here _ | exact .there _ (.here _) | exact .there _ (.there _ (.here _)) | exact .there _ (.there _ (.there _ (.here _))) | exact .there _ (.there _ (.there _ (.there _ (.here _)))) | exact .there _ (.there _ (.there _ (.there _ (.there _ (.here _))))) | exact .there _ (.there _ (.there _ (.there _ (.there _ (.there _ (.here _)))))) | exact .there _ (.there _ (.there _ (.there _ (.there _ (.there _ (.there _ (.here _))))))) | exact .there _ (.there _ (.there _ (.there _ (.there _ (.there _ (.there _ (.there _ (.here _)))))))) | exact .there _ (.there _ (.there _ (.there _ (.there _ (.there _ (.there _ (.there _ (.there _ (.here _))))))))) | exact .there _ (.there _ (.there _ (.there _ (.there _ (.there _ (.there _ (.there _ (.there _ (.there _ (.here _)))))))))) | exact .there _ (.there _ (.there _ (.there _ (.there _ (.there _ (.there _ (.there _ (.there _ (.there _ (.there _ (.here _))))))))))))
  replace hs := hs.take (A := diskA 78 83 5 3 p (newS image cap)) (by first | exact .here _ | exact .there _ (.here _) | exact .there _ (.there _ (.here _)) | exact .there _ (.there _ (.there _ (.here _))) | exact .there _ (.there _ (.there _ (.there _ (.here _)))) | exact .there _ (.there _ (.there _ (.there _ (.there _ (.here _))))) | exact .there _ (.there _ (.there _ (.there _ (.there _ (.there _ (.here _)))))) | exact .there _ (.there _ (.there _ (.there _ (.there _ (.there _ (.there _ (.here _))))))) | exact .there _ (.there _ (.there _ (.there _ (.there _ (.there _ (.there _ (.there _ (.here _)))))))) | exact .there _ (.there _ (.there _ (.there _ (.there _ (.there _ (.there _ (.there _ (.there _ (.here _))))))))) | exact .there _ (.there _ (.there _ (.there _ (.there _ (.there _ (.there _ (.there _ (.there _ (.there _ (.here _)))))))))) | exact .there _ (.there _ (.there _ (.there _ (.there _ (.there _ (.there _ (.there _ (.there _ (.there _ (.there _ (.here _))))))))))))
  refine s_do hf rfl (y_call (hf.eval rfl) (hf.evals rfl) Try.call46 ((turned_spec w0 _ p p2 q q2 (newS image cap) (newS other room) asc csc ops hrosc hogsc hlosc atc ctc opt hrotc hogtc hlotc hs (newS_ok hc1 hc2 hc3) (newS_b _ _ _) (newS_ok hcb1 hcb2 hcb3) (newS_b _ _ _)).mono ?_))
  rintro e w1 ⟨rfl, hk⟩
  refine ⟨_, rfl, ?_⟩; clear hf a; intro a hf
  refine s_a hf rfl ?_; clear hf a; intro a hf
  refine s_nil ?_
  refine then_n ?_
  refine wp_ret ?_
  refine r_1 hf Try.results14 rfl ?_
  exact ⟨rfl, hk⟩

theorem diskTwoInTurns_spec (w0 : World) (a1 : Option Addr) (c1 : Nat) (image : List UInt8) (hr1 : RdB (hp w0) (.slice a1 image.length c1) image) (hl1 : image.length ≤ 140737488351232) (cap : Int) (a2 : Option Addr) (c2 : Nat) (other : List UInt8) (hr2 : RdB (hp w0) (.slice a2 other.length c2) other) (hl2 : other.length ≤ 140737488351232) (room : Int)  (asc : Option Addr) (csc : Nat) (ops : List DOp) (hrosc : RdS opF 7 (hp w0) (.slice asc ops.length csc) ops) (hogsc : ∀ o ∈ ops, DOpG (hp w0) o) (hlosc : ops.length ≤ 1048576) (atc : Option Addr) (ctc : Nat) (opt : List DOp) (hrotc : RdS opF 7 (hp w0) (.slice atc opt.length ctc) opt) (hogtc : ∀ o ∈ opt, DOpG (hp w0) o) (hlotc : opt.length ≤ 1048576) : Calls Try.prog 14 #[.slice a1 image.length c1, .int .i64 cap, .slice asc ops.length csc, .slice a2 other.length c2, .int .i64 room, .slice atc opt.length ctc] w0 fun e w' => e = .returned (.bool true) ∧ Kept w0 w' None_ := by
  by_cases h1 : cap < 0 ∨ 16777216 < cap
  · by_cases k1 : room < 0 ∨ 16777216 < room
    · exact diskTwoInTurns_b1_b1 w0 a1 c1 image hr1 hl1 cap a2 c2 other hr2 hl2 room h1 k1 asc csc ops hrosc hogsc hlosc atc ctc opt hrotc hogtc hlotc
    · by_cases k2 : room < other.length
      · exact diskTwoInTurns_b1_b2 w0 a1 c1 image hr1 hl1 cap a2 c2 other hr2 hl2 room h1 (by omega) (by omega) k2 asc csc ops hrosc hogsc hlosc atc ctc opt hrotc hogtc hlotc
      · exact diskTwoInTurns_b1_ok w0 a1 c1 image hr1 hl1 cap a2 c2 other hr2 hl2 room h1 (by omega) (by omega) (by omega) asc csc ops hrosc hogsc hlosc atc ctc opt hrotc hogtc hlotc
  by_cases h2 : cap < image.length
  · by_cases k1 : room < 0 ∨ 16777216 < room
    · exact diskTwoInTurns_b2_b1 w0 a1 c1 image hr1 hl1 cap a2 c2 other hr2 hl2 room (by omega) (by omega) h2 k1 asc csc ops hrosc hogsc hlosc atc ctc opt hrotc hogtc hlotc
    · by_cases k2 : room < other.length
      · exact diskTwoInTurns_b2_b2 w0 a1 c1 image hr1 hl1 cap a2 c2 other hr2 hl2 room (by omega) (by omega) h2 (by omega) (by omega) k2 asc csc ops hrosc hogsc hlosc atc ctc opt hrotc hogtc hlotc
      · exact diskTwoInTurns_b2_ok w0 a1 c1 image hr1 hl1 cap a2 c2 other hr2 hl2 room (by omega) (by omega) h2 (by omega) (by omega) (by omega) asc csc ops hrosc hogsc hlosc atc ctc opt hrotc hogtc hlotc
  by_cases k1 : room < 0 ∨ 16777216 < room
  · exact diskTwoInTurns_ok_b1 w0 a1 c1 image hr1 hl1 cap a2 c2 other hr2 hl2 room (by omega) (by omega) (by omega) k1 asc csc ops hrosc hogsc hlosc atc ctc opt hrotc hogtc hlotc
  · by_cases k2 : room < other.length
    · exact diskTwoInTurns_ok_b2 w0 a1 c1 image hr1 hl1 cap a2 c2 other hr2 hl2 room (by omega) (by omega) (by omega) (by omega) (by omega) k2 asc csc ops hrosc hogsc hlosc atc ctc opt hrotc hogtc hlotc
    · exact diskTwoInTurns_ok_ok w0 a1 c1 image hr1 hl1 cap a2 c2 other hr2 hl2 room (by omega) (by omega) (by omega) (by omega) (by omega) (by omega) asc csc ops hrosc hogsc hlosc atc ctc opt hrotc hogtc hlotc

end Go.Proofs.Ytjfnpbeehjhmbaa
