/- Texts 15 of 16 that the law rests on: the small library, contracts of functions, printed by a program. -/
import Derived.Test.YtehakfbfjpolfaaDoorProg
import Derived.Test.YtehakfbfjpolfaaDoorAg1
import Derived.Test.YtehakfbfjpolfaaDoorAg2
import Derived.Test.YtehakfbfjpolfaaDoorAg3
import Derived.Test.YtehakfbfjpolfaaDoorAg4
import Derived.Test.YtehakfbfjpolfaaDoorAg5
import Derived.Test.YtehakfbfjpolfaaDoorAg6
import Derived.Test.YtehakfbfjpolfaaDoorAg7
import Derived.Test.YtehakfbfjpolfaaDoorAg8
import Derived.Test.YtehakfbfjpolfaaDoorAg9
import Derived.Test.YtehakfbfjpolfaaDoorAg10
import Derived.Test.YtehakfbfjpolfaaDoorAg11
import Derived.Test.YtehakfbfjpolfaaDoorAg12
import Derived.Test.YtehakfbfjpolfaaDoorAg13
import Derived.Test.YtehakfbfjpolfaaDoorAg14
set_option maxRecDepth 100000
set_option linter.all false
namespace Go.Proofs.YtehakfbfjpolfaaDoor
open Go Vw
theorem lk_none {im : List UInt8} (h : (lkV im).1.1 = 0) : (lkV im).2 = im := by rw [(quiet_self h).1]
theorem opsR_len (im : List UInt8) (h : im.length ≤ 16777216) : (opsR im).length ≤ 2097155 := by
  rcases look_cases im with ⟨h1, _⟩ | ⟨h1, _⟩ | ⟨h1, k1, _⟩
  · unfold opsR; rw [if_pos h1]; simp
  · rw [opsR_o (by omega) (by omega)]; simp
  · rw [opsR_3 h1]
    have := lkP_small k1 h
    simp only [List.length_append, List.length_map, List.length_cons, List.length_nil]; omega
theorem rec_keeps {s : DS} {k : Nat} (ho : DOk s) (hb : DB s k) : DOk (recS s) ∧ k + 2097155 ≤ k + 2097155 ∧ DB (recS s) (k + 2097155) := by
  refine ⟨?_, Nat.le_refl _, ?_⟩
  · unfold recS; split
    · exact ho
    · exact runS_ok _ ho
  · unfold recS; split
    · exact hb.up (by omega)
    · have := ho.now; have := ho.room1
      exact (runS_b _ ho hb).up (by have := opsR_len s.now (by omega); omega)
theorem cb_rdyS {α : Type} {f : α → List Value} {sz b T : Nat} {σ : Sig} {R R' : List Asrt} {l : List α} {vs : List Value} (tk : Take (cb b T vs) R R') (h : vs = l.flatMap f) (hn : vs.length = l.length * sz) : RdyS f sz σ R (.slice (some ⟨b, 0, none⟩) l.length l.length) l := fun w L hs => by
  subst h
  exact hs.rd (take_append tk L) fun hh hb => rd_rows hb hn
theorem bb_rdy {b T : Nat} {σ : Sig} {R R' : List Asrt} {l : List UInt8} (tk : Take (bb b T l) R R') : Rdy σ R (.slice (some ⟨b, 0, none⟩) l.length l.length) l := fun w L hs => hs.rdB (take_append tk L) fun hh hb => by
  have := rdB_of_bb hb (Nat.le_refl l.length) (Nat.le_refl l.length)
  rwa [List.take_length] at this
theorem bb_rd {b T : Nat} {l : List UInt8} {h : Heaplet} (hb : bb b T l h) : RdB h (.slice (some ⟨b, 0, none⟩) l.length l.length) l := by
  have := rdB_of_bb hb (Nat.le_refl l.length) (Nat.le_refl l.length)
  rwa [List.take_length] at this
theorem small_upd (x y : Option Addr) (m n : Nat) : (updR (newS [7, 8, 9] 4096) 1 4 [(1, x, m, [5]), (3, y, n, [6])]).1 = 0 ∧ (updR (newS [7, 8, 9] 4096) 1 4 [(1, x, m, [5]), (3, y, n, [6])]).2.now = [7, 5, 9, 6] := by
  have h1 : aplE ([7, 8, 9] : List UInt8).length 4 [(1, x, m, [5]), (3, y, n, [6])] = 0 := by
    unfold aplE; rw [if_neg (by simp), if_neg (by simp [rgt, wL])]
  have h2 : aplR [7, 8, 9] 4 [(1, x, m, [5]), (3, y, n, [6])] = [7, 5, 9, 6] := by
    unfold aplR; rw [if_pos h1]; rfl
  have h3 : lkV [7, 8, 9] = ((0, 0, 3), [7, 8, 9]) := forged (c := [7, 8, 9]) (by decide)
  have h4 : lkV [7, 5, 9, 6] = ((0, 0, 4), [7, 5, 9, 6]) := forged (c := [7, 5, 9, 6]) (by decide)
  have e5 : savL (([7, 8, 9] : List UInt8).length : Int) [(1, x, m, [5]), (3, y, n, [6])] = [(1, 2)] := by simp [savL, wL]; decide
  have h5 : filU [7, 8, 9] 4 [(1, x, m, [5]), (3, y, n, [6])] = 2051 := by
    unfold filU bodU; rw [e5]; decide
  have hr : refE (newS [7, 8, 9] 4096) 1 4 [(1, x, m, [5]), (3, y, n, [6])] = 0 := by
    unfold refE
    rw [if_neg (by omega), if_neg (by simp [newS])]
    show (if aplE ([7, 8, 9] : List UInt8).length 4 [(1, x, m, [5]), (3, y, n, [6])] ≠ 0 then _ else if (lkV [7, 8, 9]).1.1 ≠ 0 ∨ (lkV (aplR [7, 8, 9] 4 [(1, x, m, [5]), (3, y, n, [6])])).1.1 ≠ 0 then 141 else if (4096 : Int) < filU [7, 8, 9] 4 [(1, x, m, [5]), (3, y, n, [6])] then 142 else 0) = (0 : Int)
    rw [if_neg (fun h => h h1), h2, h3, h4, if_neg (by simp), h5]
    rfl
  have := (upd_run (idle_new [7, 8, 9] 4096) hr (by simp [newS])).1 (.inl (by simp [newS]))
  exact ⟨this.1, this.2.2.trans h2⟩
theorem quiet1 : lkV [1] = ((0, 0, 1), [1]) := forged (c := [1]) (by decide)
attribute [local irreducible] Vw.sl Vw.lkV Vw.runS Vw.opsU Vw.opsR Vw.aplR Vw.aplE Vw.updR recV recS Vw.zt
theorem small_spec (w0 : World) (hT : Tab 0 (hp w0)) : Calls Tryd.prog 32 #[] w0 fun e w' => e = .returned (.bool true) ∧ Kept w0 w' None_ := by
  have hs := St.start w0 None_
  refine c_enter (N := 29) Tryd.func32 rfl Tryd.ntmps32 (by simp) ?_
  intro a hf
  refine wp_seq ?_
  refine wp_region_lit ?_
  refine s_a hf rfl ?_; clear hf a; intro a hf
  refine s_nil ?_
  refine then_n ?_
  refine wp_seq ?_
  refine wp_region_lit ?_
  refine s_do hf rfl (y_lit (xs := [.const (.int .u8 7), .const (.int .u8 8), .const (.int .u8 9)]) hs sl25 (hf.evals rfl) rfl (by simp [Value.cells]) (by decide) ?_); clear hf hs a; intro b1 w hs a hf
  replace hs : St _ _ (bb b1 5 [7, 8, 9] :: _) := hs
  refine s_do hf rfl (y_call (hf.eval rfl) (hf.evals rfl) Tryd.call25 ((dNew_in _ _ _ [7, 8, 9] (hs.rdB .k0 fun h hb => bb_rd hb) (by simp) 4096 (by omega) (by omega) (by simp)).mono ?_))
  rintro e w1 ⟨p, rfl, hj⟩
  replace hs := hs.join hj
  simp only [List.cons_append, List.nil_append] at hs
  refine ⟨_, rfl, ?_⟩; clear hf a; intro a hf
  refine s_m hf rfl ?_; clear hf a; intro a hf
  refine s_v hf (x_extract (hf.eval rfl) rfl) ?_; clear hf a; intro a hf
  refine s_v hf (x_extract (hf.eval rfl) rfl) ?_; clear hf a; intro a hf
  refine s_a hf rfl ?_; clear hf a; intro a hf
  refine s_a hf rfl ?_; clear hf a; intro a hf
  refine s_nil ?_
  refine then_n ?_
  refine wp_seq ?_
  refine wp_region_lit ?_
  refine s_m hf rfl ?_; clear hf a; intro a hf
  refine s_do hf rfl (y_lit (xs := [.const (.int .u8 5)]) hs sl25 (hf.evals rfl) rfl (by simp [Value.cells]) (by decide) ?_); clear hf hs a; intro b2 w hs a hf
  replace hs : St _ _ (bb b2 5 [5] :: _) := hs
  refine s_r hf (x_build (v := .agg #[.int .i64 1, .slice (some ⟨b2, 0, none⟩) 1 1]) (hf.parts rfl) (fun w => by kernel_rfl) _) ?_; clear hf a; intro a hf
  refine s_do hf rfl (y_lit (xs := [.const (.int .u8 6)]) hs sl25 (hf.evals rfl) rfl (by simp [Value.cells]) (by decide) ?_); clear hf hs a; intro b3 w hs a hf
  replace hs : St _ _ (bb b3 5 [6] :: _) := hs
  refine s_r hf (x_build (v := .agg #[.int .i64 3, .slice (some ⟨b3, 0, none⟩) 1 1]) (hf.parts rfl) (fun w => by kernel_rfl) _) ?_; clear hf a; intro a hf
  refine s_do hf rfl (y_lit (xs := [.tmp 11, .tmp 13]) hs sl80 (hf.evals rfl) rfl (by simp [Value.cells]) (by decide) ?_); clear hf hs a; intro b4 w hs a hf
  replace hs : St _ _ (cb b4 110 (([(1, some ⟨b2, 0, none⟩, 1, [5]), (3, some ⟨b3, 0, none⟩, 1, [6])] : List Wr).flatMap wF) :: _) := hs
  replace hs := hs.take (A := bb b3 5 [6]) (by first | exact .k0 | exact .k1 | exact .k2 | exact .k3 | exact .k4 | exact .k5 | exact .k6 | exact .k7 | exact .k8 | exact .k9 | exact .k10 | exact .k11 | exact .k12 | exact .k13)
  replace hs := hs.take (A := bb b2 5 [5]) (by first | exact .k0 | exact .k1 | exact .k2 | exact .k3 | exact .k4 | exact .k5 | exact .k6 | exact .k7 | exact .k8 | exact .k9 | exact .k10 | exact .k11 | exact .k12 | exact .k13)
  replace hs := hs.take (A := cb b4 110 (([(1, some ⟨b2, 0, none⟩, 1, [5]), (3, some ⟨b3, 0, none⟩, 1, [6])] : List Wr).flatMap wF)) (by first | exact .k0 | exact .k1 | exact .k2 | exact .k3 | exact .k4 | exact .k5 | exact .k6 | exact .k7 | exact .k8 | exact .k9 | exact .k10 | exact .k11 | exact .k12 | exact .k13)
  replace hs := hs.take (A := diskA 94 113 5 3 p (newS [7, 8, 9] 4096)) (by first | exact .k0 | exact .k1 | exact .k2 | exact .k3 | exact .k4 | exact .k5 | exact .k6 | exact .k7 | exact .k8 | exact .k9 | exact .k10 | exact .k11 | exact .k12 | exact .k13)
  obtain ⟨hu1, hu2⟩ := small_upd (some ⟨b2, 0, none⟩) (some ⟨b3, 0, none⟩) 1 1
  refine s_do hf rfl (y_call (hf.eval rfl) (hf.evals rfl) Tryd.call73 ((jupdate_spec w0 _ _ p (newS [7, 8, 9] 4096) hT hs (newS_ok (by omega) (by omega) (by simp)) 0 (newS_b _ _ _) (by omega) 1 4 (some ⟨b4, 0, none⟩) 2 [(1, some ⟨b2, 0, none⟩, 1, [5]), (3, some ⟨b3, 0, none⟩, 1, [6])] (cb_rdyS .k0 rfl rfl) (by simp) (by intro z hz; simp only [List.mem_cons, List.not_mem_nil, or_false] at hz; rcases hz with rfl | rfl; exact ⟨bb_rdy .k1, by simp⟩; exact ⟨bb_rdy .k2, by simp⟩)).mono ?_))
  rintro e w1 ⟨rfl, hs⟩
  rw [hu1]
  obtain ⟨t, ht⟩ : ∃ t, t = (updR (newS [7, 8, 9] 4096) 1 4 [(1, some ⟨b2, 0, none⟩, 1, [5]), (3, some ⟨b3, 0, none⟩, 1, [6])]).2 := ⟨_, rfl⟩
  rw [← ht] at hs hu2
  refine ⟨_, rfl, ?_⟩; clear hf a; intro a hf
  refine s_a hf rfl ?_; clear hf a; intro a hf
  refine s_nil ?_
  refine then_n ?_
  refine wp_seq ?_
  refine wp_region_lit ?_
  refine s_m hf rfl ?_; clear hf a; intro a hf
  refine s_do hf rfl (y_call (hf.eval rfl) (hf.evals rfl) Tryd.call13 ((num_spec _ _).mono ?_))
  rintro e w1 ⟨rfl, hw9⟩
  rw [hw9]
  clear hw9 w1
  refine ⟨_, rfl, ?_⟩; clear hf a; intro a hf
  refine s_v hf (x_bin (hf.eval rfl) (hf.eval rfl) (r_eq _ _ _ _)) ?_; clear hf a; intro a hf
  refine s_m hf rfl ?_; clear hf a; intro a hf
  replace hf := hf.now (k := 19) (v' := .bool true) rfl (congrArg Value.bool (by first | rfl | simp))
  refine s_do hf (wanted_of hf rfl rfl rfl) (.value (x_move (hf.eval rfl) _) ?_); clear hf a; intro a hf
  replace hs := hs.take (A := diskA 94 113 5 3 p t) (by first | exact .k0 | exact .k1 | exact .k2 | exact .k3 | exact .k4 | exact .k5 | exact .k6 | exact .k7 | exact .k8 | exact .k9 | exact .k10 | exact .k11 | exact .k12 | exact .k13)
  refine s_do hf (wanted_of hf rfl rfl rfl) (y_call (hf.eval rfl) (hf.evals rfl) Tryd.call36 ((dImage_spec _ _ _ p t hs (by rw [hu2]; simp)).mono ?_))
  rintro e w1 ⟨e1, f1, rfl, hs⟩
  rw [hu2] at hs ⊢
  refine ⟨_, rfl, ?_⟩; clear hf a; intro a hf
  refine s_do hf (wanted_of hf rfl rfl rfl) (y_lit (xs := [.const (.int .u8 7), .const (.int .u8 5), .const (.int .u8 9), .const (.int .u8 6)]) hs sl25 (hf.evals rfl) rfl (by simp [Value.cells]) (by decide) ?_); clear hf hs a; intro b5 w hs a hf
  replace hs : St _ _ (bb b5 5 [7, 5, 9, 6] :: _) := hs
  refine s_do hf (wanted_of hf rfl rfl rfl) (y_call (hf.eval rfl) (hf.evals rfl) Tryd.call12 ((same_spec _ _ _ [7, 5, 9, 6] (hs.rdB (A := slB 5 (.slice e1 ([7, 5, 9, 6] : List UInt8).length f1) [7, 5, 9, 6]) (by first | exact .k0 | exact .k1 | exact .k2 | exact .k3 | exact .k4 | exact .k5 | exact .k6 | exact .k7 | exact .k8 | exact .k9 | exact .k10 | exact .k11 | exact .k12 | exact .k13) fun h => slB_rd) _ _ [7, 5, 9, 6] (hs.rdB .k0 fun h hb => bb_rd hb) (by simp)).mono ?_))
  rintro e w1 ⟨rfl, hk⟩
  replace hs := hs.ext hk
  refine ⟨_, rfl, ?_⟩; clear hf a; intro a hf
  refine s_v hf (x_pick_t (hf.eval rfl) (hf.eval rfl)) ?_; clear hf a; intro a hf
  refine s_m hf rfl ?_; clear hf a; intro a hf
  replace hf := hf.now (k := 25) (v' := .bool true) rfl (congrArg Value.bool (by first | rfl | simp))
  refine s_do hf (wanted_of hf rfl rfl rfl) (y_lit (xs := [.const (.int .u8 1)]) hs sl25 (hf.evals rfl) rfl (by simp [Value.cells]) (by decide) ?_); clear hf hs a; intro b6 w hs a hf
  replace hs : St _ _ (bb b6 5 [1] :: _) := hs
  refine s_do hf (wanted_of hf rfl rfl rfl) (y_call (hf.eval rfl) (hf.evals rfl) Tryd.call22 ((quiet_spec _ (hT.kept hs.kept) _ _ [1] (hs.rdB .k0 fun h hb => bb_rd hb) (by simp)).mono ?_))
  rintro e w1 ⟨rfl, hk⟩
  replace hs := hs.ext hk
  rw [quiet1]
  refine ⟨_, rfl, ?_⟩; clear hf a; intro a hf
  refine s_v hf (x_pick_t (hf.eval rfl) (hf.eval rfl)) ?_; clear hf a; intro a hf
  refine s_a hf rfl ?_; clear hf a; intro a hf
  refine s_nil ?_
  refine then_n ?_
  refine wp_ret ?_
  refine r_1 hf Tryd.results32 rfl ?_
  exact ⟨by simp, hs.kept⟩
theorem again_spec (w0 : World) (hT : Tab 0 (hp w0)) (a1 : Option Addr) (c1 : Nat) (l : List UInt8) (hr1 : RdB (hp w0) (.slice a1 l.length c1) l) (hl1 : l.length ≤ 1048576) : Calls Tryd.prog 9 #[.slice a1 l.length c1] w0 fun e w' => e = .returned (.bool true) ∧ Kept w0 w' None_ := by
  have hs := St.start w0 None_
  refine c_enter (N := 121) Tryd.func9 rfl Tryd.ntmps9 (by simp) ?_
  intro a hf
  refine wp_seq ?_
  refine wp_region_lit ?_
  refine s_a hf rfl ?_; clear hf a; intro a hf
  refine s_nil ?_
  refine then_n ?_
  refine wp_seq ?_
  refine wp_region_lit ?_
  refine s_do hf rfl (y_call (hf.eval rfl) (hf.evals rfl) Tryd.call32 ((small_spec _ hT).mono ?_))
  rintro e w1 ⟨rfl, hk⟩
  replace hs := hs.ext hk
  refine ⟨_, rfl, ?_⟩; clear hf a; intro a hf
  refine s_a hf rfl ?_; clear hf a; intro a hf
  refine s_nil ?_
  refine then_n ?_
  refine wp_seq ?_
  refine wp_seq ?_
  refine wp_region_lit ?_
  refine s_m hf rfl ?_; clear hf a; intro a hf
  refine s_v hf (x_not (hf.eval rfl)) ?_; clear hf a; intro a hf
  refine s_m hf rfl ?_; clear hf a; intro a hf
  replace hf := hf.now (k := 14) (v' := .bool false) rfl (congrArg Value.bool (by first | rfl | simp))
  refine s_do hf (wanted_of hf rfl rfl rfl) (.value (x_move (hf.eval rfl) _) ?_); clear hf a; intro a hf
  refine s_do hf (wanted_of hf rfl rfl rfl) (.value (x_len Tryd.underlying25 (hf.eval rfl) _) ?_); clear hf a; intro a hf
  refine s_do hf (wanted_of hf rfl rfl rfl) (.value (x_bin (hf.eval rfl) (hf.eval rfl) (r_gt _ _ _ _) _) ?_); clear hf a; intro a hf
  refine s_v hf (x_pick_f (hf.eval rfl) (hf.eval rfl)) ?_; clear hf a; intro a hf
  refine s_nil ?_
  refine then_n ?_
  refine c_cond hf rfl (fun hi0 => ?_) (fun hi0 => ?_)
  · first | simp only [decide_eq_true_eq, decide_eq_false_iff_not, Bool.not_eq_true', Bool.not_eq_false', ne_eq, Classical.not_not] at hi0 | skip
    refine wp_seq ?_
    refine wp_region_lit ?_
    refine s_m hf rfl ?_; clear hf a; intro a hf
    refine s_a hf rfl ?_; clear hf a; intro a hf
    refine s_nil ?_
    refine then_n ?_
    refine wp_ret ?_
    refine then_r ?_
    refine r_1 hf Tryd.results9 rfl ?_
    exact ⟨rfl, hs.kept⟩
  · first | simp only [decide_eq_true_eq, decide_eq_false_iff_not, Bool.not_eq_true', Bool.not_eq_false', ne_eq, Classical.not_not] at hi0 | skip
    have hnl : (l.length : Int) ≤ (newS l (l.length : Int)).room := Int.le_refl _
    obtain ⟨q1, q2, q3, q4⟩ := (rec_run (idle_new l (l.length : Int)) hnl).1 (.inl (by show (-1 : Int) < 0; omega))
    obtain ⟨v1, v2⟩ := rec_ok (s := (newS l (l.length : Int))) rfl q1
    obtain ⟨z1, z2⟩ := lk_size l
    have z3 := opsR_nil l
    have hro := (rec_keeps (newS_ok (image := l) (room := (l.length : Int)) (by omega) (by omega) (by omega)) (newS_b l (l.length : Int) 0))
    have hrr : (recS (newS l (l.length : Int))).room = (l.length : Int) := by rw [v2]; exact runS_room _ _
    rw [← v2] at q2 q3 q4
    replace q3 : (recS (newS l (l.length : Int))).now = (lkV l).2 := q3
    replace q4 : (recS (newS l (l.length : Int))).calls = (opsR l).length := by rw [q4]; show 0 + _ = _; rw [Nat.zero_add]; rfl
    replace v1 : recV (newS l (l.length : Int)) = ((lkV l).1, 0) := v1
    obtain ⟨T, hT9⟩ : ∃ T, T = recS (newS l (l.length : Int)) := ⟨_, rfl⟩
    rw [← hT9] at q2 q3 q4 hro hrr
    refine wp_skip ?_
    refine then_n ?_
    refine wp_seq ?_
    refine wp_region_lit ?_
    refine s_m hf rfl ?_; clear hf a; intro a hf
    refine s_do hf rfl (y_call (hf.eval rfl) (hf.evals rfl) Tryd.call34 ((copied_spec _ _ _ l (hs.oldB hr1) (by omega)).mono ?_))
    rintro e w1 ⟨a2, c2, rfl, hj⟩
    replace hs := hs.join hj
    simp only [List.cons_append, List.nil_append] at hs
    refine ⟨_, rfl, ?_⟩; clear hf a; intro a hf
    refine s_do hf rfl (y_call (hf.eval rfl) (hf.evals rfl) Tryd.call20 ((look_spec _ (hT.kept hs.kept) _ _ l (hs.rdB .k0 fun h => slB_rd) (by omega)).mono ?_))
    rintro e w1 ⟨a3, fa3, rfl, hj⟩
    replace hs := hs.join hj
    simp only [List.cons_append, List.nil_append] at hs
    refine ⟨_, rfl, ?_⟩; clear hf a; intro a hf
    refine s_m hf rfl ?_; clear hf a; intro a hf
    refine s_v hf (x_extract (hf.eval rfl) rfl) ?_; clear hf a; intro a hf
    refine s_v hf (x_extract (hf.eval rfl) rfl) ?_; clear hf a; intro a hf
    refine s_do hf rfl (y_alloc hs Tryd.zeroValue45 ?_); clear hf hs a; intro b4 w hs a hf
    change St _ _ (cb b4 45 (vdF (0, 0, 0)) :: _) at hs
    refine s_do0 hf rfl (y_storeAgg (cs := vdF (lkV l).1) hs (n := 3) (by kernel_rfl) (hf.eval rfl) (hf.eval rfl) (by simp [Value.oneCell', vdF]) rfl rfl .k0 ?_); clear hf hs a; intro w hs a hf
    refine s_a hf rfl ?_; clear hf a; intro a hf
    refine s_nil ?_
    refine then_n ?_
    refine wp_seq ?_
    refine wp_region_lit ?_
    refine s_m hf rfl ?_; clear hf a; intro a hf
    refine s_do hf rfl (y_call (hf.eval rfl) (hf.evals rfl) Tryd.call34 ((copied_spec _ _ _ l (hs.oldB hr1) (by omega)).mono ?_))
    rintro e w1 ⟨a4, c4, rfl, hj⟩
    replace hs := hs.join hj
    simp only [List.cons_append, List.nil_append] at hs
    refine ⟨_, rfl, ?_⟩; clear hf a; intro a hf
    refine s_m hf rfl ?_; clear hf a; intro a hf
    refine s_v hf (x_len Tryd.underlying25 (hf.eval rfl)) ?_; clear hf a; intro a hf
    refine s_do hf rfl (y_call (hf.eval rfl) (hf.evals rfl) Tryd.call25 ((dNew_in _ _ _ l (hs.rdB .k0 fun h => slB_rd) (by omega) (l.length : Int) (by omega) (by omega) (by omega)).mono ?_))
    rintro e w1 ⟨p, rfl, hj⟩
    replace hs := hs.join hj
    simp only [List.cons_append, List.nil_append] at hs
    refine ⟨_, rfl, ?_⟩; clear hf a; intro a hf
    refine s_m hf rfl ?_; clear hf a; intro a hf
    refine s_v hf (x_extract (hf.eval rfl) rfl) ?_; clear hf a; intro a hf
    refine s_v hf (x_extract (hf.eval rfl) rfl) ?_; clear hf a; intro a hf
    refine s_a hf rfl ?_; clear hf a; intro a hf
    refine s_a hf rfl ?_; clear hf a; intro a hf
    refine s_nil ?_
    refine then_n ?_
    refine wp_seq ?_
    refine wp_region_lit ?_
    refine s_m hf rfl ?_; clear hf a; intro a hf
    refine s_do hf rfl (y_call (hf.eval rfl) (hf.evals rfl) Tryd.call29 ((recover_spec w0 _ _ p (newS l (l.length : Int)) hT hs (newS_ok (by omega) (by omega) (by omega)) 0 (newS_b _ _ _) (by omega)).mono ?_))
    rintro e w1 ⟨rfl, hs⟩
    rw [← hT9] at hs
    rw [v1]
    refine ⟨_, rfl, ?_⟩; clear hf a; intro a hf
    refine s_m hf rfl ?_; clear hf a; intro a hf
    refine s_v hf (x_extract (hf.eval rfl) rfl) ?_; clear hf a; intro a hf
    refine s_v hf (x_extract (hf.eval rfl) rfl) ?_; clear hf a; intro a hf
    refine s_do hf rfl (y_alloc hs Tryd.zeroValue45 ?_); clear hf hs a; intro b8 w hs a hf
    change St _ _ (cb b8 45 (vdF (0, 0, 0)) :: _) at hs
    refine s_do0 hf rfl (y_storeAgg (cs := vdF (lkV l).1) hs (n := 3) (by kernel_rfl) (hf.eval rfl) (hf.eval rfl) (by simp [Value.oneCell', vdF]) rfl rfl .k0 ?_); clear hf hs a; intro w hs a hf
    refine s_a hf rfl ?_; clear hf a; intro a hf
    refine s_nil ?_
    refine then_n ?_
    refine wp_seq ?_
    refine wp_seq ?_
    refine wp_region_lit ?_
    refine s_m hf rfl ?_; clear hf a; intro a hf
    refine s_do hf rfl (y_call (hf.eval rfl) (hf.evals rfl) Tryd.call13 ((num_spec _ _).mono ?_))
    rintro e w1 ⟨rfl, hw9⟩
    rw [hw9]
    clear hw9 w1
    refine ⟨_, rfl, ?_⟩; clear hf a; intro a hf
    refine s_v hf (x_bin (hf.eval rfl) (hf.eval rfl) (r_ne _ _ _ _)) ?_; clear hf a; intro a hf
    refine s_m hf rfl ?_; clear hf a; intro a hf
    replace hf := hf.now (k := 42) (v' := .bool false) rfl (congrArg Value.bool (by first | rfl | simp))
    replace hs := hs.take (A := cb b8 45 (vdF (lkV l).1)) (by first | exact .k0 | exact .k1 | exact .k2 | exact .k3 | exact .k4 | exact .k5 | exact .k6 | exact .k7 | exact .k8 | exact .k9 | exact .k10 | exact .k11 | exact .k12 | exact .k13)
    refine s_do hf (wanted_of hf rfl rfl rfl) (.value (x_loadBlk hs ag45 (hf.eval rfl) rfl (by first | exact .k0 | exact .k1 | exact .k2 | exact .k3 | exact .k4 | exact .k5 | exact .k6 | exact .k7 | exact .k8 | exact .k9)) ?_); clear hf a; intro a hf
    replace hs := hs.take (A := cb b4 45 (vdF (lkV l).1)) (by first | exact .k0 | exact .k1 | exact .k2 | exact .k3 | exact .k4 | exact .k5 | exact .k6 | exact .k7 | exact .k8 | exact .k9 | exact .k10 | exact .k11 | exact .k12 | exact .k13)
    refine s_do hf (wanted_of hf rfl rfl rfl) (.value (x_loadBlk hs ag45 (hf.eval rfl) rfl (by first | exact .k0 | exact .k1 | exact .k2 | exact .k3 | exact .k4 | exact .k5 | exact .k6 | exact .k7 | exact .k8 | exact .k9)) ?_); clear hf a; intro a hf
    refine s_do hf (wanted_of hf rfl rfl rfl) (.value (x_vdNe (s := (lkV l).1) (t := (lkV l).1) (hf.eval rfl) (hf.eval rfl) rfl _) ?_); clear hf a; intro a hf
    refine s_v hf (x_pick_f (hf.eval rfl) (hf.eval rfl)) ?_; clear hf a; intro a hf
    refine s_m hf rfl ?_; clear hf a; intro a hf
    replace hf := hf.now (k := 47) (v' := .bool false) rfl (congrArg Value.bool (by first | rfl | simp))
    refine s_do hf (wanted_of hf rfl rfl rfl) (.value (x_fieldAddr fo45_2 (hf.eval rfl) _) ?_); clear hf a; intro a hf
    refine s_do hf (wanted_of hf rfl rfl rfl) (.value (x_load sc3 (hf.eval rfl) (by first | exact hs.cell .k0 rfl | exact hs.cell .k1 rfl | exact hs.cell .k2 rfl | exact hs.cell .k3 rfl | exact hs.cell .k4 rfl | exact hs.cell .k5 rfl | exact hs.cell .k6 rfl | exact hs.cell .k7 rfl | exact hs.cell .k8 rfl | exact hs.cell .k9 rfl)) ?_); clear hf a; intro a hf
    replace hf := hf.now (k := 49) (v' := .int .i64 ((lkV l).2.length : Int)) rfl (congrArg (Value.int .i64) z1)
    refine s_do hf (wanted_of hf rfl rfl rfl) (.value (x_move (hf.eval rfl) _) ?_); clear hf a; intro a hf
    refine s_do hf (wanted_of hf rfl rfl rfl) (.value (x_len Tryd.underlying25 (hf.eval rfl) _) ?_); clear hf a; intro a hf
    refine s_do hf (wanted_of hf rfl rfl rfl) (.value (x_bin (hf.eval rfl) (hf.eval rfl) (r_ne _ _ _ _) _) ?_); clear hf a; intro a hf
    refine s_v hf (x_pick_f (hf.eval rfl) (hf.eval rfl)) ?_; clear hf a; intro a hf
    refine s_m hf rfl ?_; clear hf a; intro a hf
    replace hf := hf.now (k := 54) (v' := .bool false) rfl (congrArg Value.bool (by first | rfl | simp))
    refine s_do hf (wanted_of hf rfl rfl rfl) (.value (x_move (hf.eval rfl) _) ?_); clear hf a; intro a hf
    replace hs := hs.take (A := diskA 94 113 5 3 p T) (by first | exact .k0 | exact .k1 | exact .k2 | exact .k3 | exact .k4 | exact .k5 | exact .k6 | exact .k7 | exact .k8 | exact .k9 | exact .k10 | exact .k11 | exact .k12 | exact .k13)
    refine s_do hf (wanted_of hf rfl rfl rfl) (y_call (hf.eval rfl) (hf.evals rfl) Tryd.call36 ((dImage_spec _ _ _ p T hs (by rw [q3]; omega)).mono ?_))
    rintro e w1 ⟨e1, fe1, rfl, hs⟩
    rw [q3] at hs ⊢
    replace hs : St _ _ (slB 5 (.slice e1 (lkV l).2.length fe1) (lkV l).2 :: _) := hs
    refine ⟨_, rfl, ?_⟩; clear hf a; intro a hf
    refine s_do hf (wanted_of hf rfl rfl rfl) (.value (x_move (hf.eval rfl) _) ?_); clear hf a; intro a hf
    refine s_do hf (wanted_of hf rfl rfl rfl) (y_call (hf.eval rfl) (hf.evals rfl) Tryd.call12 ((same_spec _ _ _ (lkV l).2 (hs.rdB .k0 fun h => slB_rd) _ _ (lkV l).2 (hs.rdB (A := slB 5 (.slice a3 (lkV l).2.length fa3) (lkV l).2) (by first | exact .k0 | exact .k1 | exact .k2 | exact .k3 | exact .k4 | exact .k5 | exact .k6 | exact .k7 | exact .k8 | exact .k9 | exact .k10 | exact .k11 | exact .k12 | exact .k13) fun h => slB_rd) (by omega)).mono ?_))
    rintro e w1 ⟨rfl, hk⟩
    replace hs := hs.ext hk
    refine ⟨_, rfl, ?_⟩; clear hf a; intro a hf
    refine s_do hf (wanted_of hf rfl rfl rfl) (.value (x_not (hf.eval rfl) _) ?_); clear hf a; intro a hf
    refine s_v hf (x_pick_f (hf.eval rfl) (hf.eval rfl)) ?_; clear hf a; intro a hf
    refine s_nil ?_
    refine then_n ?_
    refine c_cond_f hf rfl (by simp) ?_
    refine wp_skip ?_
    refine then_n ?_
    refine wp_seq ?_
    refine wp_region_lit ?_
    refine s_m hf rfl ?_; clear hf a; intro a hf
    replace hs := hs.take (A := diskA 94 113 5 3 p T) (by first | exact .k0 | exact .k1 | exact .k2 | exact .k3 | exact .k4 | exact .k5 | exact .k6 | exact .k7 | exact .k8 | exact .k9 | exact .k10 | exact .k11 | exact .k12 | exact .k13)
    refine s_do hf rfl (y_call (hf.eval rfl) (hf.evals rfl) Tryd.call35 ((dCalls_spec _ _ _ p T hs).mono ?_))
    rintro e w1 ⟨rfl, hw9⟩
    rw [hw9]
    clear hw9 w1
    rw [q4]
    refine ⟨_, rfl, ?_⟩; clear hf a; intro a hf
    refine s_a hf rfl ?_; clear hf a; intro a hf
    refine s_nil ?_
    refine then_n ?_
    refine wp_seq ?_
    refine wp_seq ?_
    refine wp_region_lit ?_
    refine s_v hf (x_fieldAddr fo45_0 (hf.eval rfl)) ?_; clear hf a; intro a hf
    refine s_r hf (x_load sc3 (hf.eval rfl) (by first | exact hs.cell .k0 rfl | exact hs.cell .k1 rfl | exact hs.cell .k2 rfl | exact hs.cell .k3 rfl | exact hs.cell .k4 rfl | exact hs.cell .k5 rfl | exact hs.cell .k6 rfl | exact hs.cell .k7 rfl | exact hs.cell .k8 rfl | exact hs.cell .k9 rfl)) ?_; clear hf a; intro a hf
    replace hf := hf.now (k := 64) (v' := .int .i64 (lkV l).1.1) rfl (rfl)
    refine s_v hf (x_bin (hf.eval rfl) (hf.eval rfl) (r_eq _ _ _ _)) ?_; clear hf a; intro a hf
    refine s_m hf rfl ?_; clear hf a; intro a hf
    refine s_bool hf (k := 66) rfl (fun hg10_3 hf' => ?_) (fun hg10_3 hf' => ?_)
    · clear hf
      have hf := hf'
      clear hf'
      first | simp only [decide_eq_true_eq, decide_eq_false_iff_not, Bool.not_eq_true', Bool.not_eq_false', ne_eq, Classical.not_not] at hg10_3 | skip
      have hz0 := z3.1 hg10_3
      have hx0 : (lkV l).2 = l := lk_none hg10_3
      refine s_do hf (wanted_of hf rfl rfl rfl) (.value (x_move (hf.eval rfl) _) ?_); clear hf a; intro a hf
      refine s_do hf (wanted_of hf rfl rfl rfl) (.value (x_bin (hf.eval rfl) (hf.eval rfl) (r_ne _ _ _ _) _) ?_); clear hf a; intro a hf
      refine s_do hf (wanted_of hf rfl rfl rfl) (.value (x_move (hf.eval rfl) _) ?_); clear hf a; intro a hf
      replace hf := hf.now (k := 69) (v' := .bool false) rfl (congrArg Value.bool (by simp [hz0]))
      refine s_do hf (wanted_of hf rfl rfl rfl) (.value (x_move (hf.eval rfl) _) ?_); clear hf a; intro a hf
      refine s_do hf (wanted_of hf rfl rfl rfl) (.value (x_move (hf.eval rfl) _) ?_); clear hf a; intro a hf
      refine s_do hf (wanted_of hf rfl rfl rfl) (y_call (hf.eval rfl) (hf.evals rfl) Tryd.call12 ((same_spec _ _ _ (lkV l).2 (hs.rdB (A := slB 5 (.slice a3 (lkV l).2.length fa3) (lkV l).2) (by first | exact .k0 | exact .k1 | exact .k2 | exact .k3 | exact .k4 | exact .k5 | exact .k6 | exact .k7 | exact .k8 | exact .k9 | exact .k10 | exact .k11 | exact .k12 | exact .k13) fun h => slB_rd) _ _ l (hs.oldB hr1) (by omega)).mono ?_))
      rintro e w1 ⟨rfl, hk⟩
      replace hs := hs.ext hk
      refine ⟨_, rfl, ?_⟩; clear hf a; intro a hf
      refine s_do hf (wanted_of hf rfl rfl rfl) (.value (x_not (hf.eval rfl) _) ?_); clear hf a; intro a hf
      refine s_do hf (wanted_of hf rfl rfl rfl) (.value (x_pick_f (hf.eval rfl) (hf.eval rfl) _) ?_); clear hf a; intro a hf
      refine s_v hf (x_pick_t (hf.eval rfl) (hf.eval rfl)) ?_; clear hf a; intro a hf
      refine s_nil ?_
      refine then_n ?_
      refine c_cond_f hf rfl (by first | rfl | simp [hx0]) ?_
      refine wp_skip ?_
      refine then_n ?_
      refine wp_seq ?_
      refine wp_seq ?_
      refine wp_region_lit ?_
      refine s_v hf (x_fieldAddr fo45_0 (hf.eval rfl)) ?_; clear hf a; intro a hf
      refine s_r hf (x_load sc3 (hf.eval rfl) (by first | exact hs.cell .k0 rfl | exact hs.cell .k1 rfl | exact hs.cell .k2 rfl | exact hs.cell .k3 rfl | exact hs.cell .k4 rfl | exact hs.cell .k5 rfl | exact hs.cell .k6 rfl | exact hs.cell .k7 rfl | exact hs.cell .k8 rfl | exact hs.cell .k9 rfl)) ?_; clear hf a; intro a hf
      replace hf := hf.now (k := 77) (v' := .int .i64 (lkV l).1.1) rfl (rfl)
      refine s_v hf (x_bin (hf.eval rfl) (hf.eval rfl) (r_ne _ _ _ _)) ?_; clear hf a; intro a hf
      refine s_m hf rfl ?_; clear hf a; intro a hf
      refine s_bool hf (k := 79) rfl (fun hg12_3 hf' => ?_) (fun hg12_3 hf' => ?_)
      · clear hf
        have hf := hf'
        clear hf'
        first | simp only [decide_eq_true_eq, decide_eq_false_iff_not, Bool.not_eq_true', Bool.not_eq_false', ne_eq, Classical.not_not] at hg12_3 | skip
        refine s_do hf (wanted_of hf rfl rfl rfl) (.value (x_move (hf.eval rfl) _) ?_); clear hf a; intro a hf
        refine s_do hf (wanted_of hf rfl rfl rfl) (.value (x_bin (hf.eval rfl) (hf.eval rfl) (r_eq _ _ _ _) _) ?_); clear hf a; intro a hf
        refine s_v hf (x_pick_t (hf.eval rfl) (hf.eval rfl)) ?_; clear hf a; intro a hf
        refine s_nil ?_
        refine then_n ?_
        refine c_cond_f hf rfl (by first | rfl | (simp; intro h9; exact hg12_3 (z3.2 (by rw [h9]; rfl)))) ?_
        refine wp_skip ?_
        refine then_n ?_
        refine wp_seq ?_
        refine wp_seq ?_
        refine wp_region_lit ?_
        refine s_m hf rfl ?_; clear hf a; intro a hf
        refine s_do hf rfl (y_call (hf.eval rfl) (hf.evals rfl) Tryd.call22 ((quiet_spec _ (hT.kept hs.kept) _ _ (lkV l).2 (hs.rdB (A := slB 5 (.slice a3 (lkV l).2.length fa3) (lkV l).2) (by first | exact .k0 | exact .k1 | exact .k2 | exact .k3 | exact .k4 | exact .k5 | exact .k6 | exact .k7 | exact .k8 | exact .k9 | exact .k10 | exact .k11 | exact .k12 | exact .k13) fun h => slB_rd) (by omega)).mono ?_))
        rintro e w1 ⟨rfl, hk⟩
        replace hs := hs.ext hk
        refine ⟨_, rfl, ?_⟩; clear hf a; intro a hf
        refine s_nil ?_
        refine then_n ?_
        refine c_cond hf rfl (fun hi4 => ?_) (fun hi4 => ?_)
        · first | simp only [decide_eq_true_eq, decide_eq_false_iff_not, Bool.not_eq_true', Bool.not_eq_false', ne_eq, Classical.not_not] at hi4 | skip
          have hq9 := (quiet_self hi4).1
          obtain ⟨y1, y2⟩ := rec_none (s := T) q2.dead (by rw [q3]; exact hi4)
          rw [q3, hq9] at y1
          refine wp_seq ?_
          refine wp_region_lit ?_
          refine s_m hf rfl ?_; clear hf a; intro a hf
          replace hs := hs.take (A := diskA 94 113 5 3 p T) (by first | exact .k0 | exact .k1 | exact .k2 | exact .k3 | exact .k4 | exact .k5 | exact .k6 | exact .k7 | exact .k8 | exact .k9 | exact .k10 | exact .k11 | exact .k12 | exact .k13)
          refine s_do hf rfl (y_call (hf.eval rfl) (hf.evals rfl) Tryd.call29 ((recover_spec w0 _ _ p T hT hs hro.1 _ (hro.2.2.up (Nat.le_refl _)) (by omega)).mono ?_))
          rintro e w1 ⟨rfl, hs⟩
          rw [y2] at hs
          rw [y1]
          refine ⟨_, rfl, ?_⟩; clear hf a; intro a hf
          refine s_m hf rfl ?_; clear hf a; intro a hf
          refine s_v hf (x_extract (hf.eval rfl) rfl) ?_; clear hf a; intro a hf
          refine s_v hf (x_extract (hf.eval rfl) rfl) ?_; clear hf a; intro a hf
          replace hs := hs.take (A := cb b8 45 (vdF (lkV l).1)) (by first | exact .k0 | exact .k1 | exact .k2 | exact .k3 | exact .k4 | exact .k5 | exact .k6 | exact .k7 | exact .k8 | exact .k9 | exact .k10 | exact .k11 | exact .k12 | exact .k13)
          refine s_do0 hf rfl (y_storeAgg (cs := vdF (0, 0, ((lkV l).2.length : Int))) hs (n := 3) (by kernel_rfl) (hf.eval rfl) (hf.eval rfl) (by simp [Value.oneCell', vdF]) rfl rfl .k0 ?_); clear hf hs a; intro w hs a hf
          refine s_a hf rfl ?_; clear hf a; intro a hf
          refine s_nil ?_
          refine then_n ?_
          refine wp_seq ?_
          refine wp_region_lit ?_
          refine s_m hf rfl ?_; clear hf a; intro a hf
          refine s_do hf rfl (y_call (hf.eval rfl) (hf.evals rfl) Tryd.call13 ((num_spec _ _).mono ?_))
          rintro e w1 ⟨rfl, hw9⟩
          rw [hw9]
          clear hw9 w1
          refine ⟨_, rfl, ?_⟩; clear hf a; intro a hf
          refine s_v hf (x_bin (hf.eval rfl) (hf.eval rfl) (r_ne _ _ _ _)) ?_; clear hf a; intro a hf
          refine s_m hf rfl ?_; clear hf a; intro a hf
          replace hf := hf.now (k := 93) (v' := .bool false) rfl (congrArg Value.bool (by first | rfl | simp))
          refine s_do hf (wanted_of hf rfl rfl rfl) (.value (x_fieldAddr fo45_0 (hf.eval rfl) _) ?_); clear hf a; intro a hf
          refine s_do hf (wanted_of hf rfl rfl rfl) (.value (x_load sc3 (hf.eval rfl) (by first | exact hs.cell .k0 rfl | exact hs.cell .k1 rfl | exact hs.cell .k2 rfl | exact hs.cell .k3 rfl | exact hs.cell .k4 rfl | exact hs.cell .k5 rfl | exact hs.cell .k6 rfl | exact hs.cell .k7 rfl | exact hs.cell .k8 rfl | exact hs.cell .k9 rfl)) ?_); clear hf a; intro a hf
          refine s_do hf (wanted_of hf rfl rfl rfl) (.value (x_bin (hf.eval rfl) (hf.eval rfl) (r_ne _ _ _ _) _) ?_); clear hf a; intro a hf
          refine s_v hf (x_pick_f (hf.eval rfl) (hf.eval rfl)) ?_; clear hf a; intro a hf
          refine s_m hf rfl ?_; clear hf a; intro a hf
          replace hf := hf.now (k := 98) (v' := .bool false) rfl (congrArg Value.bool (by first | rfl | simp))
          refine s_do hf (wanted_of hf rfl rfl rfl) (.value (x_fieldAddr fo45_2 (hf.eval rfl) _) ?_); clear hf a; intro a hf
          refine s_do hf (wanted_of hf rfl rfl rfl) (.value (x_load sc3 (hf.eval rfl) (by first | exact hs.cell .k0 rfl | exact hs.cell .k1 rfl | exact hs.cell .k2 rfl | exact hs.cell .k3 rfl | exact hs.cell .k4 rfl | exact hs.cell .k5 rfl | exact hs.cell .k6 rfl | exact hs.cell .k7 rfl | exact hs.cell .k8 rfl | exact hs.cell .k9 rfl)) ?_); clear hf a; intro a hf
          refine s_do hf (wanted_of hf rfl rfl rfl) (.value (x_move (hf.eval rfl) _) ?_); clear hf a; intro a hf
          refine s_do hf (wanted_of hf rfl rfl rfl) (.value (x_len Tryd.underlying25 (hf.eval rfl) _) ?_); clear hf a; intro a hf
          refine s_do hf (wanted_of hf rfl rfl rfl) (.value (x_bin (hf.eval rfl) (hf.eval rfl) (r_ne _ _ _ _) _) ?_); clear hf a; intro a hf
          refine s_v hf (x_pick_f (hf.eval rfl) (hf.eval rfl)) ?_; clear hf a; intro a hf
          refine s_m hf rfl ?_; clear hf a; intro a hf
          replace hf := hf.now (k := 105) (v' := .bool false) rfl (congrArg Value.bool (by first | rfl | simp))
          refine s_do hf (wanted_of hf rfl rfl rfl) (.value (x_move (hf.eval rfl) _) ?_); clear hf a; intro a hf
          replace hs := hs.take (A := diskA 94 113 5 3 p T) (by first | exact .k0 | exact .k1 | exact .k2 | exact .k3 | exact .k4 | exact .k5 | exact .k6 | exact .k7 | exact .k8 | exact .k9 | exact .k10 | exact .k11 | exact .k12 | exact .k13)
          refine s_do hf (wanted_of hf rfl rfl rfl) (y_call (hf.eval rfl) (hf.evals rfl) Tryd.call35 ((dCalls_spec _ _ _ p T hs).mono ?_))
          rintro e w1 ⟨rfl, hw9⟩
          rw [hw9]
          clear hw9 w1
          rw [q4]
          refine ⟨_, rfl, ?_⟩; clear hf a; intro a hf
          refine s_do hf (wanted_of hf rfl rfl rfl) (.value (x_move (hf.eval rfl) _) ?_); clear hf a; intro a hf
          refine s_do hf (wanted_of hf rfl rfl rfl) (.value (x_bin (hf.eval rfl) (hf.eval rfl) (r_ne _ _ _ _) _) ?_); clear hf a; intro a hf
          refine s_v hf (x_pick_f (hf.eval rfl) (hf.eval rfl)) ?_; clear hf a; intro a hf
          refine s_nil ?_
          refine then_n ?_
          refine c_cond_f hf rfl (by simp) ?_
          refine wp_skip ?_
          refine then_n ?_
          refine wp_seq ?_
          refine wp_region_lit ?_
          refine s_m hf rfl ?_; clear hf a; intro a hf
          refine s_r hf (x_build (v := .agg #[.int .i64 0, .slice none 0 0, .int .i64 0]) (hf.parts rfl) (fun w => by kernel_rfl) _) ?_; clear hf a; intro a hf
          replace hs := hs.take (A := diskA 94 113 5 3 p T) (by first | exact .k0 | exact .k1 | exact .k2 | exact .k3 | exact .k4 | exact .k5 | exact .k6 | exact .k7 | exact .k8 | exact .k9 | exact .k10 | exact .k11 | exact .k12 | exact .k13)
          refine s_do hf rfl (y_call (hf.eval rfl) (hf.evals rfl) Tryd.call37 ((dCrash_spec _ _ _ p T hs 0 none 0 [] 0 hro.1 (fun w L hs => ⟨rfl, .inl ⟨0, rfl, rfl⟩⟩) (by rw [q2.sizes]; simp) (by rw [q2.pcs]; simp)).mono ?_))
          rintro e w1 ⟨p2, rfl, hs⟩
          rw [idle_out q2, q3] at hs
          refine ⟨_, rfl, ?_⟩; clear hf a; intro a hf
          refine s_m hf rfl ?_; clear hf a; intro a hf
          refine s_v hf (x_extract (hf.eval rfl) rfl) ?_; clear hf a; intro a hf
          refine s_v hf (x_extract (hf.eval rfl) rfl) ?_; clear hf a; intro a hf
          refine s_a hf rfl ?_; clear hf a; intro a hf
          refine s_nil ?_
          refine then_n ?_
          refine wp_seq ?_
          refine wp_region_lit ?_
          refine s_m hf rfl ?_; clear hf a; intro a hf
          replace hs := hs.take (A := diskA 94 113 5 3 p2 (newS (lkV l).2 T.room)) (by first | exact .k0 | exact .k1 | exact .k2 | exact .k3 | exact .k4 | exact .k5 | exact .k6 | exact .k7 | exact .k8 | exact .k9 | exact .k10 | exact .k11 | exact .k12 | exact .k13)
          refine s_do hf rfl (y_call (hf.eval rfl) (hf.evals rfl) Tryd.call36 ((dImage_spec _ _ _ p2 (newS (lkV l).2 T.room) hs (by show (lkV l).2.length ≤ 140737488351232; omega)).mono ?_))
          rintro e w1 ⟨e5, fe5, rfl, hs⟩
          replace hs : St _ _ (slB 5 (.slice e5 (lkV l).2.length fe5) (lkV l).2 :: _) := hs
          refine ⟨_, rfl, ?_⟩; clear hf a; intro a hf
          refine s_m hf rfl ?_; clear hf a; intro a hf
          refine s_do hf rfl (y_call (hf.eval rfl) (hf.evals rfl) Tryd.call12 ((same_spec _ _ _ (lkV l).2 (hs.rdB .k0 fun h => slB_rd) _ _ (lkV l).2 (hs.rdB (A := slB 5 (.slice a3 (lkV l).2.length fa3) (lkV l).2) (by first | exact .k0 | exact .k1 | exact .k2 | exact .k3 | exact .k4 | exact .k5 | exact .k6 | exact .k7 | exact .k8 | exact .k9 | exact .k10 | exact .k11 | exact .k12 | exact .k13) fun h => slB_rd) (by omega)).mono ?_))
          rintro e w1 ⟨rfl, hk⟩
          replace hs := hs.ext hk
          refine ⟨_, rfl, ?_⟩; clear hf a; intro a hf
          refine s_a hf rfl ?_; clear hf a; intro a hf
          refine s_nil ?_
          refine then_n ?_
          refine wp_ret ?_
          refine r_1 hf Tryd.results9 rfl ?_
          exact ⟨by simp, hs.kept⟩
        · first | simp only [decide_eq_true_eq, decide_eq_false_iff_not, Bool.not_eq_true', Bool.not_eq_false', ne_eq, Classical.not_not] at hi4 | skip
          refine wp_skip ?_
          refine then_n ?_
          refine wp_seq ?_
          refine wp_region_lit ?_
          refine s_m hf rfl ?_; clear hf a; intro a hf
          refine s_r hf (x_build (v := .agg #[.int .i64 0, .slice none 0 0, .int .i64 0]) (hf.parts rfl) (fun w => by kernel_rfl) _) ?_; clear hf a; intro a hf
          replace hs := hs.take (A := diskA 94 113 5 3 p T) (by first | exact .k0 | exact .k1 | exact .k2 | exact .k3 | exact .k4 | exact .k5 | exact .k6 | exact .k7 | exact .k8 | exact .k9 | exact .k10 | exact .k11 | exact .k12 | exact .k13)
          refine s_do hf rfl (y_call (hf.eval rfl) (hf.evals rfl) Tryd.call37 ((dCrash_spec _ _ _ p T hs 0 none 0 [] 0 hro.1 (fun w L hs => ⟨rfl, .inl ⟨0, rfl, rfl⟩⟩) (by rw [q2.sizes]; simp) (by rw [q2.pcs]; simp)).mono ?_))
          rintro e w1 ⟨p2, rfl, hs⟩
          rw [idle_out q2, q3] at hs
          refine ⟨_, rfl, ?_⟩; clear hf a; intro a hf
          refine s_m hf rfl ?_; clear hf a; intro a hf
          refine s_v hf (x_extract (hf.eval rfl) rfl) ?_; clear hf a; intro a hf
          refine s_v hf (x_extract (hf.eval rfl) rfl) ?_; clear hf a; intro a hf
          refine s_a hf rfl ?_; clear hf a; intro a hf
          refine s_nil ?_
          refine then_n ?_
          refine wp_seq ?_
          refine wp_region_lit ?_
          refine s_m hf rfl ?_; clear hf a; intro a hf
          replace hs := hs.take (A := diskA 94 113 5 3 p2 (newS (lkV l).2 T.room)) (by first | exact .k0 | exact .k1 | exact .k2 | exact .k3 | exact .k4 | exact .k5 | exact .k6 | exact .k7 | exact .k8 | exact .k9 | exact .k10 | exact .k11 | exact .k12 | exact .k13)
          refine s_do hf rfl (y_call (hf.eval rfl) (hf.evals rfl) Tryd.call36 ((dImage_spec _ _ _ p2 (newS (lkV l).2 T.room) hs (by show (lkV l).2.length ≤ 140737488351232; omega)).mono ?_))
          rintro e w1 ⟨e5, fe5, rfl, hs⟩
          replace hs : St _ _ (slB 5 (.slice e5 (lkV l).2.length fe5) (lkV l).2 :: _) := hs
          refine ⟨_, rfl, ?_⟩; clear hf a; intro a hf
          refine s_m hf rfl ?_; clear hf a; intro a hf
          refine s_do hf rfl (y_call (hf.eval rfl) (hf.evals rfl) Tryd.call12 ((same_spec _ _ _ (lkV l).2 (hs.rdB .k0 fun h => slB_rd) _ _ (lkV l).2 (hs.rdB (A := slB 5 (.slice a3 (lkV l).2.length fa3) (lkV l).2) (by first | exact .k0 | exact .k1 | exact .k2 | exact .k3 | exact .k4 | exact .k5 | exact .k6 | exact .k7 | exact .k8 | exact .k9 | exact .k10 | exact .k11 | exact .k12 | exact .k13) fun h => slB_rd) (by omega)).mono ?_))
          rintro e w1 ⟨rfl, hk⟩
          replace hs := hs.ext hk
          refine ⟨_, rfl, ?_⟩; clear hf a; intro a hf
          refine s_a hf rfl ?_; clear hf a; intro a hf
          refine s_nil ?_
          refine then_n ?_
          refine wp_ret ?_
          refine r_1 hf Tryd.results9 rfl ?_
          exact ⟨by simp, hs.kept⟩
      · clear hf
        have hf := hf'
        clear hf'
        first | simp only [decide_eq_true_eq, decide_eq_false_iff_not, Bool.not_eq_true', Bool.not_eq_false', ne_eq, Classical.not_not] at hg12_3 | skip
        refine s_pass hf rfl rfl ?_; clear hf a; intro a hf
        refine s_pass hf rfl rfl ?_; clear hf a; intro a hf
        refine s_v hf (x_pick_f (hf.eval rfl) (hf.eval rfl)) ?_; clear hf a; intro a hf
        refine s_nil ?_
        refine then_n ?_
        refine c_cond_f hf rfl (by first | rfl | (simp; intro h9; exact hg12_3 (z3.2 (by rw [h9]; rfl)))) ?_
        refine wp_skip ?_
        refine then_n ?_
        refine wp_seq ?_
        refine wp_seq ?_
        refine wp_region_lit ?_
        refine s_m hf rfl ?_; clear hf a; intro a hf
        refine s_do hf rfl (y_call (hf.eval rfl) (hf.evals rfl) Tryd.call22 ((quiet_spec _ (hT.kept hs.kept) _ _ (lkV l).2 (hs.rdB (A := slB 5 (.slice a3 (lkV l).2.length fa3) (lkV l).2) (by first | exact .k0 | exact .k1 | exact .k2 | exact .k3 | exact .k4 | exact .k5 | exact .k6 | exact .k7 | exact .k8 | exact .k9 | exact .k10 | exact .k11 | exact .k12 | exact .k13) fun h => slB_rd) (by omega)).mono ?_))
        rintro e w1 ⟨rfl, hk⟩
        replace hs := hs.ext hk
        refine ⟨_, rfl, ?_⟩; clear hf a; intro a hf
        refine s_nil ?_
        refine then_n ?_
        refine c_cond hf rfl (fun hi4 => ?_) (fun hi4 => ?_)
        · first | simp only [decide_eq_true_eq, decide_eq_false_iff_not, Bool.not_eq_true', Bool.not_eq_false', ne_eq, Classical.not_not] at hi4 | skip
          have hq9 := (quiet_self hi4).1
          obtain ⟨y1, y2⟩ := rec_none (s := T) q2.dead (by rw [q3]; exact hi4)
          rw [q3, hq9] at y1
          refine wp_seq ?_
          refine wp_region_lit ?_
          refine s_m hf rfl ?_; clear hf a; intro a hf
          replace hs := hs.take (A := diskA 94 113 5 3 p T) (by first | exact .k0 | exact .k1 | exact .k2 | exact .k3 | exact .k4 | exact .k5 | exact .k6 | exact .k7 | exact .k8 | exact .k9 | exact .k10 | exact .k11 | exact .k12 | exact .k13)
          refine s_do hf rfl (y_call (hf.eval rfl) (hf.evals rfl) Tryd.call29 ((recover_spec w0 _ _ p T hT hs hro.1 _ (hro.2.2.up (Nat.le_refl _)) (by omega)).mono ?_))
          rintro e w1 ⟨rfl, hs⟩
          rw [y2] at hs
          rw [y1]
          refine ⟨_, rfl, ?_⟩; clear hf a; intro a hf
          refine s_m hf rfl ?_; clear hf a; intro a hf
          refine s_v hf (x_extract (hf.eval rfl) rfl) ?_; clear hf a; intro a hf
          refine s_v hf (x_extract (hf.eval rfl) rfl) ?_; clear hf a; intro a hf
          replace hs := hs.take (A := cb b8 45 (vdF (lkV l).1)) (by first | exact .k0 | exact .k1 | exact .k2 | exact .k3 | exact .k4 | exact .k5 | exact .k6 | exact .k7 | exact .k8 | exact .k9 | exact .k10 | exact .k11 | exact .k12 | exact .k13)
          refine s_do0 hf rfl (y_storeAgg (cs := vdF (0, 0, ((lkV l).2.length : Int))) hs (n := 3) (by kernel_rfl) (hf.eval rfl) (hf.eval rfl) (by simp [Value.oneCell', vdF]) rfl rfl .k0 ?_); clear hf hs a; intro w hs a hf
          refine s_a hf rfl ?_; clear hf a; intro a hf
          refine s_nil ?_
          refine then_n ?_
          refine wp_seq ?_
          refine wp_region_lit ?_
          refine s_m hf rfl ?_; clear hf a; intro a hf
          refine s_do hf rfl (y_call (hf.eval rfl) (hf.evals rfl) Tryd.call13 ((num_spec _ _).mono ?_))
          rintro e w1 ⟨rfl, hw9⟩
          rw [hw9]
          clear hw9 w1
          refine ⟨_, rfl, ?_⟩; clear hf a; intro a hf
          refine s_v hf (x_bin (hf.eval rfl) (hf.eval rfl) (r_ne _ _ _ _)) ?_; clear hf a; intro a hf
          refine s_m hf rfl ?_; clear hf a; intro a hf
          replace hf := hf.now (k := 93) (v' := .bool false) rfl (congrArg Value.bool (by first | rfl | simp))
          refine s_do hf (wanted_of hf rfl rfl rfl) (.value (x_fieldAddr fo45_0 (hf.eval rfl) _) ?_); clear hf a; intro a hf
          refine s_do hf (wanted_of hf rfl rfl rfl) (.value (x_load sc3 (hf.eval rfl) (by first | exact hs.cell .k0 rfl | exact hs.cell .k1 rfl | exact hs.cell .k2 rfl | exact hs.cell .k3 rfl | exact hs.cell .k4 rfl | exact hs.cell .k5 rfl | exact hs.cell .k6 rfl | exact hs.cell .k7 rfl | exact hs.cell .k8 rfl | exact hs.cell .k9 rfl)) ?_); clear hf a; intro a hf
          refine s_do hf (wanted_of hf rfl rfl rfl) (.value (x_bin (hf.eval rfl) (hf.eval rfl) (r_ne _ _ _ _) _) ?_); clear hf a; intro a hf
          refine s_v hf (x_pick_f (hf.eval rfl) (hf.eval rfl)) ?_; clear hf a; intro a hf
          refine s_m hf rfl ?_; clear hf a; intro a hf
          replace hf := hf.now (k := 98) (v' := .bool false) rfl (congrArg Value.bool (by first | rfl | simp))
          refine s_do hf (wanted_of hf rfl rfl rfl) (.value (x_fieldAddr fo45_2 (hf.eval rfl) _) ?_); clear hf a; intro a hf
          refine s_do hf (wanted_of hf rfl rfl rfl) (.value (x_load sc3 (hf.eval rfl) (by first | exact hs.cell .k0 rfl | exact hs.cell .k1 rfl | exact hs.cell .k2 rfl | exact hs.cell .k3 rfl | exact hs.cell .k4 rfl | exact hs.cell .k5 rfl | exact hs.cell .k6 rfl | exact hs.cell .k7 rfl | exact hs.cell .k8 rfl | exact hs.cell .k9 rfl)) ?_); clear hf a; intro a hf
          refine s_do hf (wanted_of hf rfl rfl rfl) (.value (x_move (hf.eval rfl) _) ?_); clear hf a; intro a hf
          refine s_do hf (wanted_of hf rfl rfl rfl) (.value (x_len Tryd.underlying25 (hf.eval rfl) _) ?_); clear hf a; intro a hf
          refine s_do hf (wanted_of hf rfl rfl rfl) (.value (x_bin (hf.eval rfl) (hf.eval rfl) (r_ne _ _ _ _) _) ?_); clear hf a; intro a hf
          refine s_v hf (x_pick_f (hf.eval rfl) (hf.eval rfl)) ?_; clear hf a; intro a hf
          refine s_m hf rfl ?_; clear hf a; intro a hf
          replace hf := hf.now (k := 105) (v' := .bool false) rfl (congrArg Value.bool (by first | rfl | simp))
          refine s_do hf (wanted_of hf rfl rfl rfl) (.value (x_move (hf.eval rfl) _) ?_); clear hf a; intro a hf
          replace hs := hs.take (A := diskA 94 113 5 3 p T) (by first | exact .k0 | exact .k1 | exact .k2 | exact .k3 | exact .k4 | exact .k5 | exact .k6 | exact .k7 | exact .k8 | exact .k9 | exact .k10 | exact .k11 | exact .k12 | exact .k13)
          refine s_do hf (wanted_of hf rfl rfl rfl) (y_call (hf.eval rfl) (hf.evals rfl) Tryd.call35 ((dCalls_spec _ _ _ p T hs).mono ?_))
          rintro e w1 ⟨rfl, hw9⟩
          rw [hw9]
          clear hw9 w1
          rw [q4]
          refine ⟨_, rfl, ?_⟩; clear hf a; intro a hf
          refine s_do hf (wanted_of hf rfl rfl rfl) (.value (x_move (hf.eval rfl) _) ?_); clear hf a; intro a hf
          refine s_do hf (wanted_of hf rfl rfl rfl) (.value (x_bin (hf.eval rfl) (hf.eval rfl) (r_ne _ _ _ _) _) ?_); clear hf a; intro a hf
          refine s_v hf (x_pick_f (hf.eval rfl) (hf.eval rfl)) ?_; clear hf a; intro a hf
          refine s_nil ?_
          refine then_n ?_
          refine c_cond_f hf rfl (by simp) ?_
          refine wp_skip ?_
          refine then_n ?_
          refine wp_seq ?_
          refine wp_region_lit ?_
          refine s_m hf rfl ?_; clear hf a; intro a hf
          refine s_r hf (x_build (v := .agg #[.int .i64 0, .slice none 0 0, .int .i64 0]) (hf.parts rfl) (fun w => by kernel_rfl) _) ?_; clear hf a; intro a hf
          replace hs := hs.take (A := diskA 94 113 5 3 p T) (by first | exact .k0 | exact .k1 | exact .k2 | exact .k3 | exact .k4 | exact .k5 | exact .k6 | exact .k7 | exact .k8 | exact .k9 | exact .k10 | exact .k11 | exact .k12 | exact .k13)
          refine s_do hf rfl (y_call (hf.eval rfl) (hf.evals rfl) Tryd.call37 ((dCrash_spec _ _ _ p T hs 0 none 0 [] 0 hro.1 (fun w L hs => ⟨rfl, .inl ⟨0, rfl, rfl⟩⟩) (by rw [q2.sizes]; simp) (by rw [q2.pcs]; simp)).mono ?_))
          rintro e w1 ⟨p2, rfl, hs⟩
          rw [idle_out q2, q3] at hs
          refine ⟨_, rfl, ?_⟩; clear hf a; intro a hf
          refine s_m hf rfl ?_; clear hf a; intro a hf
          refine s_v hf (x_extract (hf.eval rfl) rfl) ?_; clear hf a; intro a hf
          refine s_v hf (x_extract (hf.eval rfl) rfl) ?_; clear hf a; intro a hf
          refine s_a hf rfl ?_; clear hf a; intro a hf
          refine s_nil ?_
          refine then_n ?_
          refine wp_seq ?_
          refine wp_region_lit ?_
          refine s_m hf rfl ?_; clear hf a; intro a hf
          replace hs := hs.take (A := diskA 94 113 5 3 p2 (newS (lkV l).2 T.room)) (by first | exact .k0 | exact .k1 | exact .k2 | exact .k3 | exact .k4 | exact .k5 | exact .k6 | exact .k7 | exact .k8 | exact .k9 | exact .k10 | exact .k11 | exact .k12 | exact .k13)
          refine s_do hf rfl (y_call (hf.eval rfl) (hf.evals rfl) Tryd.call36 ((dImage_spec _ _ _ p2 (newS (lkV l).2 T.room) hs (by show (lkV l).2.length ≤ 140737488351232; omega)).mono ?_))
          rintro e w1 ⟨e5, fe5, rfl, hs⟩
          replace hs : St _ _ (slB 5 (.slice e5 (lkV l).2.length fe5) (lkV l).2 :: _) := hs
          refine ⟨_, rfl, ?_⟩; clear hf a; intro a hf
          refine s_m hf rfl ?_; clear hf a; intro a hf
          refine s_do hf rfl (y_call (hf.eval rfl) (hf.evals rfl) Tryd.call12 ((same_spec _ _ _ (lkV l).2 (hs.rdB .k0 fun h => slB_rd) _ _ (lkV l).2 (hs.rdB (A := slB 5 (.slice a3 (lkV l).2.length fa3) (lkV l).2) (by first | exact .k0 | exact .k1 | exact .k2 | exact .k3 | exact .k4 | exact .k5 | exact .k6 | exact .k7 | exact .k8 | exact .k9 | exact .k10 | exact .k11 | exact .k12 | exact .k13) fun h => slB_rd) (by omega)).mono ?_))
          rintro e w1 ⟨rfl, hk⟩
          replace hs := hs.ext hk
          refine ⟨_, rfl, ?_⟩; clear hf a; intro a hf
          refine s_a hf rfl ?_; clear hf a; intro a hf
          refine s_nil ?_
          refine then_n ?_
          refine wp_ret ?_
          refine r_1 hf Tryd.results9 rfl ?_
          exact ⟨by simp, hs.kept⟩
        · first | simp only [decide_eq_true_eq, decide_eq_false_iff_not, Bool.not_eq_true', Bool.not_eq_false', ne_eq, Classical.not_not] at hi4 | skip
          refine wp_skip ?_
          refine then_n ?_
          refine wp_seq ?_
          refine wp_region_lit ?_
          refine s_m hf rfl ?_; clear hf a; intro a hf
          refine s_r hf (x_build (v := .agg #[.int .i64 0, .slice none 0 0, .int .i64 0]) (hf.parts rfl) (fun w => by kernel_rfl) _) ?_; clear hf a; intro a hf
          replace hs := hs.take (A := diskA 94 113 5 3 p T) (by first | exact .k0 | exact .k1 | exact .k2 | exact .k3 | exact .k4 | exact .k5 | exact .k6 | exact .k7 | exact .k8 | exact .k9 | exact .k10 | exact .k11 | exact .k12 | exact .k13)
          refine s_do hf rfl (y_call (hf.eval rfl) (hf.evals rfl) Tryd.call37 ((dCrash_spec _ _ _ p T hs 0 none 0 [] 0 hro.1 (fun w L hs => ⟨rfl, .inl ⟨0, rfl, rfl⟩⟩) (by rw [q2.sizes]; simp) (by rw [q2.pcs]; simp)).mono ?_))
          rintro e w1 ⟨p2, rfl, hs⟩
          rw [idle_out q2, q3] at hs
          refine ⟨_, rfl, ?_⟩; clear hf a; intro a hf
          refine s_m hf rfl ?_; clear hf a; intro a hf
          refine s_v hf (x_extract (hf.eval rfl) rfl) ?_; clear hf a; intro a hf
          refine s_v hf (x_extract (hf.eval rfl) rfl) ?_; clear hf a; intro a hf
          refine s_a hf rfl ?_; clear hf a; intro a hf
          refine s_nil ?_
          refine then_n ?_
          refine wp_seq ?_
          refine wp_region_lit ?_
          refine s_m hf rfl ?_; clear hf a; intro a hf
          replace hs := hs.take (A := diskA 94 113 5 3 p2 (newS (lkV l).2 T.room)) (by first | exact .k0 | exact .k1 | exact .k2 | exact .k3 | exact .k4 | exact .k5 | exact .k6 | exact .k7 | exact .k8 | exact .k9 | exact .k10 | exact .k11 | exact .k12 | exact .k13)
          refine s_do hf rfl (y_call (hf.eval rfl) (hf.evals rfl) Tryd.call36 ((dImage_spec _ _ _ p2 (newS (lkV l).2 T.room) hs (by show (lkV l).2.length ≤ 140737488351232; omega)).mono ?_))
          rintro e w1 ⟨e5, fe5, rfl, hs⟩
          replace hs : St _ _ (slB 5 (.slice e5 (lkV l).2.length fe5) (lkV l).2 :: _) := hs
          refine ⟨_, rfl, ?_⟩; clear hf a; intro a hf
          refine s_m hf rfl ?_; clear hf a; intro a hf
          refine s_do hf rfl (y_call (hf.eval rfl) (hf.evals rfl) Tryd.call12 ((same_spec _ _ _ (lkV l).2 (hs.rdB .k0 fun h => slB_rd) _ _ (lkV l).2 (hs.rdB (A := slB 5 (.slice a3 (lkV l).2.length fa3) (lkV l).2) (by first | exact .k0 | exact .k1 | exact .k2 | exact .k3 | exact .k4 | exact .k5 | exact .k6 | exact .k7 | exact .k8 | exact .k9 | exact .k10 | exact .k11 | exact .k12 | exact .k13) fun h => slB_rd) (by omega)).mono ?_))
          rintro e w1 ⟨rfl, hk⟩
          replace hs := hs.ext hk
          refine ⟨_, rfl, ?_⟩; clear hf a; intro a hf
          refine s_a hf rfl ?_; clear hf a; intro a hf
          refine s_nil ?_
          refine then_n ?_
          refine wp_ret ?_
          refine r_1 hf Tryd.results9 rfl ?_
          exact ⟨by simp, hs.kept⟩
    · clear hf
      have hf := hf'
      clear hf'
      first | simp only [decide_eq_true_eq, decide_eq_false_iff_not, Bool.not_eq_true', Bool.not_eq_false', ne_eq, Classical.not_not] at hg10_3 | skip
      refine s_pass hf rfl rfl ?_; clear hf a; intro a hf
      refine s_pass hf rfl rfl ?_; clear hf a; intro a hf
      refine s_pass hf rfl rfl ?_; clear hf a; intro a hf
      refine s_passU hf rfl rfl ?_; clear hf a; intro a hf
      refine s_passU hf rfl rfl ?_; clear hf a; intro a hf
      refine s_passU hf rfl rfl ?_; clear hf a; intro a hf
      refine s_passU hf rfl rfl ?_; clear hf a; intro a hf
      refine s_pass hf rfl rfl ?_; clear hf a; intro a hf
      refine s_v hf (x_pick_f (hf.eval rfl) (hf.eval rfl)) ?_; clear hf a; intro a hf
      refine s_nil ?_
      refine then_n ?_
      refine c_cond_f hf rfl (by first | rfl | simp [hx0]) ?_
      refine wp_skip ?_
      refine then_n ?_
      refine wp_seq ?_
      refine wp_seq ?_
      refine wp_region_lit ?_
      refine s_v hf (x_fieldAddr fo45_0 (hf.eval rfl)) ?_; clear hf a; intro a hf
      refine s_r hf (x_load sc3 (hf.eval rfl) (by first | exact hs.cell .k0 rfl | exact hs.cell .k1 rfl | exact hs.cell .k2 rfl | exact hs.cell .k3 rfl | exact hs.cell .k4 rfl | exact hs.cell .k5 rfl | exact hs.cell .k6 rfl | exact hs.cell .k7 rfl | exact hs.cell .k8 rfl | exact hs.cell .k9 rfl)) ?_; clear hf a; intro a hf
      replace hf := hf.now (k := 77) (v' := .int .i64 (lkV l).1.1) rfl (rfl)
      refine s_v hf (x_bin (hf.eval rfl) (hf.eval rfl) (r_ne _ _ _ _)) ?_; clear hf a; intro a hf
      refine s_m hf rfl ?_; clear hf a; intro a hf
      refine s_bool hf (k := 79) rfl (fun hg12_3 hf' => ?_) (fun hg12_3 hf' => ?_)
      · clear hf
        have hf := hf'
        clear hf'
        first | simp only [decide_eq_true_eq, decide_eq_false_iff_not, Bool.not_eq_true', Bool.not_eq_false', ne_eq, Classical.not_not] at hg12_3 | skip
        refine s_do hf (wanted_of hf rfl rfl rfl) (.value (x_move (hf.eval rfl) _) ?_); clear hf a; intro a hf
        refine s_do hf (wanted_of hf rfl rfl rfl) (.value (x_bin (hf.eval rfl) (hf.eval rfl) (r_eq _ _ _ _) _) ?_); clear hf a; intro a hf
        refine s_v hf (x_pick_t (hf.eval rfl) (hf.eval rfl)) ?_; clear hf a; intro a hf
        refine s_nil ?_
        refine then_n ?_
        refine c_cond_f hf rfl (by first | rfl | (simp; intro h9; exact hg12_3 (z3.2 (by rw [h9]; rfl)))) ?_
        refine wp_skip ?_
        refine then_n ?_
        refine wp_seq ?_
        refine wp_seq ?_
        refine wp_region_lit ?_
        refine s_m hf rfl ?_; clear hf a; intro a hf
        refine s_do hf rfl (y_call (hf.eval rfl) (hf.evals rfl) Tryd.call22 ((quiet_spec _ (hT.kept hs.kept) _ _ (lkV l).2 (hs.rdB (A := slB 5 (.slice a3 (lkV l).2.length fa3) (lkV l).2) (by first | exact .k0 | exact .k1 | exact .k2 | exact .k3 | exact .k4 | exact .k5 | exact .k6 | exact .k7 | exact .k8 | exact .k9 | exact .k10 | exact .k11 | exact .k12 | exact .k13) fun h => slB_rd) (by omega)).mono ?_))
        rintro e w1 ⟨rfl, hk⟩
        replace hs := hs.ext hk
        refine ⟨_, rfl, ?_⟩; clear hf a; intro a hf
        refine s_nil ?_
        refine then_n ?_
        refine c_cond hf rfl (fun hi4 => ?_) (fun hi4 => ?_)
        · first | simp only [decide_eq_true_eq, decide_eq_false_iff_not, Bool.not_eq_true', Bool.not_eq_false', ne_eq, Classical.not_not] at hi4 | skip
          have hq9 := (quiet_self hi4).1
          obtain ⟨y1, y2⟩ := rec_none (s := T) q2.dead (by rw [q3]; exact hi4)
          rw [q3, hq9] at y1
          refine wp_seq ?_
          refine wp_region_lit ?_
          refine s_m hf rfl ?_; clear hf a; intro a hf
          replace hs := hs.take (A := diskA 94 113 5 3 p T) (by first | exact .k0 | exact .k1 | exact .k2 | exact .k3 | exact .k4 | exact .k5 | exact .k6 | exact .k7 | exact .k8 | exact .k9 | exact .k10 | exact .k11 | exact .k12 | exact .k13)
          refine s_do hf rfl (y_call (hf.eval rfl) (hf.evals rfl) Tryd.call29 ((recover_spec w0 _ _ p T hT hs hro.1 _ (hro.2.2.up (Nat.le_refl _)) (by omega)).mono ?_))
          rintro e w1 ⟨rfl, hs⟩
          rw [y2] at hs
          rw [y1]
          refine ⟨_, rfl, ?_⟩; clear hf a; intro a hf
          refine s_m hf rfl ?_; clear hf a; intro a hf
          refine s_v hf (x_extract (hf.eval rfl) rfl) ?_; clear hf a; intro a hf
          refine s_v hf (x_extract (hf.eval rfl) rfl) ?_; clear hf a; intro a hf
          replace hs := hs.take (A := cb b8 45 (vdF (lkV l).1)) (by first | exact .k0 | exact .k1 | exact .k2 | exact .k3 | exact .k4 | exact .k5 | exact .k6 | exact .k7 | exact .k8 | exact .k9 | exact .k10 | exact .k11 | exact .k12 | exact .k13)
          refine s_do0 hf rfl (y_storeAgg (cs := vdF (0, 0, ((lkV l).2.length : Int))) hs (n := 3) (by kernel_rfl) (hf.eval rfl) (hf.eval rfl) (by simp [Value.oneCell', vdF]) rfl rfl .k0 ?_); clear hf hs a; intro w hs a hf
          refine s_a hf rfl ?_; clear hf a; intro a hf
          refine s_nil ?_
          refine then_n ?_
          refine wp_seq ?_
          refine wp_region_lit ?_
          refine s_m hf rfl ?_; clear hf a; intro a hf
          refine s_do hf rfl (y_call (hf.eval rfl) (hf.evals rfl) Tryd.call13 ((num_spec _ _).mono ?_))
          rintro e w1 ⟨rfl, hw9⟩
          rw [hw9]
          clear hw9 w1
          refine ⟨_, rfl, ?_⟩; clear hf a; intro a hf
          refine s_v hf (x_bin (hf.eval rfl) (hf.eval rfl) (r_ne _ _ _ _)) ?_; clear hf a; intro a hf
          refine s_m hf rfl ?_; clear hf a; intro a hf
          replace hf := hf.now (k := 93) (v' := .bool false) rfl (congrArg Value.bool (by first | rfl | simp))
          refine s_do hf (wanted_of hf rfl rfl rfl) (.value (x_fieldAddr fo45_0 (hf.eval rfl) _) ?_); clear hf a; intro a hf
          refine s_do hf (wanted_of hf rfl rfl rfl) (.value (x_load sc3 (hf.eval rfl) (by first | exact hs.cell .k0 rfl | exact hs.cell .k1 rfl | exact hs.cell .k2 rfl | exact hs.cell .k3 rfl | exact hs.cell .k4 rfl | exact hs.cell .k5 rfl | exact hs.cell .k6 rfl | exact hs.cell .k7 rfl | exact hs.cell .k8 rfl | exact hs.cell .k9 rfl)) ?_); clear hf a; intro a hf
          refine s_do hf (wanted_of hf rfl rfl rfl) (.value (x_bin (hf.eval rfl) (hf.eval rfl) (r_ne _ _ _ _) _) ?_); clear hf a; intro a hf
          refine s_v hf (x_pick_f (hf.eval rfl) (hf.eval rfl)) ?_; clear hf a; intro a hf
          refine s_m hf rfl ?_; clear hf a; intro a hf
          replace hf := hf.now (k := 98) (v' := .bool false) rfl (congrArg Value.bool (by first | rfl | simp))
          refine s_do hf (wanted_of hf rfl rfl rfl) (.value (x_fieldAddr fo45_2 (hf.eval rfl) _) ?_); clear hf a; intro a hf
          refine s_do hf (wanted_of hf rfl rfl rfl) (.value (x_load sc3 (hf.eval rfl) (by first | exact hs.cell .k0 rfl | exact hs.cell .k1 rfl | exact hs.cell .k2 rfl | exact hs.cell .k3 rfl | exact hs.cell .k4 rfl | exact hs.cell .k5 rfl | exact hs.cell .k6 rfl | exact hs.cell .k7 rfl | exact hs.cell .k8 rfl | exact hs.cell .k9 rfl)) ?_); clear hf a; intro a hf
          refine s_do hf (wanted_of hf rfl rfl rfl) (.value (x_move (hf.eval rfl) _) ?_); clear hf a; intro a hf
          refine s_do hf (wanted_of hf rfl rfl rfl) (.value (x_len Tryd.underlying25 (hf.eval rfl) _) ?_); clear hf a; intro a hf
          refine s_do hf (wanted_of hf rfl rfl rfl) (.value (x_bin (hf.eval rfl) (hf.eval rfl) (r_ne _ _ _ _) _) ?_); clear hf a; intro a hf
          refine s_v hf (x_pick_f (hf.eval rfl) (hf.eval rfl)) ?_; clear hf a; intro a hf
          refine s_m hf rfl ?_; clear hf a; intro a hf
          replace hf := hf.now (k := 105) (v' := .bool false) rfl (congrArg Value.bool (by first | rfl | simp))
          refine s_do hf (wanted_of hf rfl rfl rfl) (.value (x_move (hf.eval rfl) _) ?_); clear hf a; intro a hf
          replace hs := hs.take (A := diskA 94 113 5 3 p T) (by first | exact .k0 | exact .k1 | exact .k2 | exact .k3 | exact .k4 | exact .k5 | exact .k6 | exact .k7 | exact .k8 | exact .k9 | exact .k10 | exact .k11 | exact .k12 | exact .k13)
          refine s_do hf (wanted_of hf rfl rfl rfl) (y_call (hf.eval rfl) (hf.evals rfl) Tryd.call35 ((dCalls_spec _ _ _ p T hs).mono ?_))
          rintro e w1 ⟨rfl, hw9⟩
          rw [hw9]
          clear hw9 w1
          rw [q4]
          refine ⟨_, rfl, ?_⟩; clear hf a; intro a hf
          refine s_do hf (wanted_of hf rfl rfl rfl) (.value (x_move (hf.eval rfl) _) ?_); clear hf a; intro a hf
          refine s_do hf (wanted_of hf rfl rfl rfl) (.value (x_bin (hf.eval rfl) (hf.eval rfl) (r_ne _ _ _ _) _) ?_); clear hf a; intro a hf
          refine s_v hf (x_pick_f (hf.eval rfl) (hf.eval rfl)) ?_; clear hf a; intro a hf
          refine s_nil ?_
          refine then_n ?_
          refine c_cond_f hf rfl (by simp) ?_
          refine wp_skip ?_
          refine then_n ?_
          refine wp_seq ?_
          refine wp_region_lit ?_
          refine s_m hf rfl ?_; clear hf a; intro a hf
          refine s_r hf (x_build (v := .agg #[.int .i64 0, .slice none 0 0, .int .i64 0]) (hf.parts rfl) (fun w => by kernel_rfl) _) ?_; clear hf a; intro a hf
          replace hs := hs.take (A := diskA 94 113 5 3 p T) (by first | exact .k0 | exact .k1 | exact .k2 | exact .k3 | exact .k4 | exact .k5 | exact .k6 | exact .k7 | exact .k8 | exact .k9 | exact .k10 | exact .k11 | exact .k12 | exact .k13)
          refine s_do hf rfl (y_call (hf.eval rfl) (hf.evals rfl) Tryd.call37 ((dCrash_spec _ _ _ p T hs 0 none 0 [] 0 hro.1 (fun w L hs => ⟨rfl, .inl ⟨0, rfl, rfl⟩⟩) (by rw [q2.sizes]; simp) (by rw [q2.pcs]; simp)).mono ?_))
          rintro e w1 ⟨p2, rfl, hs⟩
          rw [idle_out q2, q3] at hs
          refine ⟨_, rfl, ?_⟩; clear hf a; intro a hf
          refine s_m hf rfl ?_; clear hf a; intro a hf
          refine s_v hf (x_extract (hf.eval rfl) rfl) ?_; clear hf a; intro a hf
          refine s_v hf (x_extract (hf.eval rfl) rfl) ?_; clear hf a; intro a hf
          refine s_a hf rfl ?_; clear hf a; intro a hf
          refine s_nil ?_
          refine then_n ?_
          refine wp_seq ?_
          refine wp_region_lit ?_
          refine s_m hf rfl ?_; clear hf a; intro a hf
          replace hs := hs.take (A := diskA 94 113 5 3 p2 (newS (lkV l).2 T.room)) (by first | exact .k0 | exact .k1 | exact .k2 | exact .k3 | exact .k4 | exact .k5 | exact .k6 | exact .k7 | exact .k8 | exact .k9 | exact .k10 | exact .k11 | exact .k12 | exact .k13)
          refine s_do hf rfl (y_call (hf.eval rfl) (hf.evals rfl) Tryd.call36 ((dImage_spec _ _ _ p2 (newS (lkV l).2 T.room) hs (by show (lkV l).2.length ≤ 140737488351232; omega)).mono ?_))
          rintro e w1 ⟨e5, fe5, rfl, hs⟩
          replace hs : St _ _ (slB 5 (.slice e5 (lkV l).2.length fe5) (lkV l).2 :: _) := hs
          refine ⟨_, rfl, ?_⟩; clear hf a; intro a hf
          refine s_m hf rfl ?_; clear hf a; intro a hf
          refine s_do hf rfl (y_call (hf.eval rfl) (hf.evals rfl) Tryd.call12 ((same_spec _ _ _ (lkV l).2 (hs.rdB .k0 fun h => slB_rd) _ _ (lkV l).2 (hs.rdB (A := slB 5 (.slice a3 (lkV l).2.length fa3) (lkV l).2) (by first | exact .k0 | exact .k1 | exact .k2 | exact .k3 | exact .k4 | exact .k5 | exact .k6 | exact .k7 | exact .k8 | exact .k9 | exact .k10 | exact .k11 | exact .k12 | exact .k13) fun h => slB_rd) (by omega)).mono ?_))
          rintro e w1 ⟨rfl, hk⟩
          replace hs := hs.ext hk
          refine ⟨_, rfl, ?_⟩; clear hf a; intro a hf
          refine s_a hf rfl ?_; clear hf a; intro a hf
          refine s_nil ?_
          refine then_n ?_
          refine wp_ret ?_
          refine r_1 hf Tryd.results9 rfl ?_
          exact ⟨by simp, hs.kept⟩
        · first | simp only [decide_eq_true_eq, decide_eq_false_iff_not, Bool.not_eq_true', Bool.not_eq_false', ne_eq, Classical.not_not] at hi4 | skip
          refine wp_skip ?_
          refine then_n ?_
          refine wp_seq ?_
          refine wp_region_lit ?_
          refine s_m hf rfl ?_; clear hf a; intro a hf
          refine s_r hf (x_build (v := .agg #[.int .i64 0, .slice none 0 0, .int .i64 0]) (hf.parts rfl) (fun w => by kernel_rfl) _) ?_; clear hf a; intro a hf
          replace hs := hs.take (A := diskA 94 113 5 3 p T) (by first | exact .k0 | exact .k1 | exact .k2 | exact .k3 | exact .k4 | exact .k5 | exact .k6 | exact .k7 | exact .k8 | exact .k9 | exact .k10 | exact .k11 | exact .k12 | exact .k13)
          refine s_do hf rfl (y_call (hf.eval rfl) (hf.evals rfl) Tryd.call37 ((dCrash_spec _ _ _ p T hs 0 none 0 [] 0 hro.1 (fun w L hs => ⟨rfl, .inl ⟨0, rfl, rfl⟩⟩) (by rw [q2.sizes]; simp) (by rw [q2.pcs]; simp)).mono ?_))
          rintro e w1 ⟨p2, rfl, hs⟩
          rw [idle_out q2, q3] at hs
          refine ⟨_, rfl, ?_⟩; clear hf a; intro a hf
          refine s_m hf rfl ?_; clear hf a; intro a hf
          refine s_v hf (x_extract (hf.eval rfl) rfl) ?_; clear hf a; intro a hf
          refine s_v hf (x_extract (hf.eval rfl) rfl) ?_; clear hf a; intro a hf
          refine s_a hf rfl ?_; clear hf a; intro a hf
          refine s_nil ?_
          refine then_n ?_
          refine wp_seq ?_
          refine wp_region_lit ?_
          refine s_m hf rfl ?_; clear hf a; intro a hf
          replace hs := hs.take (A := diskA 94 113 5 3 p2 (newS (lkV l).2 T.room)) (by first | exact .k0 | exact .k1 | exact .k2 | exact .k3 | exact .k4 | exact .k5 | exact .k6 | exact .k7 | exact .k8 | exact .k9 | exact .k10 | exact .k11 | exact .k12 | exact .k13)
          refine s_do hf rfl (y_call (hf.eval rfl) (hf.evals rfl) Tryd.call36 ((dImage_spec _ _ _ p2 (newS (lkV l).2 T.room) hs (by show (lkV l).2.length ≤ 140737488351232; omega)).mono ?_))
          rintro e w1 ⟨e5, fe5, rfl, hs⟩
          replace hs : St _ _ (slB 5 (.slice e5 (lkV l).2.length fe5) (lkV l).2 :: _) := hs
          refine ⟨_, rfl, ?_⟩; clear hf a; intro a hf
          refine s_m hf rfl ?_; clear hf a; intro a hf
          refine s_do hf rfl (y_call (hf.eval rfl) (hf.evals rfl) Tryd.call12 ((same_spec _ _ _ (lkV l).2 (hs.rdB .k0 fun h => slB_rd) _ _ (lkV l).2 (hs.rdB (A := slB 5 (.slice a3 (lkV l).2.length fa3) (lkV l).2) (by first | exact .k0 | exact .k1 | exact .k2 | exact .k3 | exact .k4 | exact .k5 | exact .k6 | exact .k7 | exact .k8 | exact .k9 | exact .k10 | exact .k11 | exact .k12 | exact .k13) fun h => slB_rd) (by omega)).mono ?_))
          rintro e w1 ⟨rfl, hk⟩
          replace hs := hs.ext hk
          refine ⟨_, rfl, ?_⟩; clear hf a; intro a hf
          refine s_a hf rfl ?_; clear hf a; intro a hf
          refine s_nil ?_
          refine then_n ?_
          refine wp_ret ?_
          refine r_1 hf Tryd.results9 rfl ?_
          exact ⟨by simp, hs.kept⟩
      · clear hf
        have hf := hf'
        clear hf'
        first | simp only [decide_eq_true_eq, decide_eq_false_iff_not, Bool.not_eq_true', Bool.not_eq_false', ne_eq, Classical.not_not] at hg12_3 | skip
        refine s_pass hf rfl rfl ?_; clear hf a; intro a hf
        refine s_pass hf rfl rfl ?_; clear hf a; intro a hf
        refine s_v hf (x_pick_f (hf.eval rfl) (hf.eval rfl)) ?_; clear hf a; intro a hf
        refine s_nil ?_
        refine then_n ?_
        refine c_cond_f hf rfl (by first | rfl | (simp; intro h9; exact hg12_3 (z3.2 (by rw [h9]; rfl)))) ?_
        refine wp_skip ?_
        refine then_n ?_
        refine wp_seq ?_
        refine wp_seq ?_
        refine wp_region_lit ?_
        refine s_m hf rfl ?_; clear hf a; intro a hf
        refine s_do hf rfl (y_call (hf.eval rfl) (hf.evals rfl) Tryd.call22 ((quiet_spec _ (hT.kept hs.kept) _ _ (lkV l).2 (hs.rdB (A := slB 5 (.slice a3 (lkV l).2.length fa3) (lkV l).2) (by first | exact .k0 | exact .k1 | exact .k2 | exact .k3 | exact .k4 | exact .k5 | exact .k6 | exact .k7 | exact .k8 | exact .k9 | exact .k10 | exact .k11 | exact .k12 | exact .k13) fun h => slB_rd) (by omega)).mono ?_))
        rintro e w1 ⟨rfl, hk⟩
        replace hs := hs.ext hk
        refine ⟨_, rfl, ?_⟩; clear hf a; intro a hf
        refine s_nil ?_
        refine then_n ?_
        refine c_cond hf rfl (fun hi4 => ?_) (fun hi4 => ?_)
        · first | simp only [decide_eq_true_eq, decide_eq_false_iff_not, Bool.not_eq_true', Bool.not_eq_false', ne_eq, Classical.not_not] at hi4 | skip
          have hq9 := (quiet_self hi4).1
          obtain ⟨y1, y2⟩ := rec_none (s := T) q2.dead (by rw [q3]; exact hi4)
          rw [q3, hq9] at y1
          refine wp_seq ?_
          refine wp_region_lit ?_
          refine s_m hf rfl ?_; clear hf a; intro a hf
          replace hs := hs.take (A := diskA 94 113 5 3 p T) (by first | exact .k0 | exact .k1 | exact .k2 | exact .k3 | exact .k4 | exact .k5 | exact .k6 | exact .k7 | exact .k8 | exact .k9 | exact .k10 | exact .k11 | exact .k12 | exact .k13)
          refine s_do hf rfl (y_call (hf.eval rfl) (hf.evals rfl) Tryd.call29 ((recover_spec w0 _ _ p T hT hs hro.1 _ (hro.2.2.up (Nat.le_refl _)) (by omega)).mono ?_))
          rintro e w1 ⟨rfl, hs⟩
          rw [y2] at hs
          rw [y1]
          refine ⟨_, rfl, ?_⟩; clear hf a; intro a hf
          refine s_m hf rfl ?_; clear hf a; intro a hf
          refine s_v hf (x_extract (hf.eval rfl) rfl) ?_; clear hf a; intro a hf
          refine s_v hf (x_extract (hf.eval rfl) rfl) ?_; clear hf a; intro a hf
          replace hs := hs.take (A := cb b8 45 (vdF (lkV l).1)) (by first | exact .k0 | exact .k1 | exact .k2 | exact .k3 | exact .k4 | exact .k5 | exact .k6 | exact .k7 | exact .k8 | exact .k9 | exact .k10 | exact .k11 | exact .k12 | exact .k13)
          refine s_do0 hf rfl (y_storeAgg (cs := vdF (0, 0, ((lkV l).2.length : Int))) hs (n := 3) (by kernel_rfl) (hf.eval rfl) (hf.eval rfl) (by simp [Value.oneCell', vdF]) rfl rfl .k0 ?_); clear hf hs a; intro w hs a hf
          refine s_a hf rfl ?_; clear hf a; intro a hf
          refine s_nil ?_
          refine then_n ?_
          refine wp_seq ?_
          refine wp_region_lit ?_
          refine s_m hf rfl ?_; clear hf a; intro a hf
          refine s_do hf rfl (y_call (hf.eval rfl) (hf.evals rfl) Tryd.call13 ((num_spec _ _).mono ?_))
          rintro e w1 ⟨rfl, hw9⟩
          rw [hw9]
          clear hw9 w1
          refine ⟨_, rfl, ?_⟩; clear hf a; intro a hf
          refine s_v hf (x_bin (hf.eval rfl) (hf.eval rfl) (r_ne _ _ _ _)) ?_; clear hf a; intro a hf
          refine s_m hf rfl ?_; clear hf a; intro a hf
          replace hf := hf.now (k := 93) (v' := .bool false) rfl (congrArg Value.bool (by first | rfl | simp))
          refine s_do hf (wanted_of hf rfl rfl rfl) (.value (x_fieldAddr fo45_0 (hf.eval rfl) _) ?_); clear hf a; intro a hf
          refine s_do hf (wanted_of hf rfl rfl rfl) (.value (x_load sc3 (hf.eval rfl) (by first | exact hs.cell .k0 rfl | exact hs.cell .k1 rfl | exact hs.cell .k2 rfl | exact hs.cell .k3 rfl | exact hs.cell .k4 rfl | exact hs.cell .k5 rfl | exact hs.cell .k6 rfl | exact hs.cell .k7 rfl | exact hs.cell .k8 rfl | exact hs.cell .k9 rfl)) ?_); clear hf a; intro a hf
          refine s_do hf (wanted_of hf rfl rfl rfl) (.value (x_bin (hf.eval rfl) (hf.eval rfl) (r_ne _ _ _ _) _) ?_); clear hf a; intro a hf
          refine s_v hf (x_pick_f (hf.eval rfl) (hf.eval rfl)) ?_; clear hf a; intro a hf
          refine s_m hf rfl ?_; clear hf a; intro a hf
          replace hf := hf.now (k := 98) (v' := .bool false) rfl (congrArg Value.bool (by first | rfl | simp))
          refine s_do hf (wanted_of hf rfl rfl rfl) (.value (x_fieldAddr fo45_2 (hf.eval rfl) _) ?_); clear hf a; intro a hf
          refine s_do hf (wanted_of hf rfl rfl rfl) (.value (x_load sc3 (hf.eval rfl) (by first | exact hs.cell .k0 rfl | exact hs.cell .k1 rfl | exact hs.cell .k2 rfl | exact hs.cell .k3 rfl | exact hs.cell .k4 rfl | exact hs.cell .k5 rfl | exact hs.cell .k6 rfl | exact hs.cell .k7 rfl | exact hs.cell .k8 rfl | exact hs.cell .k9 rfl)) ?_); clear hf a; intro a hf
          refine s_do hf (wanted_of hf rfl rfl rfl) (.value (x_move (hf.eval rfl) _) ?_); clear hf a; intro a hf
          refine s_do hf (wanted_of hf rfl rfl rfl) (.value (x_len Tryd.underlying25 (hf.eval rfl) _) ?_); clear hf a; intro a hf
          refine s_do hf (wanted_of hf rfl rfl rfl) (.value (x_bin (hf.eval rfl) (hf.eval rfl) (r_ne _ _ _ _) _) ?_); clear hf a; intro a hf
          refine s_v hf (x_pick_f (hf.eval rfl) (hf.eval rfl)) ?_; clear hf a; intro a hf
          refine s_m hf rfl ?_; clear hf a; intro a hf
          replace hf := hf.now (k := 105) (v' := .bool false) rfl (congrArg Value.bool (by first | rfl | simp))
          refine s_do hf (wanted_of hf rfl rfl rfl) (.value (x_move (hf.eval rfl) _) ?_); clear hf a; intro a hf
          replace hs := hs.take (A := diskA 94 113 5 3 p T) (by first | exact .k0 | exact .k1 | exact .k2 | exact .k3 | exact .k4 | exact .k5 | exact .k6 | exact .k7 | exact .k8 | exact .k9 | exact .k10 | exact .k11 | exact .k12 | exact .k13)
          refine s_do hf (wanted_of hf rfl rfl rfl) (y_call (hf.eval rfl) (hf.evals rfl) Tryd.call35 ((dCalls_spec _ _ _ p T hs).mono ?_))
          rintro e w1 ⟨rfl, hw9⟩
          rw [hw9]
          clear hw9 w1
          rw [q4]
          refine ⟨_, rfl, ?_⟩; clear hf a; intro a hf
          refine s_do hf (wanted_of hf rfl rfl rfl) (.value (x_move (hf.eval rfl) _) ?_); clear hf a; intro a hf
          refine s_do hf (wanted_of hf rfl rfl rfl) (.value (x_bin (hf.eval rfl) (hf.eval rfl) (r_ne _ _ _ _) _) ?_); clear hf a; intro a hf
          refine s_v hf (x_pick_f (hf.eval rfl) (hf.eval rfl)) ?_; clear hf a; intro a hf
          refine s_nil ?_
          refine then_n ?_
          refine c_cond_f hf rfl (by simp) ?_
          refine wp_skip ?_
          refine then_n ?_
          refine wp_seq ?_
          refine wp_region_lit ?_
          refine s_m hf rfl ?_; clear hf a; intro a hf
          refine s_r hf (x_build (v := .agg #[.int .i64 0, .slice none 0 0, .int .i64 0]) (hf.parts rfl) (fun w => by kernel_rfl) _) ?_; clear hf a; intro a hf
          replace hs := hs.take (A := diskA 94 113 5 3 p T) (by first | exact .k0 | exact .k1 | exact .k2 | exact .k3 | exact .k4 | exact .k5 | exact .k6 | exact .k7 | exact .k8 | exact .k9 | exact .k10 | exact .k11 | exact .k12 | exact .k13)
          refine s_do hf rfl (y_call (hf.eval rfl) (hf.evals rfl) Tryd.call37 ((dCrash_spec _ _ _ p T hs 0 none 0 [] 0 hro.1 (fun w L hs => ⟨rfl, .inl ⟨0, rfl, rfl⟩⟩) (by rw [q2.sizes]; simp) (by rw [q2.pcs]; simp)).mono ?_))
          rintro e w1 ⟨p2, rfl, hs⟩
          rw [idle_out q2, q3] at hs
          refine ⟨_, rfl, ?_⟩; clear hf a; intro a hf
          refine s_m hf rfl ?_; clear hf a; intro a hf
          refine s_v hf (x_extract (hf.eval rfl) rfl) ?_; clear hf a; intro a hf
          refine s_v hf (x_extract (hf.eval rfl) rfl) ?_; clear hf a; intro a hf
          refine s_a hf rfl ?_; clear hf a; intro a hf
          refine s_nil ?_
          refine then_n ?_
          refine wp_seq ?_
          refine wp_region_lit ?_
          refine s_m hf rfl ?_; clear hf a; intro a hf
          replace hs := hs.take (A := diskA 94 113 5 3 p2 (newS (lkV l).2 T.room)) (by first | exact .k0 | exact .k1 | exact .k2 | exact .k3 | exact .k4 | exact .k5 | exact .k6 | exact .k7 | exact .k8 | exact .k9 | exact .k10 | exact .k11 | exact .k12 | exact .k13)
          refine s_do hf rfl (y_call (hf.eval rfl) (hf.evals rfl) Tryd.call36 ((dImage_spec _ _ _ p2 (newS (lkV l).2 T.room) hs (by show (lkV l).2.length ≤ 140737488351232; omega)).mono ?_))
          rintro e w1 ⟨e5, fe5, rfl, hs⟩
          replace hs : St _ _ (slB 5 (.slice e5 (lkV l).2.length fe5) (lkV l).2 :: _) := hs
          refine ⟨_, rfl, ?_⟩; clear hf a; intro a hf
          refine s_m hf rfl ?_; clear hf a; intro a hf
          refine s_do hf rfl (y_call (hf.eval rfl) (hf.evals rfl) Tryd.call12 ((same_spec _ _ _ (lkV l).2 (hs.rdB .k0 fun h => slB_rd) _ _ (lkV l).2 (hs.rdB (A := slB 5 (.slice a3 (lkV l).2.length fa3) (lkV l).2) (by first | exact .k0 | exact .k1 | exact .k2 | exact .k3 | exact .k4 | exact .k5 | exact .k6 | exact .k7 | exact .k8 | exact .k9 | exact .k10 | exact .k11 | exact .k12 | exact .k13) fun h => slB_rd) (by omega)).mono ?_))
          rintro e w1 ⟨rfl, hk⟩
          replace hs := hs.ext hk
          refine ⟨_, rfl, ?_⟩; clear hf a; intro a hf
          refine s_a hf rfl ?_; clear hf a; intro a hf
          refine s_nil ?_
          refine then_n ?_
          refine wp_ret ?_
          refine r_1 hf Tryd.results9 rfl ?_
          exact ⟨by simp, hs.kept⟩
        · first | simp only [decide_eq_true_eq, decide_eq_false_iff_not, Bool.not_eq_true', Bool.not_eq_false', ne_eq, Classical.not_not] at hi4 | skip
          refine wp_skip ?_
          refine then_n ?_
          refine wp_seq ?_
          refine wp_region_lit ?_
          refine s_m hf rfl ?_; clear hf a; intro a hf
          refine s_r hf (x_build (v := .agg #[.int .i64 0, .slice none 0 0, .int .i64 0]) (hf.parts rfl) (fun w => by kernel_rfl) _) ?_; clear hf a; intro a hf
          replace hs := hs.take (A := diskA 94 113 5 3 p T) (by first | exact .k0 | exact .k1 | exact .k2 | exact .k3 | exact .k4 | exact .k5 | exact .k6 | exact .k7 | exact .k8 | exact .k9 | exact .k10 | exact .k11 | exact .k12 | exact .k13)
          refine s_do hf rfl (y_call (hf.eval rfl) (hf.evals rfl) Tryd.call37 ((dCrash_spec _ _ _ p T hs 0 none 0 [] 0 hro.1 (fun w L hs => ⟨rfl, .inl ⟨0, rfl, rfl⟩⟩) (by rw [q2.sizes]; simp) (by rw [q2.pcs]; simp)).mono ?_))
          rintro e w1 ⟨p2, rfl, hs⟩
          rw [idle_out q2, q3] at hs
          refine ⟨_, rfl, ?_⟩; clear hf a; intro a hf
          refine s_m hf rfl ?_; clear hf a; intro a hf
          refine s_v hf (x_extract (hf.eval rfl) rfl) ?_; clear hf a; intro a hf
          refine s_v hf (x_extract (hf.eval rfl) rfl) ?_; clear hf a; intro a hf
          refine s_a hf rfl ?_; clear hf a; intro a hf
          refine s_nil ?_
          refine then_n ?_
          refine wp_seq ?_
          refine wp_region_lit ?_
          refine s_m hf rfl ?_; clear hf a; intro a hf
          replace hs := hs.take (A := diskA 94 113 5 3 p2 (newS (lkV l).2 T.room)) (by first | exact .k0 | exact .k1 | exact .k2 | exact .k3 | exact .k4 | exact .k5 | exact .k6 | exact .k7 | exact .k8 | exact .k9 | exact .k10 | exact .k11 | exact .k12 | exact .k13)
          refine s_do hf rfl (y_call (hf.eval rfl) (hf.evals rfl) Tryd.call36 ((dImage_spec _ _ _ p2 (newS (lkV l).2 T.room) hs (by show (lkV l).2.length ≤ 140737488351232; omega)).mono ?_))
          rintro e w1 ⟨e5, fe5, rfl, hs⟩
          replace hs : St _ _ (slB 5 (.slice e5 (lkV l).2.length fe5) (lkV l).2 :: _) := hs
          refine ⟨_, rfl, ?_⟩; clear hf a; intro a hf
          refine s_m hf rfl ?_; clear hf a; intro a hf
          refine s_do hf rfl (y_call (hf.eval rfl) (hf.evals rfl) Tryd.call12 ((same_spec _ _ _ (lkV l).2 (hs.rdB .k0 fun h => slB_rd) _ _ (lkV l).2 (hs.rdB (A := slB 5 (.slice a3 (lkV l).2.length fa3) (lkV l).2) (by first | exact .k0 | exact .k1 | exact .k2 | exact .k3 | exact .k4 | exact .k5 | exact .k6 | exact .k7 | exact .k8 | exact .k9 | exact .k10 | exact .k11 | exact .k12 | exact .k13) fun h => slB_rd) (by omega)).mono ?_))
          rintro e w1 ⟨rfl, hk⟩
          replace hs := hs.ext hk
          refine ⟨_, rfl, ?_⟩; clear hf a; intro a hf
          refine s_a hf rfl ?_; clear hf a; intro a hf
          refine s_nil ?_
          refine then_n ?_
          refine wp_ret ?_
          refine r_1 hf Tryd.results9 rfl ?_
          exact ⟨by simp, hs.kept⟩
end Go.Proofs.YtehakfbfjpolfaaDoor
