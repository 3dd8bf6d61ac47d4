/- Texts 16 of 17 that the law rests on: the small library, contracts of functions, printed by a program. -/
import Derived.Test.YtehakfbfjpolfaaDoorProg
import Derived.Test.YtehakfbfjpolfaaDoorRv1
import Derived.Test.YtehakfbfjpolfaaDoorRv2
import Derived.Test.YtehakfbfjpolfaaDoorRv3
import Derived.Test.YtehakfbfjpolfaaDoorRv4
import Derived.Test.YtehakfbfjpolfaaDoorRv5
import Derived.Test.YtehakfbfjpolfaaDoorRv6
import Derived.Test.YtehakfbfjpolfaaDoorRv7
import Derived.Test.YtehakfbfjpolfaaDoorRv8
import Derived.Test.YtehakfbfjpolfaaDoorRv9
import Derived.Test.YtehakfbfjpolfaaDoorRv10
import Derived.Test.YtehakfbfjpolfaaDoorRv11
import Derived.Test.YtehakfbfjpolfaaDoorRv12
import Derived.Test.YtehakfbfjpolfaaDoorRv13
import Derived.Test.YtehakfbfjpolfaaDoorRv14
import Derived.Test.YtehakfbfjpolfaaDoorRv15
set_option maxRecDepth 100000
set_option linter.all false
namespace Go.Proofs.YtehakfbfjpolfaaDoor
open Go Vw
theorem rdB_nil (h : Heaplet) : RdB h (.slice none (([] : List UInt8)).length 0) [] := ⟨rfl, .inl ⟨0, rfl, rfl⟩⟩
theorem rfuse_nil (w : World) (n : Int) : Calls Tryd.prog 28 #[.pointer none, .int .i64 n] w fun e w' => e = .returned (.tuple #[]) ∧ w' = w := by
  refine c_enter (N := 22) Tryd.func28 rfl Tryd.ntmps28 (by simp) ?_
  intro a hf
  refine wp_seq ?_
  refine wp_seq ?_
  refine wp_region_lit ?_
  refine s_m hf rfl ?_; clear hf a; intro a hf
  refine s_v hf (x_eqNil Tryd.underlying52 (hf.eval rfl) (hf.eval rfl)) ?_; clear hf a; intro a hf
  replace hf := hf.now (k := 5) (v' := .bool true) rfl rfl
  refine s_m hf rfl ?_; clear hf a; intro a hf
  refine s_pass hf rfl rfl ?_; clear hf a; intro a hf
  refine s_pass hf rfl rfl ?_; clear hf a; intro a hf
  refine s_pass hf rfl rfl ?_; clear hf a; intro a hf
  refine s_pass hf rfl rfl ?_; clear hf a; intro a hf
  refine s_pass hf rfl rfl ?_; clear hf a; intro a hf
  refine s_v hf (x_pick_t (hf.eval rfl) (hf.eval rfl)) ?_; clear hf a; intro a hf
  refine s_nil ?_
  refine then_n ?_
  refine c_cond_t hf rfl rfl ?_
  refine wp_ret ?_
  refine then_r ?_
  refine r_0 hf Tryd.results28 ?_
  exact ⟨rfl, rfl⟩
theorem rcalls_nil (w : World) : Calls Tryd.prog 71 #[.pointer none] w fun e w' => e = .returned (.int .i64 0) ∧ w' = w := by
  refine c_enter (N := 9) Tryd.func71 rfl Tryd.ntmps71 (by simp) ?_
  intro a hf
  refine wp_seq ?_
  refine wp_region_lit ?_
  refine s_a hf rfl ?_; clear hf a; intro a hf
  refine s_nil ?_
  refine then_n ?_
  refine wp_seq ?_
  refine wp_seq ?_
  refine wp_region_lit ?_
  refine s_m hf rfl ?_; clear hf a; intro a hf
  refine s_v hf (x_eqNil Tryd.underlying52 (hf.eval rfl) (hf.eval rfl)) ?_; clear hf a; intro a hf
  replace hf := hf.now (k := 4) (v' := .bool true) rfl rfl
  refine s_nil ?_
  refine then_n ?_
  refine c_cond_t hf rfl rfl ?_
  refine wp_seq ?_
  refine wp_region_lit ?_
  refine s_a hf rfl ?_; clear hf a; intro a hf
  refine s_nil ?_
  refine then_n ?_
  refine wp_ret ?_
  refine then_r ?_
  refine r_1 hf Tryd.results71 rfl ?_
  exact ⟨rfl, rfl⟩
theorem ralive_nil (w : World) : Calls Tryd.prog 66 #[.pointer none] w fun e w' => e = .returned (.bool false) ∧ w' = w := by
  refine c_enter (N := 11) Tryd.func66 rfl Tryd.ntmps66 (by simp) ?_
  intro a hf
  refine wp_seq ?_
  refine wp_region_lit ?_
  refine s_a hf rfl ?_; clear hf a; intro a hf
  refine s_nil ?_
  refine then_n ?_
  refine wp_seq ?_
  refine wp_region_lit ?_
  refine s_m hf rfl ?_; clear hf a; intro a hf
  refine s_v hf (x_neNil Tryd.underlying52 (hf.eval rfl) (hf.eval rfl)) ?_; clear hf a; intro a hf
  replace hf := hf.now (k := 4) (v' := .bool false) rfl rfl
  refine s_m hf rfl ?_; clear hf a; intro a hf
  refine s_pass hf rfl rfl ?_; clear hf a; intro a hf
  refine s_pass hf rfl rfl ?_; clear hf a; intro a hf
  refine s_pass hf rfl rfl ?_; clear hf a; intro a hf
  refine s_pass hf rfl rfl ?_; clear hf a; intro a hf
  refine s_v hf (x_pick_f (hf.eval rfl) (hf.eval rfl)) ?_; clear hf a; intro a hf
  refine s_a hf rfl ?_; clear hf a; intro a hf
  refine s_nil ?_
  refine then_n ?_
  refine wp_ret ?_
  refine r_1 hf Tryd.results66 rfl ?_
  exact ⟨rfl, rfl⟩
theorem rimage_nil (w : World) : Calls Tryd.prog 67 #[.pointer none] w fun e w' => e = .returned (.slice none 0 0) ∧ w' = w := by
  refine c_enter (N := 10) Tryd.func67 rfl Tryd.ntmps67 (by simp) ?_
  intro a hf
  refine wp_seq ?_
  refine wp_region_lit ?_
  refine s_a hf rfl ?_; clear hf a; intro a hf
  refine s_nil ?_
  refine then_n ?_
  refine wp_seq ?_
  refine wp_seq ?_
  refine wp_region_lit ?_
  refine s_m hf rfl ?_; clear hf a; intro a hf
  refine s_v hf (x_eqNil Tryd.underlying52 (hf.eval rfl) (hf.eval rfl)) ?_; clear hf a; intro a hf
  replace hf := hf.now (k := 4) (v' := .bool true) rfl rfl
  refine s_nil ?_
  refine then_n ?_
  refine c_cond_t hf rfl rfl ?_
  refine wp_seq ?_
  refine wp_region_lit ?_
  refine s_a hf rfl ?_; clear hf a; intro a hf
  refine s_nil ?_
  refine then_n ?_
  refine wp_ret ?_
  refine then_r ?_
  refine r_1 hf Tryd.results67 rfl ?_
  exact ⟨rfl, rfl⟩
theorem rcrash_nil (w0 : World) (v : Value) : Calls Tryd.prog 72 #[.pointer none, v] w0 fun e w' => e = .returned (.tuple #[.pointer none, .int .i64 1]) ∧ Kept w0 w' None_ := by
  have hs := St.start w0 None_
  refine c_enter (N := 24) Tryd.func72 rfl Tryd.ntmps72 (by simp) ?_
  intro a hf
  refine wp_seq ?_
  refine wp_region_lit ?_
  refine s_do hf rfl (y_box hs (hf.eval rfl) ?_); clear hf hs a; intro b w hs a hf
  refine s_a hf rfl ?_; clear hf a; intro a hf
  refine s_a hf rfl ?_; clear hf a; intro a hf
  refine s_nil ?_
  refine then_n ?_
  refine wp_seq ?_
  refine wp_seq ?_
  refine wp_region_lit ?_
  refine s_m hf rfl ?_; clear hf a; intro a hf
  refine s_v hf (x_eqNil Tryd.underlying52 (hf.eval rfl) (hf.eval rfl)) ?_; clear hf a; intro a hf
  replace hf := hf.now (k := 8) (v' := .bool true) rfl rfl
  refine s_nil ?_
  refine then_n ?_
  refine c_cond_t hf rfl rfl ?_
  refine wp_seq ?_
  refine wp_region_lit ?_
  refine s_a hf rfl ?_; clear hf a; intro a hf
  refine s_a hf rfl ?_; clear hf a; intro a hf
  refine s_nil ?_
  refine then_n ?_
  refine wp_ret ?_
  refine then_r ?_
  refine r_2 hf Tryd.results72 rfl rfl ?_
  exact ⟨rfl, hs.kept⟩
theorem recover_nil (w0 : World) : Calls Tryd.prog 29 #[.pointer none] w0 fun e w' => e = .returned (.tuple #[.agg (vdF (0, 0, 0)).toArray, .int .i64 1]) ∧ Kept w0 w' None_ := by
  have hs := St.start w0 None_
  refine c_enter (N := 55) Tryd.func29 rfl Tryd.ntmps29 (by simp) ?_
  intro a hf
  refine wp_seq ?_
  refine wp_region_lit ?_
  refine s_do hf rfl (y_alloc hs Tryd.zeroValue45 ?_); clear hf hs a; intro b2 w hs a hf
  change St _ _ (cb b2 45 (vdF (0, 0, 0)) :: _) at hs
  refine s_a hf rfl ?_; clear hf a; intro a hf
  refine s_nil ?_
  refine then_n ?_
  refine wp_seq ?_
  refine wp_seq ?_
  refine wp_region_lit ?_
  refine s_m hf rfl ?_; clear hf a; intro a hf
  refine s_v hf (x_eqNil Tryd.underlying49 (hf.eval rfl) (hf.eval rfl)) ?_; clear hf a; intro a hf
  replace hf := hf.now (k := 9) (v' := .bool true) rfl rfl
  refine s_nil ?_
  refine then_n ?_
  refine c_cond_t hf rfl rfl ?_
  refine wp_seq ?_
  refine wp_region_lit ?_
  refine s_r hf (x_build (v := .agg (vdF (0, 0, 0)).toArray) (hf.parts rfl) (fun w => by kernel_rfl) _) ?_; clear hf a; intro a hf
  replace hs := hs.take (A := cb b2 45 (vdF (0, 0, 0))) (by first | exact .k0 | exact .k1 | exact .k2 | exact .k3 | exact .k4 | exact .k5 | exact .k6 | exact .k7 | exact .k8 | exact .k9 | exact .k10 | exact .k11)
  refine s_do0 hf rfl (y_storeAgg (cs := vdF (0, 0, 0)) hs (n := 3) (by kernel_rfl) (hf.eval rfl) (hf.eval rfl) (by simp [Value.oneCell', vdF]) rfl rfl .k0 ?_); clear hf hs a; intro w hs a hf
  refine s_a hf rfl ?_; clear hf a; intro a hf
  refine s_nil ?_
  refine then_n ?_
  refine wp_ret ?_
  refine then_r ?_
  refine r_2c hf Tryd.results29 rfl rfl hs ag45 rfl .k0 ?_
  exact ⟨rfl, hs.kept⟩
theorem rrecover_nil (w0 : World) : Calls Tryd.prog 30 #[.pointer none] w0 fun e w' => e = .returned (.tuple #[.agg (vdF (0, 0, 0)).toArray, .int .i64 1]) ∧ Kept w0 w' None_ := by
  have hs := St.start w0 None_
  refine c_enter (N := 105) Tryd.func30 rfl Tryd.ntmps30 (by simp) ?_
  intro a hf
  refine wp_seq ?_
  refine wp_region_lit ?_
  refine s_do hf rfl (y_alloc hs Tryd.zeroValue45 ?_); clear hf hs a; intro b2 w hs a hf
  change St _ _ (cb b2 45 (vdF (0, 0, 0)) :: _) at hs
  refine s_a hf rfl ?_; clear hf a; intro a hf
  refine s_nil ?_
  refine then_n ?_
  refine wp_seq ?_
  refine wp_seq ?_
  refine wp_region_lit ?_
  refine s_m hf rfl ?_; clear hf a; intro a hf
  refine s_v hf (x_eqNil Tryd.underlying52 (hf.eval rfl) (hf.eval rfl)) ?_; clear hf a; intro a hf
  replace hf := hf.now (k := 18) (v' := .bool true) rfl rfl
  refine s_nil ?_
  refine then_n ?_
  refine c_cond_t hf rfl rfl ?_
  refine wp_seq ?_
  refine wp_region_lit ?_
  refine s_r hf (x_build (v := .agg (vdF (0, 0, 0)).toArray) (hf.parts rfl) (fun w => by kernel_rfl) _) ?_; clear hf a; intro a hf
  replace hs := hs.take (A := cb b2 45 (vdF (0, 0, 0))) (by first | exact .k0 | exact .k1 | exact .k2 | exact .k3 | exact .k4 | exact .k5 | exact .k6 | exact .k7 | exact .k8 | exact .k9 | exact .k10 | exact .k11)
  refine s_do0 hf rfl (y_storeAgg (cs := vdF (0, 0, 0)) hs (n := 3) (by kernel_rfl) (hf.eval rfl) (hf.eval rfl) (by simp [Value.oneCell', vdF]) rfl rfl .k0 ?_); clear hf hs a; intro w hs a hf
  refine s_a hf rfl ?_; clear hf a; intro a hf
  refine s_nil ?_
  refine then_n ?_
  refine wp_ret ?_
  refine then_r ?_
  refine r_2c hf Tryd.results30 rfl rfl hs ag45 rfl .k0 ?_
  exact ⟨rfl, hs.kept⟩
abbrev ChQ := Int × (Option Addr × Nat × List Int) × Int
def chF (c : ChQ) : List Value := [.int .i64 c.1, .slice c.2.1.1 c.2.1.2.2.length c.2.1.2.1, .int .i64 c.2.2]
structure ChG (h : Heaplet) (c : ChQ) : Prop where
  rd : RdS iF 1 h (.slice c.2.1.1 c.2.1.2.2.length c.2.1.2.1) c.2.1.2.2
  len : c.2.1.2.2.length ≤ 1048576
theorem alike_spec (w0 w : World) (R : List Asrt) (p q : Nat) (s : DS) (hs : St ⟨w0, None_⟩ w (diskA 94 113 5 3 p s :: refA 97 139 5 3 q s :: R)) (ho : DOk s) (k : Nat) (hb : DB s k) (hk : k ≤ 33000000) (ac : Option Addr) (cc : Nat) (cs : List ChQ) (hrc : RdS chF 3 (hp w0) (.slice ac cs.length cc) cs) (hgc : ∀ z ∈ cs, ChG (hp w0) z) (hlc : cs.length ≤ 1048576) : Calls Tryd.prog 31 #[.pointer (some ⟨p, 0, none⟩), .pointer (some ⟨q, 0, none⟩), .slice ac cs.length cc] w fun e w' => e = .returned (.bool true) ∧ Kept w0 w' None_ := by
  refine c_enter (N := 62) Tryd.func31 rfl Tryd.ntmps31 (by simp) ?_
  intro a hf
  refine wp_seq ?_
  refine wp_region_lit ?_
  refine s_a hf rfl ?_; clear hf a; intro a hf
  refine s_nil ?_
  refine then_n ?_
  refine wp_seq ?_
  refine wp_seq ?_
  refine wp_region_lit ?_
  refine s_m hf rfl ?_; clear hf a; intro a hf
  replace hs := hs.take (A := diskA 94 113 5 3 p s) (by first | exact .k0 | exact .k1 | exact .k2 | exact .k3 | exact .k4 | exact .k5 | exact .k6 | exact .k7 | exact .k8 | exact .k9 | exact .k10 | exact .k11)
  refine s_do hf rfl (y_call (hf.eval rfl) (hf.evals rfl) Tryd.call35 ((dCalls_spec _ _ _ p s hs).mono ?_))
  rintro e w1 ⟨rfl, hw9⟩
  rw [hw9]
  clear hw9 w1
  refine ⟨_, rfl, ?_⟩; clear hf a; intro a hf
  refine s_m hf rfl ?_; clear hf a; intro a hf
  replace hs := hs.take (A := refA 97 139 5 3 q s) (by first | exact .k0 | exact .k1 | exact .k2 | exact .k3 | exact .k4 | exact .k5 | exact .k6 | exact .k7 | exact .k8 | exact .k9 | exact .k10 | exact .k11)
  refine s_do hf rfl (y_call (hf.eval rfl) (hf.evals rfl) Tryd.call71 ((rCalls_spec _ _ _ q s hs).mono ?_))
  rintro e w1 ⟨rfl, hw9⟩
  rw [hw9]
  clear hw9 w1
  refine ⟨_, rfl, ?_⟩; clear hf a; intro a hf
  refine s_v hf (x_bin (hf.eval rfl) (hf.eval rfl) (r_ne _ _ _ _)) ?_; clear hf a; intro a hf
  refine s_m hf rfl ?_; clear hf a; intro a hf
  replace hf := hf.now (k := 17) (v' := .bool false) rfl (congrArg Value.bool (by first | rfl | simp))
  refine s_do hf (wanted_of hf rfl rfl rfl) (.value (x_move (hf.eval rfl) _) ?_); clear hf a; intro a hf
  replace hs := hs.take (A := diskA 94 113 5 3 p s) (by first | exact .k0 | exact .k1 | exact .k2 | exact .k3 | exact .k4 | exact .k5 | exact .k6 | exact .k7 | exact .k8 | exact .k9 | exact .k10 | exact .k11)
  refine s_do hf (wanted_of hf rfl rfl rfl) (y_call (hf.eval rfl) (hf.evals rfl) Tryd.call62 ((dAlive_spec _ _ _ p s hs).mono ?_))
  rintro e w1 ⟨rfl, hw9⟩
  rw [hw9]
  clear hw9 w1
  refine ⟨_, rfl, ?_⟩; clear hf a; intro a hf
  refine s_do hf (wanted_of hf rfl rfl rfl) (.value (x_move (hf.eval rfl) _) ?_); clear hf a; intro a hf
  replace hs := hs.take (A := refA 97 139 5 3 q s) (by first | exact .k0 | exact .k1 | exact .k2 | exact .k3 | exact .k4 | exact .k5 | exact .k6 | exact .k7 | exact .k8 | exact .k9 | exact .k10 | exact .k11)
  refine s_do hf (wanted_of hf rfl rfl rfl) (y_call (hf.eval rfl) (hf.evals rfl) Tryd.call66 ((rAlive_spec _ _ _ q s hs).mono ?_))
  rintro e w1 ⟨rfl, hw9⟩
  rw [hw9]
  clear hw9 w1
  refine ⟨_, rfl, ?_⟩; clear hf a; intro a hf
  refine s_do hf (wanted_of hf rfl rfl rfl) (.value (x_boolNe Tryd.underlying4 (hf.eval rfl) (hf.eval rfl) _) ?_); clear hf a; intro a hf
  refine s_v hf (x_pick_f (hf.eval rfl) (hf.eval rfl)) ?_; clear hf a; intro a hf
  refine s_m hf rfl ?_; clear hf a; intro a hf
  replace hf := hf.now (k := 24) (v' := .bool false) rfl (congrArg Value.bool (by first | rfl | simp))
  refine s_do hf (wanted_of hf rfl rfl rfl) (.value (x_move (hf.eval rfl) _) ?_); clear hf a; intro a hf
  have hn1 := ho.now
  have hn2 := ho.room1
  replace hs := hs.take (A := diskA 94 113 5 3 p s) (by first | exact .k0 | exact .k1 | exact .k2 | exact .k3 | exact .k4 | exact .k5 | exact .k6 | exact .k7 | exact .k8 | exact .k9 | exact .k10 | exact .k11)
  refine s_do hf (wanted_of hf rfl rfl rfl) (y_call (hf.eval rfl) (hf.evals rfl) Tryd.call36 ((dImage_spec _ _ _ p s hs (by omega)).mono ?_))
  rintro e w1 ⟨e1, f1, rfl, hs⟩
  refine ⟨_, rfl, ?_⟩; clear hf a; intro a hf
  refine s_do hf (wanted_of hf rfl rfl rfl) (.value (x_move (hf.eval rfl) _) ?_); clear hf a; intro a hf
  replace hs := hs.take (A := refA 97 139 5 3 q s) (by first | exact .k0 | exact .k1 | exact .k2 | exact .k3 | exact .k4 | exact .k5 | exact .k6 | exact .k7 | exact .k8 | exact .k9 | exact .k10 | exact .k11)
  refine s_do hf (wanted_of hf rfl rfl rfl) (y_call (hf.eval rfl) (hf.evals rfl) Tryd.call67 ((rImage_spec _ _ _ q s hs (by omega)).mono ?_))
  rintro e w1 ⟨e2, f2, rfl, hs⟩
  refine ⟨_, rfl, ?_⟩; clear hf a; intro a hf
  replace hs := hs.take (A := slB 5 (.slice e2 s.now.length f2) s.now) (by first | exact .k0 | exact .k1 | exact .k2 | exact .k3 | exact .k4 | exact .k5 | exact .k6 | exact .k7 | exact .k8 | exact .k9 | exact .k10 | exact .k11)
  replace hs := hs.take (A := slB 5 (.slice e1 s.now.length f1) s.now) (by first | exact .k0 | exact .k1 | exact .k2 | exact .k3 | exact .k4 | exact .k5 | exact .k6 | exact .k7 | exact .k8 | exact .k9 | exact .k10 | exact .k11)
  refine s_do hf (wanted_of hf rfl rfl rfl) (y_call (hf.eval rfl) (hf.evals rfl) Tryd.call12 ((same_spec _ _ _ s.now (hs.rdB .k0 fun h => slB_rd) _ _ s.now (hs.rdB .k1 fun h => slB_rd) (by omega)).mono ?_))
  rintro e w1 ⟨rfl, hk9⟩
  replace hs := hs.ext hk9
  refine ⟨_, rfl, ?_⟩; clear hf a; intro a hf
  refine s_do hf (wanted_of hf rfl rfl rfl) (.value (x_not (hf.eval rfl) _) ?_); clear hf a; intro a hf
  refine s_v hf (x_pick_f (hf.eval rfl) (hf.eval rfl)) ?_; clear hf a; intro a hf
  refine s_nil ?_
  refine then_n ?_
  refine c_cond_f hf rfl (by first | rfl | simp) ?_
  refine wp_skip ?_
  refine then_n ?_
  refine wp_seq ?_
  refine wp_seq ?_
  refine wp_region_lit ?_
  replace hs := hs.take (A := refA 97 139 5 3 q s) (by first | exact .k0 | exact .k1 | exact .k2 | exact .k3 | exact .k4 | exact .k5 | exact .k6 | exact .k7 | exact .k8 | exact .k9 | exact .k10 | exact .k11)
  replace hs := hs.take (A := diskA 94 113 5 3 p s) (by first | exact .k0 | exact .k1 | exact .k2 | exact .k3 | exact .k4 | exact .k5 | exact .k6 | exact .k7 | exact .k8 | exact .k9 | exact .k10 | exact .k11)
  replace hs := St.cut [_, _] [_, _] hs
  refine s_a hf rfl ?_; clear hf a; intro a hf
  refine s_nil ?_
  refine then_n ?_
  refine wp_block ?_
  refine c_loop (L0 := [(0, _), (1, _), (2, _)]) (fun M w m => ∃ (i : Nat) (t : DS), M = [(7, .int .i64 (i : Int))] ∧ cs.length - i = m ∧ i ≤ cs.length ∧ DOk t ∧ DB t k ∧ St ⟨w0, None_⟩ w (diskA 94 113 5 3 p t :: refA 97 139 5 3 q t :: R)) (M0 := [(7, .int .i64 0)]) (⟨0, s, rfl, rfl, Nat.zero_le _, ho, hb, hs⟩) (hf.sub ⟨rfl, rfl, rfl, rfl, trivial⟩) ?_
  clear hf hs a
  rintro M m a w ⟨i, t, rfl, rfl, hi, hto, htb, hs⟩ hf
  refine wp_seq ?_
  refine wp_seq ?_
  refine wp_region_lit ?_
  refine s_m hf rfl ?_; clear hf a; intro a hf
  refine s_m hf rfl ?_; clear hf a; intro a hf
  refine s_v hf (x_len Tryd.underlying48 (hf.eval rfl)) ?_; clear hf a; intro a hf
  refine s_v hf (x_bin (hf.eval rfl) (hf.eval rfl) (r_lt _ _ _ _)) ?_; clear hf a; intro a hf
  refine s_nil ?_
  refine then_n ?_
  refine c_cond hf rfl (fun hi1 => ?_) (fun hi1 => ?_)
  · simp only [decide_eq_true_eq, decide_eq_false_iff_not, Bool.not_eq_true', Bool.not_eq_false', Bool.not_eq_true, Int.not_lt, Int.not_le] at hi1
    have hlt : i < cs.length := by omega
    obtain ⟨ac, rfl⟩ := hrc.some (by omega)
    have hg := hgc _ (List.getElem_mem hlt)
    have ht1 := htb.sizes
    have ht2 := htb.pcs
    have hol := outN_le hto (cs[i].1, cs[i].2.1.2.2, cs[i].2.2)
    rw [← outS_length] at hol
    have hr1 := hto.room1
    refine wp_skip ?_
    refine then_n ?_
    refine wp_seq ?_
    refine wp_block ?_
    refine wp_seq ?_
    refine wp_region_lit ?_
    refine s_m hf rfl ?_; clear hf a; intro a hf
    refine s_m hf rfl ?_; clear hf a; intro a hf
    refine s_m hf rfl ?_; clear hf a; intro a hf
    refine s_v hf (x_indexAddr sl48 (hf.eval rfl) (hf.eval rfl) (by omega) (by omega)) ?_; clear hf a; intro a hf
    refine s_r hf (x_loadS (f := chF) ag69 (fun _ => rfl) (hs.old hrc) (hf.eval rfl) (by simpa using hlt)) ?_; clear hf a; intro a hf
    replace hf := hf.now (k := 43) (v' := .agg #[.int .i64 cs[i].1, .slice cs[i].2.1.1 cs[i].2.1.2.2.length cs[i].2.1.2.1, .int .i64 cs[i].2.2]) rfl (rfl)
    replace hs := hs.take (A := diskA 94 113 5 3 p t) (by first | exact .k0 | exact .k1 | exact .k2 | exact .k3 | exact .k4 | exact .k5 | exact .k6 | exact .k7 | exact .k8 | exact .k9 | exact .k10 | exact .k11)
    refine s_do hf rfl (y_call (hf.eval rfl) (hf.evals rfl) Tryd.call37 ((dCrash_spec _ _ _ p t hs cs[i].1 cs[i].2.1.1 cs[i].2.1.2.1 cs[i].2.1.2.2 cs[i].2.2 hto (RdyS.old hg.rd) (by omega) (by omega)).mono ?_))
    rintro e w1 ⟨p2, rfl, hs⟩
    refine ⟨_, rfl, ?_⟩; clear hf a; intro a hf
    refine s_m hf rfl ?_; clear hf a; intro a hf
    refine s_v hf (x_extract (hf.eval rfl) rfl) ?_; clear hf a; intro a hf
    refine s_v hf (x_extract (hf.eval rfl) rfl) ?_; clear hf a; intro a hf
    refine s_a hf rfl ?_; clear hf a; intro a hf
    refine s_a hf rfl ?_; clear hf a; intro a hf
    refine s_nil ?_
    refine then_n ?_
    refine wp_seq ?_
    refine wp_region_lit ?_
    refine s_m hf rfl ?_; clear hf a; intro a hf
    refine s_m hf rfl ?_; clear hf a; intro a hf
    refine s_m hf rfl ?_; clear hf a; intro a hf
    refine s_v hf (x_indexAddr sl48 (hf.eval rfl) (hf.eval rfl) (by omega) (by omega)) ?_; clear hf a; intro a hf
    refine s_r hf (x_loadS (f := chF) ag69 (fun _ => rfl) (hs.old hrc) (hf.eval rfl) (by simpa using hlt)) ?_; clear hf a; intro a hf
    replace hf := hf.now (k := 52) (v' := .agg #[.int .i64 cs[i].1, .slice cs[i].2.1.1 cs[i].2.1.2.2.length cs[i].2.1.2.1, .int .i64 cs[i].2.2]) rfl (rfl)
    replace hs := hs.take (A := refA 97 139 5 3 q t) (by first | exact .k0 | exact .k1 | exact .k2 | exact .k3 | exact .k4 | exact .k5 | exact .k6 | exact .k7 | exact .k8 | exact .k9 | exact .k10 | exact .k11)
    refine s_do hf rfl (y_call (hf.eval rfl) (hf.evals rfl) Tryd.call72 ((rCrash_spec _ _ _ q t hs cs[i].1 cs[i].2.1.1 cs[i].2.1.2.1 cs[i].2.1.2.2 cs[i].2.2 hto (RdyS.old hg.rd) (by omega) (by omega)).mono ?_))
    rintro e w1 ⟨q2, rfl, hs⟩
    refine ⟨_, rfl, ?_⟩; clear hf a; intro a hf
    refine s_m hf rfl ?_; clear hf a; intro a hf
    refine s_v hf (x_extract (hf.eval rfl) rfl) ?_; clear hf a; intro a hf
    refine s_v hf (x_extract (hf.eval rfl) rfl) ?_; clear hf a; intro a hf
    refine s_a hf rfl ?_; clear hf a; intro a hf
    refine s_a hf rfl ?_; clear hf a; intro a hf
    refine s_nil ?_
    refine then_n ?_
    refine wp_seq ?_
    refine wp_region_lit ?_
    refine s_m hf rfl ?_; clear hf a; intro a hf
    replace hs := hs.take (A := diskA 94 113 5 3 p2 (newS (outS t (cs[i].1, cs[i].2.1.2.2, cs[i].2.2)) t.room)) (by first | exact .k0 | exact .k1 | exact .k2 | exact .k3 | exact .k4 | exact .k5 | exact .k6 | exact .k7 | exact .k8 | exact .k9 | exact .k10 | exact .k11)
    refine s_do hf rfl (y_call (hf.eval rfl) (hf.evals rfl) Tryd.call36 ((dImage_spec _ _ _ p2 _ hs (by show (outS t (cs[i].1, cs[i].2.1.2.2, cs[i].2.2)).length ≤ _; omega)).mono ?_))
    rintro e w1 ⟨e1, fe1, rfl, hs⟩
    replace hs : St _ _ (slB 5 (.slice e1 (outS t (cs[i].1, cs[i].2.1.2.2, cs[i].2.2)).length fe1) (outS t (cs[i].1, cs[i].2.1.2.2, cs[i].2.2)) :: _) := hs
    refine ⟨_, rfl, ?_⟩; clear hf a; intro a hf
    refine s_m hf rfl ?_; clear hf a; intro a hf
    replace hs := hs.take (A := refA 97 139 5 3 q2 (newS (outS t (cs[i].1, cs[i].2.1.2.2, cs[i].2.2)) t.room)) (by first | exact .k0 | exact .k1 | exact .k2 | exact .k3 | exact .k4 | exact .k5 | exact .k6 | exact .k7 | exact .k8 | exact .k9 | exact .k10 | exact .k11)
    refine s_do hf rfl (y_call (hf.eval rfl) (hf.evals rfl) Tryd.call67 ((rImage_spec _ _ _ q2 _ hs (by show (outS t (cs[i].1, cs[i].2.1.2.2, cs[i].2.2)).length ≤ _; omega)).mono ?_))
    rintro e w1 ⟨e2, fe2, rfl, hs⟩
    replace hs : St _ _ (slB 5 (.slice e2 (outS t (cs[i].1, cs[i].2.1.2.2, cs[i].2.2)).length fe2) (outS t (cs[i].1, cs[i].2.1.2.2, cs[i].2.2)) :: _) := hs
    refine ⟨_, rfl, ?_⟩; clear hf a; intro a hf
    replace hs := hs.take (A := slB 5 (.slice e2 (outS t (cs[i].1, cs[i].2.1.2.2, cs[i].2.2)).length fe2) (outS t (cs[i].1, cs[i].2.1.2.2, cs[i].2.2))) (by first | exact .k0 | exact .k1 | exact .k2 | exact .k3 | exact .k4 | exact .k5 | exact .k6 | exact .k7 | exact .k8 | exact .k9 | exact .k10 | exact .k11)
    replace hs := hs.take (A := slB 5 (.slice e1 (outS t (cs[i].1, cs[i].2.1.2.2, cs[i].2.2)).length fe1) (outS t (cs[i].1, cs[i].2.1.2.2, cs[i].2.2))) (by first | exact .k0 | exact .k1 | exact .k2 | exact .k3 | exact .k4 | exact .k5 | exact .k6 | exact .k7 | exact .k8 | exact .k9 | exact .k10 | exact .k11)
    refine s_do hf rfl (y_call (hf.eval rfl) (hf.evals rfl) Tryd.call12 ((same_spec _ _ _ (outS t (cs[i].1, cs[i].2.1.2.2, cs[i].2.2)) (hs.rdB .k0 fun h => slB_rd) _ _ (outS t (cs[i].1, cs[i].2.1.2.2, cs[i].2.2)) (hs.rdB .k1 fun h => slB_rd) (by omega)).mono ?_))
    rintro e w1 ⟨rfl, hk9⟩
    replace hs := hs.ext hk9
    refine ⟨_, rfl, ?_⟩; clear hf a; intro a hf
    refine s_v hf (x_not (hf.eval rfl)) ?_; clear hf a; intro a hf
    refine s_nil ?_
    refine then_n ?_
    refine c_cond_f hf rfl (by first | rfl | simp) ?_
    refine wp_skip ?_
    refine blk_n ?_
    refine then_n ?_
    refine wp_region_lit ?_
    replace hs := hs.take (A := refA 97 139 5 3 q (kilS t)) (by first | exact .k0 | exact .k1 | exact .k2 | exact .k3 | exact .k4 | exact .k5 | exact .k6 | exact .k7 | exact .k8 | exact .k9 | exact .k10 | exact .k11)
    replace hs := hs.take (A := diskA 94 113 5 3 p (kilS t)) (by first | exact .k0 | exact .k1 | exact .k2 | exact .k3 | exact .k4 | exact .k5 | exact .k6 | exact .k7 | exact .k8 | exact .k9 | exact .k10 | exact .k11)
    replace hs := St.cut [_, _] [_, _, _, _] hs
    refine s_m hf rfl ?_; clear hf a; intro a hf
    refine s_v hf (x_bin (hf.eval rfl) (hf.eval rfl) (r_addi _ (by omega) (by omega))) ?_; clear hf a; intro a hf
    refine s_a hf rfl ?_; clear hf a; intro a hf
    refine s_nil ?_
    exact ⟨_, _, ⟨i + 1, kilS t, rfl, rfl, by omega, kilS_ok hto, kilS_b htb, hs⟩, by omega, hf.sub ⟨rfl, rfl, rfl, rfl, trivial⟩⟩
  · simp only [decide_eq_true_eq, decide_eq_false_iff_not, Bool.not_eq_true', Bool.not_eq_false', Bool.not_eq_true, Int.not_lt, Int.not_le] at hi1
    refine wp_exit ?_
    refine then_x ?_
    refine then_x ?_
    refine blk_x ?_
    refine then_n ?_
    refine wp_seq ?_
    refine wp_region_lit ?_
    refine s_a hf rfl ?_; clear hf a; intro a hf
    refine s_nil ?_
    refine then_n ?_
    refine wp_ret ?_
    refine r_1 hf Tryd.results31 rfl ?_
    exact ⟨rfl, hs.kept⟩
theorem alike_nil (w0 : World) (ac : Option Addr) (cc : Nat) (cs : List ChQ) (hrc : RdS chF 3 (hp w0) (.slice ac cs.length cc) cs) (hgc : ∀ z ∈ cs, ChG (hp w0) z) (hlc : cs.length ≤ 1048576) : Calls Tryd.prog 31 #[.pointer none, .pointer none, .slice ac cs.length cc] w0 fun e w' => e = .returned (.bool true) ∧ Kept w0 w' None_ := by
  have hs := St.start w0 None_
  refine c_enter (N := 62) Tryd.func31 rfl Tryd.ntmps31 (by simp) ?_
  intro a hf
  refine wp_seq ?_
  refine wp_region_lit ?_
  refine s_a hf rfl ?_; clear hf a; intro a hf
  refine s_nil ?_
  refine then_n ?_
  refine wp_seq ?_
  refine wp_seq ?_
  refine wp_region_lit ?_
  refine s_m hf rfl ?_; clear hf a; intro a hf
  refine s_do hf rfl (y_call (hf.eval rfl) (hf.evals rfl) Tryd.call35 ((calls_nil _).mono ?_))
  rintro e w1 ⟨rfl, hw9⟩
  rw [hw9]
  clear hw9 w1
  refine ⟨_, rfl, ?_⟩; clear hf a; intro a hf
  refine s_m hf rfl ?_; clear hf a; intro a hf
  refine s_do hf rfl (y_call (hf.eval rfl) (hf.evals rfl) Tryd.call71 ((rcalls_nil _).mono ?_))
  rintro e w1 ⟨rfl, hw9⟩
  rw [hw9]
  clear hw9 w1
  refine ⟨_, rfl, ?_⟩; clear hf a; intro a hf
  refine s_v hf (x_bin (hf.eval rfl) (hf.eval rfl) (r_ne _ _ _ _)) ?_; clear hf a; intro a hf
  refine s_m hf rfl ?_; clear hf a; intro a hf
  replace hf := hf.now (k := 17) (v' := .bool false) rfl (congrArg Value.bool (by first | rfl | simp))
  refine s_do hf (wanted_of hf rfl rfl rfl) (.value (x_move (hf.eval rfl) _) ?_); clear hf a; intro a hf
  refine s_do hf (wanted_of hf rfl rfl rfl) (y_call (hf.eval rfl) (hf.evals rfl) Tryd.call62 ((alive_nil _).mono ?_))
  rintro e w1 ⟨rfl, hw9⟩
  rw [hw9]
  clear hw9 w1
  refine ⟨_, rfl, ?_⟩; clear hf a; intro a hf
  refine s_do hf (wanted_of hf rfl rfl rfl) (.value (x_move (hf.eval rfl) _) ?_); clear hf a; intro a hf
  refine s_do hf (wanted_of hf rfl rfl rfl) (y_call (hf.eval rfl) (hf.evals rfl) Tryd.call66 ((ralive_nil _).mono ?_))
  rintro e w1 ⟨rfl, hw9⟩
  rw [hw9]
  clear hw9 w1
  refine ⟨_, rfl, ?_⟩; clear hf a; intro a hf
  refine s_do hf (wanted_of hf rfl rfl rfl) (.value (x_boolNe Tryd.underlying4 (hf.eval rfl) (hf.eval rfl) _) ?_); clear hf a; intro a hf
  refine s_v hf (x_pick_f (hf.eval rfl) (hf.eval rfl)) ?_; clear hf a; intro a hf
  refine s_m hf rfl ?_; clear hf a; intro a hf
  replace hf := hf.now (k := 24) (v' := .bool false) rfl (congrArg Value.bool (by first | rfl | simp))
  refine s_do hf (wanted_of hf rfl rfl rfl) (.value (x_move (hf.eval rfl) _) ?_); clear hf a; intro a hf
  refine s_do hf (wanted_of hf rfl rfl rfl) (y_call (hf.eval rfl) (hf.evals rfl) Tryd.call36 ((image_nil _).mono ?_))
  rintro e w1 ⟨rfl, hw9⟩
  rw [hw9]
  clear hw9 w1
  refine ⟨_, rfl, ?_⟩; clear hf a; intro a hf
  refine s_do hf (wanted_of hf rfl rfl rfl) (.value (x_move (hf.eval rfl) _) ?_); clear hf a; intro a hf
  refine s_do hf (wanted_of hf rfl rfl rfl) (y_call (hf.eval rfl) (hf.evals rfl) Tryd.call67 ((rimage_nil _).mono ?_))
  rintro e w1 ⟨rfl, hw9⟩
  rw [hw9]
  clear hw9 w1
  refine ⟨_, rfl, ?_⟩; clear hf a; intro a hf
  refine s_do hf (wanted_of hf rfl rfl rfl) (y_call (hf.eval rfl) (hf.evals rfl) Tryd.call12 ((same_spec _ none 0 [] (rdB_nil _) none 0 [] (rdB_nil _) (by simp)).mono ?_))
  rintro e w1 ⟨rfl, hk9⟩
  replace hs := hs.ext hk9
  refine ⟨_, rfl, ?_⟩; clear hf a; intro a hf
  refine s_do hf (wanted_of hf rfl rfl rfl) (.value (x_not (hf.eval rfl) _) ?_); clear hf a; intro a hf
  refine s_v hf (x_pick_f (hf.eval rfl) (hf.eval rfl)) ?_; clear hf a; intro a hf
  refine s_nil ?_
  refine then_n ?_
  refine c_cond_f hf rfl (by first | rfl | simp) ?_
  refine wp_skip ?_
  refine then_n ?_
  refine wp_seq ?_
  refine wp_seq ?_
  refine wp_region_lit ?_
  refine s_a hf rfl ?_; clear hf a; intro a hf
  refine s_nil ?_
  refine then_n ?_
  refine wp_block ?_
  refine c_loop (L0 := [(0, _), (1, _), (2, _)]) (fun M w m => ∃ (i : Nat), M = [(7, .int .i64 (i : Int))] ∧ cs.length - i = m ∧ i ≤ cs.length ∧ St ⟨w0, None_⟩ w []) (M0 := [(7, .int .i64 0)]) (⟨0, rfl, rfl, Nat.zero_le _, hs⟩) (hf.sub ⟨rfl, rfl, rfl, rfl, trivial⟩) ?_
  clear hf hs a
  rintro M m a w ⟨i, rfl, rfl, hi, hs⟩ hf
  refine wp_seq ?_
  refine wp_seq ?_
  refine wp_region_lit ?_
  refine s_m hf rfl ?_; clear hf a; intro a hf
  refine s_m hf rfl ?_; clear hf a; intro a hf
  refine s_v hf (x_len Tryd.underlying48 (hf.eval rfl)) ?_; clear hf a; intro a hf
  refine s_v hf (x_bin (hf.eval rfl) (hf.eval rfl) (r_lt _ _ _ _)) ?_; clear hf a; intro a hf
  refine s_nil ?_
  refine then_n ?_
  refine c_cond hf rfl (fun hi1 => ?_) (fun hi1 => ?_)
  · simp only [decide_eq_true_eq, decide_eq_false_iff_not, Bool.not_eq_true', Bool.not_eq_false', Bool.not_eq_true, Int.not_lt, Int.not_le] at hi1
    have hlt : i < cs.length := by omega
    obtain ⟨ac, rfl⟩ := hrc.some (by omega)
    refine wp_skip ?_
    refine then_n ?_
    refine wp_seq ?_
    refine wp_block ?_
    refine wp_seq ?_
    refine wp_region_lit ?_
    refine s_m hf rfl ?_; clear hf a; intro a hf
    refine s_m hf rfl ?_; clear hf a; intro a hf
    refine s_m hf rfl ?_; clear hf a; intro a hf
    refine s_v hf (x_indexAddr sl48 (hf.eval rfl) (hf.eval rfl) (by omega) (by omega)) ?_; clear hf a; intro a hf
    refine s_r hf (x_loadS (f := chF) ag69 (fun _ => rfl) (hs.old hrc) (hf.eval rfl) (by simpa using hlt)) ?_; clear hf a; intro a hf
    replace hf := hf.now (k := 43) (v' := .agg #[.int .i64 cs[i].1, .slice cs[i].2.1.1 cs[i].2.1.2.2.length cs[i].2.1.2.1, .int .i64 cs[i].2.2]) rfl (rfl)
    refine s_do hf rfl (y_call (hf.eval rfl) (hf.evals rfl) Tryd.call37 ((crash_nil _ _).mono ?_))
    rintro e w1 ⟨rfl, hk9⟩
    replace hs := hs.ext hk9
    refine ⟨_, rfl, ?_⟩; clear hf a; intro a hf
    refine s_m hf rfl ?_; clear hf a; intro a hf
    refine s_v hf (x_extract (hf.eval rfl) rfl) ?_; clear hf a; intro a hf
    refine s_v hf (x_extract (hf.eval rfl) rfl) ?_; clear hf a; intro a hf
    refine s_a hf rfl ?_; clear hf a; intro a hf
    refine s_a hf rfl ?_; clear hf a; intro a hf
    refine s_nil ?_
    refine then_n ?_
    refine wp_seq ?_
    refine wp_region_lit ?_
    refine s_m hf rfl ?_; clear hf a; intro a hf
    refine s_m hf rfl ?_; clear hf a; intro a hf
    refine s_m hf rfl ?_; clear hf a; intro a hf
    refine s_v hf (x_indexAddr sl48 (hf.eval rfl) (hf.eval rfl) (by omega) (by omega)) ?_; clear hf a; intro a hf
    refine s_r hf (x_loadS (f := chF) ag69 (fun _ => rfl) (hs.old hrc) (hf.eval rfl) (by simpa using hlt)) ?_; clear hf a; intro a hf
    replace hf := hf.now (k := 52) (v' := .agg #[.int .i64 cs[i].1, .slice cs[i].2.1.1 cs[i].2.1.2.2.length cs[i].2.1.2.1, .int .i64 cs[i].2.2]) rfl (rfl)
    refine s_do hf rfl (y_call (hf.eval rfl) (hf.evals rfl) Tryd.call72 ((rcrash_nil _ _).mono ?_))
    rintro e w1 ⟨rfl, hk9⟩
    replace hs := hs.ext hk9
    refine ⟨_, rfl, ?_⟩; clear hf a; intro a hf
    refine s_m hf rfl ?_; clear hf a; intro a hf
    refine s_v hf (x_extract (hf.eval rfl) rfl) ?_; clear hf a; intro a hf
    refine s_v hf (x_extract (hf.eval rfl) rfl) ?_; clear hf a; intro a hf
    refine s_a hf rfl ?_; clear hf a; intro a hf
    refine s_a hf rfl ?_; clear hf a; intro a hf
    refine s_nil ?_
    refine then_n ?_
    refine wp_seq ?_
    refine wp_region_lit ?_
    refine s_m hf rfl ?_; clear hf a; intro a hf
    refine s_do hf rfl (y_call (hf.eval rfl) (hf.evals rfl) Tryd.call36 ((image_nil _).mono ?_))
    rintro e w1 ⟨rfl, hw9⟩
    rw [hw9]
    clear hw9 w1
    refine ⟨_, rfl, ?_⟩; clear hf a; intro a hf
    refine s_m hf rfl ?_; clear hf a; intro a hf
    refine s_do hf rfl (y_call (hf.eval rfl) (hf.evals rfl) Tryd.call67 ((rimage_nil _).mono ?_))
    rintro e w1 ⟨rfl, hw9⟩
    rw [hw9]
    clear hw9 w1
    refine ⟨_, rfl, ?_⟩; clear hf a; intro a hf
    refine s_do hf rfl (y_call (hf.eval rfl) (hf.evals rfl) Tryd.call12 ((same_spec _ none 0 [] (rdB_nil _) none 0 [] (rdB_nil _) (by simp)).mono ?_))
    rintro e w1 ⟨rfl, hk9⟩
    replace hs := hs.ext hk9
    refine ⟨_, rfl, ?_⟩; clear hf a; intro a hf
    refine s_v hf (x_not (hf.eval rfl)) ?_; clear hf a; intro a hf
    refine s_nil ?_
    refine then_n ?_
    refine c_cond_f hf rfl (by first | rfl | simp) ?_
    refine wp_skip ?_
    refine blk_n ?_
    refine then_n ?_
    refine wp_region_lit ?_
    refine s_m hf rfl ?_; clear hf a; intro a hf
    refine s_v hf (x_bin (hf.eval rfl) (hf.eval rfl) (r_addi _ (by omega) (by omega))) ?_; clear hf a; intro a hf
    refine s_a hf rfl ?_; clear hf a; intro a hf
    refine s_nil ?_
    exact ⟨_, _, ⟨i + 1, rfl, rfl, by omega, hs⟩, by omega, hf.sub ⟨rfl, rfl, rfl, rfl, trivial⟩⟩
  · simp only [decide_eq_true_eq, decide_eq_false_iff_not, Bool.not_eq_true', Bool.not_eq_false', Bool.not_eq_true, Int.not_lt, Int.not_le] at hi1
    refine wp_exit ?_
    refine then_x ?_
    refine then_x ?_
    refine blk_x ?_
    refine then_n ?_
    refine wp_seq ?_
    refine wp_region_lit ?_
    refine s_a hf rfl ?_; clear hf a; intro a hf
    refine s_nil ?_
    refine then_n ?_
    refine wp_ret ?_
    refine r_1 hf Tryd.results31 rfl ?_
    exact ⟨rfl, hs.kept⟩
attribute [local irreducible] Vw.sl Vw.lkV Vw.runS Vw.opsR recV recS
theorem opsR_len (im : List UInt8) (h : im.length ≤ 16777216) : (opsR im).length ≤ 2097155 := by
  rcases look_cases im with ⟨h1, _⟩ | ⟨h1, _⟩ | ⟨h1, k1, _⟩
  · unfold opsR; rw [if_pos h1]; simp
  · rw [opsR_o (by omega) (by omega)]; simp
  · rw [opsR_3 h1]
    have := lkP_small k1 h
    simp only [List.length_append, List.length_map, List.length_cons, List.length_nil]; omega
theorem rec_keeps {s : DS} {k : Nat} (ho : DOk s) (hb : DB s k) : DOk (recS s) ∧ k + 2097155 ≤ k + 2097155 ∧ DB (recS s) (k + 2097155) := by
  refine ⟨?_, Nat.le_refl _, ?_⟩
  · unfold recS; split
    · exact ho
    · exact runS_ok _ ho
  · unfold recS; split
    · exact hb.up (by omega)
    · have := ho.now; have := ho.room1
      exact (runS_b _ ho hb).up (by have := opsR_len s.now (by omega); omega)
theorem recovers_ok (w0 : World) (hT : Tab 0 (hp w0)) (a1 : Option Addr) (c1 : Nat) (image : List UInt8) (hr1 : RdB (hp w0) (.slice a1 image.length c1) image) (hl1 : image.length ≤ 140737488351232) (cap fuse : Int) (hfu : fuse ≤ 9223372036854775807) (ac : Option Addr) (cc : Nat) (cs : List ChQ) (hrc : RdS chF 3 (hp w0) (.slice ac cs.length cc) cs) (hgc : ∀ z ∈ cs, ChG (hp w0) z) (hlc : cs.length ≤ 1048576) (hc1 : 0 ≤ cap) (hc2 : cap ≤ 16777216) (hc3 : image.length ≤ cap) : Calls Tryd.prog 7 #[.slice a1 image.length c1, .int .i64 cap, .int .i64 fuse, .slice ac cs.length cc] w0 fun e w' => e = .returned (.bool true) ∧ Kept w0 w' None_ := by
  have hs := St.start w0 None_
  have ho0 := newS_ok hc1 hc2 hc3
  have ho1 := fuS_ok ho0 hfu
  have hb1 := fuS_b (newS_b image cap 0) fuse
  refine c_enter (N := 60) Tryd.func7 rfl Tryd.ntmps7 (by simp) ?_
  intro a hf
  refine wp_seq ?_
  refine wp_region_lit ?_
  refine s_a hf rfl ?_; clear hf a; intro a hf
  refine s_nil ?_
  refine then_n ?_
  refine wp_seq ?_
  refine wp_region_lit ?_
  refine s_m hf rfl ?_; clear hf a; intro a hf
  refine s_m hf rfl ?_; clear hf a; intro a hf
  refine s_do hf rfl (y_call (hf.eval rfl) (hf.evals rfl) Tryd.call25 ((dNew_in _ _ _ image (hs.oldB hr1) hl1 cap hc1 hc2 hc3).mono ?_))
  rintro e w1 ⟨p, rfl, hj⟩
  replace hs := hs.join hj
  simp only [List.cons_append, List.nil_append] at hs
  refine ⟨_, rfl, ?_⟩; clear hf a; intro a hf
  refine s_m hf rfl ?_; clear hf a; intro a hf
  refine s_v hf (x_extract (hf.eval rfl) rfl) ?_; clear hf a; intro a hf
  refine s_v hf (x_extract (hf.eval rfl) rfl) ?_; clear hf a; intro a hf
  refine s_a hf rfl ?_; clear hf a; intro a hf
  refine s_a hf rfl ?_; clear hf a; intro a hf
  refine s_nil ?_
  refine then_n ?_
  refine wp_seq ?_
  refine wp_region_lit ?_
  refine s_m hf rfl ?_; clear hf a; intro a hf
  refine s_m hf rfl ?_; clear hf a; intro a hf
  refine s_do hf rfl (y_call (hf.eval rfl) (hf.evals rfl) Tryd.call26 ((rNew_in _ _ _ image (hs.oldB hr1) hl1 cap hc1 hc2 hc3).mono ?_))
  rintro e w1 ⟨q, rfl, hj⟩
  replace hs := hs.join hj
  simp only [List.cons_append, List.nil_append] at hs
  refine ⟨_, rfl, ?_⟩; clear hf a; intro a hf
  refine s_m hf rfl ?_; clear hf a; intro a hf
  refine s_v hf (x_extract (hf.eval rfl) rfl) ?_; clear hf a; intro a hf
  refine s_v hf (x_extract (hf.eval rfl) rfl) ?_; clear hf a; intro a hf
  refine s_a hf rfl ?_; clear hf a; intro a hf
  refine s_a hf rfl ?_; clear hf a; intro a hf
  refine s_nil ?_
  refine then_n ?_
  refine wp_seq ?_
  refine wp_region_lit ?_
  refine s_m hf rfl ?_; clear hf a; intro a hf
  refine s_m hf rfl ?_; clear hf a; intro a hf
  replace hs := hs.take (A := diskA 94 113 5 3 p (newS image cap)) (by first | exact .k0 | exact .k1 | exact .k2 | exact .k3 | exact .k4 | exact .k5 | exact .k6 | exact .k7 | exact .k8 | exact .k9 | exact .k10 | exact .k11)
  refine s_do hf rfl (y_call (hf.eval rfl) (hf.evals rfl) Tryd.call27 ((dFuse_spec _ _ _ p _ hs fuse).mono ?_))
  rintro e w1 ⟨rfl, hs⟩
  refine ⟨_, rfl, ?_⟩; clear hf a; intro a hf
  refine s_nil ?_
  refine then_n ?_
  refine wp_seq ?_
  refine wp_region_lit ?_
  refine s_m hf rfl ?_; clear hf a; intro a hf
  refine s_m hf rfl ?_; clear hf a; intro a hf
  replace hs := hs.take (A := refA 97 139 5 3 q (newS image cap)) (by first | exact .k0 | exact .k1 | exact .k2 | exact .k3 | exact .k4 | exact .k5 | exact .k6 | exact .k7 | exact .k8 | exact .k9 | exact .k10 | exact .k11)
  refine s_do hf rfl (y_call (hf.eval rfl) (hf.evals rfl) Tryd.call28 ((rFuse_spec _ _ _ q _ hs fuse).mono ?_))
  rintro e w1 ⟨rfl, hs⟩
  refine ⟨_, rfl, ?_⟩; clear hf a; intro a hf
  refine s_nil ?_
  refine then_n ?_
  refine wp_seq ?_
  refine wp_region_lit ?_
  refine s_m hf rfl ?_; clear hf a; intro a hf
  replace hs := hs.take (A := diskA 94 113 5 3 p (fuS (newS image cap) fuse)) (by first | exact .k0 | exact .k1 | exact .k2 | exact .k3 | exact .k4 | exact .k5 | exact .k6 | exact .k7 | exact .k8 | exact .k9 | exact .k10 | exact .k11)
  refine s_do hf rfl (y_call (hf.eval rfl) (hf.evals rfl) Tryd.call29 ((recover_spec w0 _ _ p (fuS (newS image cap) fuse) hT hs ho1 0 hb1 (by omega)).mono ?_))
  rintro e w1 ⟨rfl, hs⟩
  refine ⟨_, rfl, ?_⟩; clear hf a; intro a hf
  refine s_m hf rfl ?_; clear hf a; intro a hf
  refine s_v hf (x_extract (hf.eval rfl) rfl) ?_; clear hf a; intro a hf
  refine s_v hf (x_extract (hf.eval rfl) rfl) ?_; clear hf a; intro a hf
  refine s_do hf rfl (y_alloc hs Tryd.zeroValue45 ?_); clear hf hs a; intro b13 w hs a hf
  change St _ _ (cb b13 45 (vdF (0, 0, 0)) :: _) at hs
  refine s_do0 hf rfl (y_storeAgg (cs := vdF (recV (fuS (newS image cap) fuse)).1) hs (n := 3) (by kernel_rfl) (hf.eval rfl) (hf.eval rfl) (by simp [Value.oneCell', vdF]) rfl rfl .k0 ?_); clear hf hs a; intro w hs a hf
  refine s_a hf rfl ?_; clear hf a; intro a hf
  refine s_nil ?_
  refine then_n ?_
  refine wp_seq ?_
  refine wp_region_lit ?_
  refine s_m hf rfl ?_; clear hf a; intro a hf
  replace hs := hs.take (A := refA 97 139 5 3 q (fuS (newS image cap) fuse)) (by first | exact .k0 | exact .k1 | exact .k2 | exact .k3 | exact .k4 | exact .k5 | exact .k6 | exact .k7 | exact .k8 | exact .k9 | exact .k10 | exact .k11)
  refine s_do hf rfl (y_call (hf.eval rfl) (hf.evals rfl) Tryd.call30 ((rrecover_spec w0 _ _ q (fuS (newS image cap) fuse) hs ho1 0 hb1 (by omega)).mono ?_))
  rintro e w1 ⟨rfl, hs⟩
  refine ⟨_, rfl, ?_⟩; clear hf a; intro a hf
  refine s_m hf rfl ?_; clear hf a; intro a hf
  refine s_v hf (x_extract (hf.eval rfl) rfl) ?_; clear hf a; intro a hf
  refine s_v hf (x_extract (hf.eval rfl) rfl) ?_; clear hf a; intro a hf
  refine s_do hf rfl (y_alloc hs Tryd.zeroValue45 ?_); clear hf hs a; intro b15 w hs a hf
  change St _ _ (cb b15 45 (vdF (0, 0, 0)) :: _) at hs
  refine s_do0 hf rfl (y_storeAgg (cs := vdF (recV (fuS (newS image cap) fuse)).1) hs (n := 3) (by kernel_rfl) (hf.eval rfl) (hf.eval rfl) (by simp [Value.oneCell', vdF]) rfl rfl .k0 ?_); clear hf hs a; intro w hs a hf
  refine s_a hf rfl ?_; clear hf a; intro a hf
  refine s_nil ?_
  refine then_n ?_
  refine wp_seq ?_
  refine wp_region_lit ?_
  replace hs := hs.take (A := cb b13 45 (vdF (recV (fuS (newS image cap) fuse)).1)) (by first | exact .k0 | exact .k1 | exact .k2 | exact .k3 | exact .k4 | exact .k5 | exact .k6 | exact .k7 | exact .k8 | exact .k9 | exact .k10 | exact .k11)
  refine s_r hf (x_loadBlk hs ag45 (hf.eval rfl) rfl (by first | exact .k0 | exact .k1 | exact .k2 | exact .k3 | exact .k4 | exact .k5 | exact .k6 | exact .k7 | exact .k8 | exact .k9)) ?_; clear hf a; intro a hf
  replace hs := hs.take (A := cb b15 45 (vdF (recV (fuS (newS image cap) fuse)).1)) (by first | exact .k0 | exact .k1 | exact .k2 | exact .k3 | exact .k4 | exact .k5 | exact .k6 | exact .k7 | exact .k8 | exact .k9 | exact .k10 | exact .k11)
  refine s_r hf (x_loadBlk hs ag45 (hf.eval rfl) rfl (by first | exact .k0 | exact .k1 | exact .k2 | exact .k3 | exact .k4 | exact .k5 | exact .k6 | exact .k7 | exact .k8 | exact .k9)) ?_; clear hf a; intro a hf
  refine s_v hf (x_vdEq (s := (recV (fuS (newS image cap) fuse)).1) (t := (recV (fuS (newS image cap) fuse)).1) (hf.eval rfl) (hf.eval rfl) rfl) ?_; clear hf a; intro a hf
  refine s_m hf rfl ?_; clear hf a; intro a hf
  replace hf := hf.now (k := 48) (v' := .bool true) rfl (congrArg Value.bool (by first | rfl | simp))
  refine s_do hf (wanted_of hf rfl rfl rfl) (.value (x_move (hf.eval rfl) _) ?_); clear hf a; intro a hf
  refine s_do hf (wanted_of hf rfl rfl rfl) (y_call (hf.eval rfl) (hf.evals rfl) Tryd.call13 ((num_spec _ _).mono ?_))
  rintro e w1 ⟨rfl, hw9⟩
  rw [hw9]
  clear hw9 w1
  refine ⟨_, rfl, ?_⟩; clear hf a; intro a hf
  refine s_do hf (wanted_of hf rfl rfl rfl) (.value (x_move (hf.eval rfl) _) ?_); clear hf a; intro a hf
  refine s_do hf (wanted_of hf rfl rfl rfl) (.value (x_bin (hf.eval rfl) (hf.eval rfl) (r_eq _ _ _ _) _) ?_); clear hf a; intro a hf
  refine s_v hf (x_pick_t (hf.eval rfl) (hf.eval rfl)) ?_; clear hf a; intro a hf
  refine s_m hf rfl ?_; clear hf a; intro a hf
  replace hf := hf.now (k := 54) (v' := .bool true) rfl (congrArg Value.bool (by first | rfl | simp))
  refine s_do hf (wanted_of hf rfl rfl rfl) (.value (x_move (hf.eval rfl) _) ?_); clear hf a; intro a hf
  refine s_do hf (wanted_of hf rfl rfl rfl) (.value (x_move (hf.eval rfl) _) ?_); clear hf a; intro a hf
  refine s_do hf (wanted_of hf rfl rfl rfl) (.value (x_move (hf.eval rfl) _) ?_); clear hf a; intro a hf
  replace hs := hs.take (A := refA 97 139 5 3 q (recS (fuS (newS image cap) fuse))) (by first | exact .k0 | exact .k1 | exact .k2 | exact .k3 | exact .k4 | exact .k5 | exact .k6 | exact .k7 | exact .k8 | exact .k9 | exact .k10 | exact .k11)
  replace hs := hs.take (A := diskA 94 113 5 3 p (recS (fuS (newS image cap) fuse))) (by first | exact .k0 | exact .k1 | exact .k2 | exact .k3 | exact .k4 | exact .k5 | exact .k6 | exact .k7 | exact .k8 | exact .k9 | exact .k10 | exact .k11)
  have hrs := rec_keeps ho1 hb1
  refine s_do hf (wanted_of hf rfl rfl rfl) (y_call (hf.eval rfl) (hf.evals rfl) Tryd.call31 ((alike_spec w0 _ _ p q (recS (fuS (newS image cap) fuse)) hs hrs.1 _ hrs.2.2 (by omega) ac cc cs hrc hgc hlc).mono ?_))
  rintro e w1 ⟨rfl, hk9⟩
  have hs9 : Kept w0 w1 None_ := hk9
  replace hs : St ⟨w0, None_⟩ w1 [] := ⟨hk9, fun _ => none, by simp, trivial⟩
  refine ⟨_, rfl, ?_⟩; clear hf a; intro a hf
  refine s_v hf (x_pick_t (hf.eval rfl) (hf.eval rfl)) ?_; clear hf a; intro a hf
  refine s_a hf rfl ?_; clear hf a; intro a hf
  refine s_nil ?_
  refine then_n ?_
  refine wp_ret ?_
  refine r_1 hf Tryd.results7 rfl ?_
  exact ⟨by simp, hs.kept⟩
theorem recovers_b1 (w0 : World) (hT : Tab 0 (hp w0)) (a1 : Option Addr) (c1 : Nat) (image : List UInt8) (hr1 : RdB (hp w0) (.slice a1 image.length c1) image) (hl1 : image.length ≤ 140737488351232) (cap fuse : Int) (hfu : fuse ≤ 9223372036854775807) (ac : Option Addr) (cc : Nat) (cs : List ChQ) (hrc : RdS chF 3 (hp w0) (.slice ac cs.length cc) cs) (hgc : ∀ z ∈ cs, ChG (hp w0) z) (hlc : cs.length ≤ 1048576) (hc : cap < 0 ∨ 16777216 < cap): Calls Tryd.prog 7 #[.slice a1 image.length c1, .int .i64 cap, .int .i64 fuse, .slice ac cs.length cc] w0 fun e w' => e = .returned (.bool true) ∧ Kept w0 w' None_ := by
  have hs := St.start w0 None_
  refine c_enter (N := 60) Tryd.func7 rfl Tryd.ntmps7 (by simp) ?_
  intro a hf
  refine wp_seq ?_
  refine wp_region_lit ?_
  refine s_a hf rfl ?_; clear hf a; intro a hf
  refine s_nil ?_
  refine then_n ?_
  refine wp_seq ?_
  refine wp_region_lit ?_
  refine s_m hf rfl ?_; clear hf a; intro a hf
  refine s_m hf rfl ?_; clear hf a; intro a hf
  refine s_do hf rfl (y_call (hf.eval rfl) (hf.evals rfl) Tryd.call25 ((dNew_b1 _ _ _ image (hs.oldB hr1) hl1 cap hc).mono ?_))
  rintro e w1 ⟨rfl, hk9⟩
  replace hs := hs.ext hk9
  refine ⟨_, rfl, ?_⟩; clear hf a; intro a hf
  refine s_m hf rfl ?_; clear hf a; intro a hf
  refine s_v hf (x_extract (hf.eval rfl) rfl) ?_; clear hf a; intro a hf
  refine s_v hf (x_extract (hf.eval rfl) rfl) ?_; clear hf a; intro a hf
  refine s_a hf rfl ?_; clear hf a; intro a hf
  refine s_a hf rfl ?_; clear hf a; intro a hf
  refine s_nil ?_
  refine then_n ?_
  refine wp_seq ?_
  refine wp_region_lit ?_
  refine s_m hf rfl ?_; clear hf a; intro a hf
  refine s_m hf rfl ?_; clear hf a; intro a hf
  refine s_do hf rfl (y_call (hf.eval rfl) (hf.evals rfl) Tryd.call26 ((rNew_b1 _ _ _ image (hs.oldB hr1) hl1 cap hc).mono ?_))
  rintro e w1 ⟨rfl, hk9⟩
  replace hs := hs.ext hk9
  refine ⟨_, rfl, ?_⟩; clear hf a; intro a hf
  refine s_m hf rfl ?_; clear hf a; intro a hf
  refine s_v hf (x_extract (hf.eval rfl) rfl) ?_; clear hf a; intro a hf
  refine s_v hf (x_extract (hf.eval rfl) rfl) ?_; clear hf a; intro a hf
  refine s_a hf rfl ?_; clear hf a; intro a hf
  refine s_a hf rfl ?_; clear hf a; intro a hf
  refine s_nil ?_
  refine then_n ?_
  refine wp_seq ?_
  refine wp_region_lit ?_
  refine s_m hf rfl ?_; clear hf a; intro a hf
  refine s_m hf rfl ?_; clear hf a; intro a hf
  refine s_do hf rfl (y_call (hf.eval rfl) (hf.evals rfl) Tryd.call27 ((fuse_nil _ fuse).mono ?_))
  rintro e w1 ⟨rfl, hw9⟩
  rw [hw9]
  clear hw9 w1
  refine ⟨_, rfl, ?_⟩; clear hf a; intro a hf
  refine s_nil ?_
  refine then_n ?_
  refine wp_seq ?_
  refine wp_region_lit ?_
  refine s_m hf rfl ?_; clear hf a; intro a hf
  refine s_m hf rfl ?_; clear hf a; intro a hf
  refine s_do hf rfl (y_call (hf.eval rfl) (hf.evals rfl) Tryd.call28 ((rfuse_nil _ fuse).mono ?_))
  rintro e w1 ⟨rfl, hw9⟩
  rw [hw9]
  clear hw9 w1
  refine ⟨_, rfl, ?_⟩; clear hf a; intro a hf
  refine s_nil ?_
  refine then_n ?_
  refine wp_seq ?_
  refine wp_region_lit ?_
  refine s_m hf rfl ?_; clear hf a; intro a hf
  refine s_do hf rfl (y_call (hf.eval rfl) (hf.evals rfl) Tryd.call29 ((recover_nil _).mono ?_))
  rintro e w1 ⟨rfl, hk9⟩
  replace hs := hs.ext hk9
  refine ⟨_, rfl, ?_⟩; clear hf a; intro a hf
  refine s_m hf rfl ?_; clear hf a; intro a hf
  refine s_v hf (x_extract (hf.eval rfl) rfl) ?_; clear hf a; intro a hf
  refine s_v hf (x_extract (hf.eval rfl) rfl) ?_; clear hf a; intro a hf
  refine s_do hf rfl (y_alloc hs Tryd.zeroValue45 ?_); clear hf hs a; intro b13 w hs a hf
  change St _ _ (cb b13 45 (vdF (0, 0, 0)) :: _) at hs
  refine s_do0 hf rfl (y_storeAgg (cs := vdF (0, 0, 0)) hs (n := 3) (by kernel_rfl) (hf.eval rfl) (hf.eval rfl) (by simp [Value.oneCell', vdF]) rfl rfl .k0 ?_); clear hf hs a; intro w hs a hf
  refine s_a hf rfl ?_; clear hf a; intro a hf
  refine s_nil ?_
  refine then_n ?_
  refine wp_seq ?_
  refine wp_region_lit ?_
  refine s_m hf rfl ?_; clear hf a; intro a hf
  refine s_do hf rfl (y_call (hf.eval rfl) (hf.evals rfl) Tryd.call30 ((rrecover_nil _).mono ?_))
  rintro e w1 ⟨rfl, hk9⟩
  replace hs := hs.ext hk9
  refine ⟨_, rfl, ?_⟩; clear hf a; intro a hf
  refine s_m hf rfl ?_; clear hf a; intro a hf
  refine s_v hf (x_extract (hf.eval rfl) rfl) ?_; clear hf a; intro a hf
  refine s_v hf (x_extract (hf.eval rfl) rfl) ?_; clear hf a; intro a hf
  refine s_do hf rfl (y_alloc hs Tryd.zeroValue45 ?_); clear hf hs a; intro b15 w hs a hf
  change St _ _ (cb b15 45 (vdF (0, 0, 0)) :: _) at hs
  refine s_do0 hf rfl (y_storeAgg (cs := vdF (0, 0, 0)) hs (n := 3) (by kernel_rfl) (hf.eval rfl) (hf.eval rfl) (by simp [Value.oneCell', vdF]) rfl rfl .k0 ?_); clear hf hs a; intro w hs a hf
  refine s_a hf rfl ?_; clear hf a; intro a hf
  refine s_nil ?_
  refine then_n ?_
  refine wp_seq ?_
  refine wp_region_lit ?_
  refine s_r hf (x_loadBlk hs ag45 (hf.eval rfl) rfl (by first | exact .k0 | exact .k1 | exact .k2 | exact .k3 | exact .k4 | exact .k5 | exact .k6 | exact .k7 | exact .k8 | exact .k9)) ?_; clear hf a; intro a hf
  refine s_r hf (x_loadBlk hs ag45 (hf.eval rfl) rfl (by first | exact .k0 | exact .k1 | exact .k2 | exact .k3 | exact .k4 | exact .k5 | exact .k6 | exact .k7 | exact .k8 | exact .k9)) ?_; clear hf a; intro a hf
  refine s_v hf (x_vdEq (s := (0, 0, 0)) (t := (0, 0, 0)) (hf.eval rfl) (hf.eval rfl) rfl) ?_; clear hf a; intro a hf
  refine s_m hf rfl ?_; clear hf a; intro a hf
  replace hf := hf.now (k := 48) (v' := .bool true) rfl (congrArg Value.bool (by first | rfl | simp))
  refine s_do hf (wanted_of hf rfl rfl rfl) (.value (x_move (hf.eval rfl) _) ?_); clear hf a; intro a hf
  refine s_do hf (wanted_of hf rfl rfl rfl) (y_call (hf.eval rfl) (hf.evals rfl) Tryd.call13 ((num_spec _ _).mono ?_))
  rintro e w1 ⟨rfl, hw9⟩
  rw [hw9]
  clear hw9 w1
  refine ⟨_, rfl, ?_⟩; clear hf a; intro a hf
  refine s_do hf (wanted_of hf rfl rfl rfl) (.value (x_move (hf.eval rfl) _) ?_); clear hf a; intro a hf
  refine s_do hf (wanted_of hf rfl rfl rfl) (.value (x_bin (hf.eval rfl) (hf.eval rfl) (r_eq _ _ _ _) _) ?_); clear hf a; intro a hf
  refine s_v hf (x_pick_t (hf.eval rfl) (hf.eval rfl)) ?_; clear hf a; intro a hf
  refine s_m hf rfl ?_; clear hf a; intro a hf
  replace hf := hf.now (k := 54) (v' := .bool true) rfl (congrArg Value.bool (by first | rfl | simp))
  refine s_do hf (wanted_of hf rfl rfl rfl) (.value (x_move (hf.eval rfl) _) ?_); clear hf a; intro a hf
  refine s_do hf (wanted_of hf rfl rfl rfl) (.value (x_move (hf.eval rfl) _) ?_); clear hf a; intro a hf
  refine s_do hf (wanted_of hf rfl rfl rfl) (.value (x_move (hf.eval rfl) _) ?_); clear hf a; intro a hf
  refine s_do hf (wanted_of hf rfl rfl rfl) (y_call (hf.eval rfl) (hf.evals rfl) Tryd.call31 ((alike_nil _ ac cc cs (hs.old hrc) (fun z hz => ⟨hs.old (hgc z hz).rd, (hgc z hz).len⟩) hlc).mono ?_))
  rintro e w1 ⟨rfl, hk9⟩
  replace hs := hs.ext hk9
  refine ⟨_, rfl, ?_⟩; clear hf a; intro a hf
  refine s_v hf (x_pick_t (hf.eval rfl) (hf.eval rfl)) ?_; clear hf a; intro a hf
  refine s_a hf rfl ?_; clear hf a; intro a hf
  refine s_nil ?_
  refine then_n ?_
  refine wp_ret ?_
  refine r_1 hf Tryd.results7 rfl ?_
  exact ⟨by simp, hs.kept⟩
theorem recovers_b2 (w0 : World) (hT : Tab 0 (hp w0)) (a1 : Option Addr) (c1 : Nat) (image : List UInt8) (hr1 : RdB (hp w0) (.slice a1 image.length c1) image) (hl1 : image.length ≤ 140737488351232) (cap fuse : Int) (hfu : fuse ≤ 9223372036854775807) (ac : Option Addr) (cc : Nat) (cs : List ChQ) (hrc : RdS chF 3 (hp w0) (.slice ac cs.length cc) cs) (hgc : ∀ z ∈ cs, ChG (hp w0) z) (hlc : cs.length ≤ 1048576) (hc1 : 0 ≤ cap) (hc2 : cap ≤ 16777216) (hc3 : cap < image.length): Calls Tryd.prog 7 #[.slice a1 image.length c1, .int .i64 cap, .int .i64 fuse, .slice ac cs.length cc] w0 fun e w' => e = .returned (.bool true) ∧ Kept w0 w' None_ := by
  have hs := St.start w0 None_
  refine c_enter (N := 60) Tryd.func7 rfl Tryd.ntmps7 (by simp) ?_
  intro a hf
  refine wp_seq ?_
  refine wp_region_lit ?_
  refine s_a hf rfl ?_; clear hf a; intro a hf
  refine s_nil ?_
  refine then_n ?_
  refine wp_seq ?_
  refine wp_region_lit ?_
  refine s_m hf rfl ?_; clear hf a; intro a hf
  refine s_m hf rfl ?_; clear hf a; intro a hf
  refine s_do hf rfl (y_call (hf.eval rfl) (hf.evals rfl) Tryd.call25 ((dNew_b2 _ _ _ image (hs.oldB hr1) hl1 cap hc1 hc2 hc3).mono ?_))
  rintro e w1 ⟨rfl, hk9⟩
  replace hs := hs.ext hk9
  refine ⟨_, rfl, ?_⟩; clear hf a; intro a hf
  refine s_m hf rfl ?_; clear hf a; intro a hf
  refine s_v hf (x_extract (hf.eval rfl) rfl) ?_; clear hf a; intro a hf
  refine s_v hf (x_extract (hf.eval rfl) rfl) ?_; clear hf a; intro a hf
  refine s_a hf rfl ?_; clear hf a; intro a hf
  refine s_a hf rfl ?_; clear hf a; intro a hf
  refine s_nil ?_
  refine then_n ?_
  refine wp_seq ?_
  refine wp_region_lit ?_
  refine s_m hf rfl ?_; clear hf a; intro a hf
  refine s_m hf rfl ?_; clear hf a; intro a hf
  refine s_do hf rfl (y_call (hf.eval rfl) (hf.evals rfl) Tryd.call26 ((rNew_b2 _ _ _ image (hs.oldB hr1) hl1 cap hc1 hc2 hc3).mono ?_))
  rintro e w1 ⟨rfl, hk9⟩
  replace hs := hs.ext hk9
  refine ⟨_, rfl, ?_⟩; clear hf a; intro a hf
  refine s_m hf rfl ?_; clear hf a; intro a hf
  refine s_v hf (x_extract (hf.eval rfl) rfl) ?_; clear hf a; intro a hf
  refine s_v hf (x_extract (hf.eval rfl) rfl) ?_; clear hf a; intro a hf
  refine s_a hf rfl ?_; clear hf a; intro a hf
  refine s_a hf rfl ?_; clear hf a; intro a hf
  refine s_nil ?_
  refine then_n ?_
  refine wp_seq ?_
  refine wp_region_lit ?_
  refine s_m hf rfl ?_; clear hf a; intro a hf
  refine s_m hf rfl ?_; clear hf a; intro a hf
  refine s_do hf rfl (y_call (hf.eval rfl) (hf.evals rfl) Tryd.call27 ((fuse_nil _ fuse).mono ?_))
  rintro e w1 ⟨rfl, hw9⟩
  rw [hw9]
  clear hw9 w1
  refine ⟨_, rfl, ?_⟩; clear hf a; intro a hf
  refine s_nil ?_
  refine then_n ?_
  refine wp_seq ?_
  refine wp_region_lit ?_
  refine s_m hf rfl ?_; clear hf a; intro a hf
  refine s_m hf rfl ?_; clear hf a; intro a hf
  refine s_do hf rfl (y_call (hf.eval rfl) (hf.evals rfl) Tryd.call28 ((rfuse_nil _ fuse).mono ?_))
  rintro e w1 ⟨rfl, hw9⟩
  rw [hw9]
  clear hw9 w1
  refine ⟨_, rfl, ?_⟩; clear hf a; intro a hf
  refine s_nil ?_
  refine then_n ?_
  refine wp_seq ?_
  refine wp_region_lit ?_
  refine s_m hf rfl ?_; clear hf a; intro a hf
  refine s_do hf rfl (y_call (hf.eval rfl) (hf.evals rfl) Tryd.call29 ((recover_nil _).mono ?_))
  rintro e w1 ⟨rfl, hk9⟩
  replace hs := hs.ext hk9
  refine ⟨_, rfl, ?_⟩; clear hf a; intro a hf
  refine s_m hf rfl ?_; clear hf a; intro a hf
  refine s_v hf (x_extract (hf.eval rfl) rfl) ?_; clear hf a; intro a hf
  refine s_v hf (x_extract (hf.eval rfl) rfl) ?_; clear hf a; intro a hf
  refine s_do hf rfl (y_alloc hs Tryd.zeroValue45 ?_); clear hf hs a; intro b13 w hs a hf
  change St _ _ (cb b13 45 (vdF (0, 0, 0)) :: _) at hs
  refine s_do0 hf rfl (y_storeAgg (cs := vdF (0, 0, 0)) hs (n := 3) (by kernel_rfl) (hf.eval rfl) (hf.eval rfl) (by simp [Value.oneCell', vdF]) rfl rfl .k0 ?_); clear hf hs a; intro w hs a hf
  refine s_a hf rfl ?_; clear hf a; intro a hf
  refine s_nil ?_
  refine then_n ?_
  refine wp_seq ?_
  refine wp_region_lit ?_
  refine s_m hf rfl ?_; clear hf a; intro a hf
  refine s_do hf rfl (y_call (hf.eval rfl) (hf.evals rfl) Tryd.call30 ((rrecover_nil _).mono ?_))
  rintro e w1 ⟨rfl, hk9⟩
  replace hs := hs.ext hk9
  refine ⟨_, rfl, ?_⟩; clear hf a; intro a hf
  refine s_m hf rfl ?_; clear hf a; intro a hf
  refine s_v hf (x_extract (hf.eval rfl) rfl) ?_; clear hf a; intro a hf
  refine s_v hf (x_extract (hf.eval rfl) rfl) ?_; clear hf a; intro a hf
  refine s_do hf rfl (y_alloc hs Tryd.zeroValue45 ?_); clear hf hs a; intro b15 w hs a hf
  change St _ _ (cb b15 45 (vdF (0, 0, 0)) :: _) at hs
  refine s_do0 hf rfl (y_storeAgg (cs := vdF (0, 0, 0)) hs (n := 3) (by kernel_rfl) (hf.eval rfl) (hf.eval rfl) (by simp [Value.oneCell', vdF]) rfl rfl .k0 ?_); clear hf hs a; intro w hs a hf
  refine s_a hf rfl ?_; clear hf a; intro a hf
  refine s_nil ?_
  refine then_n ?_
  refine wp_seq ?_
  refine wp_region_lit ?_
  refine s_r hf (x_loadBlk hs ag45 (hf.eval rfl) rfl (by first | exact .k0 | exact .k1 | exact .k2 | exact .k3 | exact .k4 | exact .k5 | exact .k6 | exact .k7 | exact .k8 | exact .k9)) ?_; clear hf a; intro a hf
  refine s_r hf (x_loadBlk hs ag45 (hf.eval rfl) rfl (by first | exact .k0 | exact .k1 | exact .k2 | exact .k3 | exact .k4 | exact .k5 | exact .k6 | exact .k7 | exact .k8 | exact .k9)) ?_; clear hf a; intro a hf
  refine s_v hf (x_vdEq (s := (0, 0, 0)) (t := (0, 0, 0)) (hf.eval rfl) (hf.eval rfl) rfl) ?_; clear hf a; intro a hf
  refine s_m hf rfl ?_; clear hf a; intro a hf
  replace hf := hf.now (k := 48) (v' := .bool true) rfl (congrArg Value.bool (by first | rfl | simp))
  refine s_do hf (wanted_of hf rfl rfl rfl) (.value (x_move (hf.eval rfl) _) ?_); clear hf a; intro a hf
  refine s_do hf (wanted_of hf rfl rfl rfl) (y_call (hf.eval rfl) (hf.evals rfl) Tryd.call13 ((num_spec _ _).mono ?_))
  rintro e w1 ⟨rfl, hw9⟩
  rw [hw9]
  clear hw9 w1
  refine ⟨_, rfl, ?_⟩; clear hf a; intro a hf
  refine s_do hf (wanted_of hf rfl rfl rfl) (.value (x_move (hf.eval rfl) _) ?_); clear hf a; intro a hf
  refine s_do hf (wanted_of hf rfl rfl rfl) (.value (x_bin (hf.eval rfl) (hf.eval rfl) (r_eq _ _ _ _) _) ?_); clear hf a; intro a hf
  refine s_v hf (x_pick_t (hf.eval rfl) (hf.eval rfl)) ?_; clear hf a; intro a hf
  refine s_m hf rfl ?_; clear hf a; intro a hf
  replace hf := hf.now (k := 54) (v' := .bool true) rfl (congrArg Value.bool (by first | rfl | simp))
  refine s_do hf (wanted_of hf rfl rfl rfl) (.value (x_move (hf.eval rfl) _) ?_); clear hf a; intro a hf
  refine s_do hf (wanted_of hf rfl rfl rfl) (.value (x_move (hf.eval rfl) _) ?_); clear hf a; intro a hf
  refine s_do hf (wanted_of hf rfl rfl rfl) (.value (x_move (hf.eval rfl) _) ?_); clear hf a; intro a hf
  refine s_do hf (wanted_of hf rfl rfl rfl) (y_call (hf.eval rfl) (hf.evals rfl) Tryd.call31 ((alike_nil _ ac cc cs (hs.old hrc) (fun z hz => ⟨hs.old (hgc z hz).rd, (hgc z hz).len⟩) hlc).mono ?_))
  rintro e w1 ⟨rfl, hk9⟩
  replace hs := hs.ext hk9
  refine ⟨_, rfl, ?_⟩; clear hf a; intro a hf
  refine s_v hf (x_pick_t (hf.eval rfl) (hf.eval rfl)) ?_; clear hf a; intro a hf
  refine s_a hf rfl ?_; clear hf a; intro a hf
  refine s_nil ?_
  refine then_n ?_
  refine wp_ret ?_
  refine r_1 hf Tryd.results7 rfl ?_
  exact ⟨by simp, hs.kept⟩
theorem recovers_spec (w0 : World) (hT : Tab 0 (hp w0)) (a1 : Option Addr) (c1 : Nat) (image : List UInt8) (hr1 : RdB (hp w0) (.slice a1 image.length c1) image) (hl1 : image.length ≤ 140737488351232) (cap fuse : Int) (hfu : fuse ≤ 9223372036854775807) (ac : Option Addr) (cc : Nat) (cs : List ChQ) (hrc : RdS chF 3 (hp w0) (.slice ac cs.length cc) cs) (hgc : ∀ z ∈ cs, ChG (hp w0) z) (hlc : cs.length ≤ 1048576) : Calls Tryd.prog 7 #[.slice a1 image.length c1, .int .i64 cap, .int .i64 fuse, .slice ac cs.length cc] w0 fun e w' => e = .returned (.bool true) ∧ Kept w0 w' None_ := by
  by_cases h1 : cap < 0 ∨ 16777216 < cap
  · exact recovers_b1 w0 hT a1 c1 image hr1 hl1 cap fuse hfu ac cc cs hrc hgc hlc h1
  · by_cases h2 : cap < image.length
    · exact recovers_b2 w0 hT a1 c1 image hr1 hl1 cap fuse hfu ac cc cs hrc hgc hlc (by omega) (by omega) h2
    · exact recovers_ok w0 hT a1 c1 image hr1 hl1 cap fuse hfu ac cc cs hrc hgc hlc (by omega) (by omega) (by omega)
end Go.Proofs.YtehakfbfjpolfaaDoor
