/- Texts 14 of 17 that the law rests on: the small library, contracts of functions, printed by a program. -/
import Derived.Test.YtehakfbfjpolfaaGreatDoorProg
import Derived.Test.YtehakfbfjpolfaaGreatDoorUp1
import Derived.Test.YtehakfbfjpolfaaGreatDoorUp2
import Derived.Test.YtehakfbfjpolfaaGreatDoorUp3
import Derived.Test.YtehakfbfjpolfaaGreatDoorUp4
import Derived.Test.YtehakfbfjpolfaaGreatDoorUp5
import Derived.Test.YtehakfbfjpolfaaGreatDoorUp6
import Derived.Test.YtehakfbfjpolfaaGreatDoorUp7
import Derived.Test.YtehakfbfjpolfaaGreatDoorUp8
import Derived.Test.YtehakfbfjpolfaaGreatDoorUp9
import Derived.Test.YtehakfbfjpolfaaGreatDoorUp10
import Derived.Test.YtehakfbfjpolfaaGreatDoorUp11
import Derived.Test.YtehakfbfjpolfaaGreatDoorUp12
import Derived.Test.YtehakfbfjpolfaaGreatDoorUp13
set_option maxRecDepth 100000
set_option linter.all false
namespace Go.Proofs.YtehakfbfjpolfaaGreatDoor
open Go Vw
theorem rclone14_spec (w0 : World) (a1 : Option Addr) (c1 : Nat) (l : List UInt8) (hr1 : RdB (hp w0) (.slice a1 l.length c1) l) (hl1 : l.length ≤ 16777216) : Calls Tryz.prog 95 #[.slice a1 l.length c1] w0 fun e w' => ∃ a c, e = .returned (.slice a l.length c) ∧ St ⟨w0, None_⟩ w' [slB 5 (.slice a l.length c) l] := by
 have hs := (St.start w0 None_).emp (slB_nil 5)
 refine c_enter (N := 8) Tryz.func95 rfl Tryz.ntmps95 (by simp) ?_
 intro a hf
 refine wp_seq (wp_region_lit ?_)
 refine s_a hf rfl ?_; clear hf a; intro a hf
 refine s_nil (then_n (wp_seq (wp_region_lit ?_)))
 refine s_a hf rfl ?_; clear hf a; intro a hf
 refine s_nil (then_n (wp_seq (wp_region_lit ?_)))
 refine s_m hf rfl ?_; clear hf a; intro a hf
 refine s_m hf rfl ?_; clear hf a; intro a hf
 refine s_do hf rfl (y_appendB (s := l) hs sl22 rfl (hf.eval rfl) (hf.eval rfl) .k0 (hs.oldB hr1) (by simp; omega) ?_); clear hf hs a; intro v2 w hs hv a hf
 simp only [List.nil_append] at hs
 obtain ⟨a2, c2, rfl, hc2⟩ := slB_shape hs
 refine s_a hf rfl ?_; clear hf a; intro a hf
 refine s_nil (then_n (wp_seq (wp_region_lit ?_)))
 refine s_m hf rfl ?_; clear hf a; intro a hf
 refine s_a hf rfl ?_; clear hf a; intro a hf
 refine s_nil (then_n ?_)
 refine wp_ret ?_
 refine r_1 hf Tryz.results95 rfl ?_
 exact ⟨_, _, rfl, hs⟩
theorem tk_rd {h : Heaplet} {a : Option Addr} {c k : Nat} {l : List UInt8} (hr : RdB h (.slice a l.length c) l) (hk : k ≤ l.length) : RdB h (.slice a (l.take k).length c) (l.take k) := by
  have h1 := pre_rd hr hk
  rwa [show (l.take k).length = k by rw [List.length_take]; omega]
theorem sub_rd {h : Heaplet} {a : Option Addr} {c i k : Nat} {l : List UInt8} (hr : RdB h (.slice a l.length c) l) (hk : i + k ≤ l.length) : RdB h (.slice (subA a c i 1) ((l.drop i).take k).length (c - i)) ((l.drop i).take k) := by
  have h1 := RdB.sub (i := i) (j := i + k) hr rfl (by omega) hk
  rw [show i + k - i = k by omega] at h1
  rwa [show ((l.drop i).take k).length = k by rw [List.length_take, List.length_drop]; omega]
theorem slice_eq {a a2 : Option Addr} {n n2 c c2 : Nat} (h1 : a = a2) (h2 : n = n2) (h3 : c = c2) : Value.slice a n c = Value.slice a2 n2 c2 := by rw [h1, h2, h3]
theorem int_succ (k j : Nat) : Value.int .i64 (((k + j : Nat) : Int) + 1) = .int .i64 ((k + (j + 1) : Nat) : Int) := rfl
theorem putPs0 (x : List UInt8) (s : Sl) (b : List UInt8) : putPs x (bkL s b 0) = x := rfl
theorem totB0 (o : Int) (b : List UInt8) : totB o b 0 = 0 := rfl
theorem tkl {l : List UInt8} {k : Nat} (hk : k ≤ l.length) : (l.take k).length = k := by rw [List.length_take]; omega
theorem data_at {body : List UInt8} {i n j : Nat} (h : i + n ≤ body.length) (hj : j < n) : j < ((body.drop i).take n).length ∧ ∃ h2 : i + j < body.length, ∀ h3, ((body.drop i).take n)[j]'h3 = body[i + j] := by
  refine ⟨by rw [List.length_take, List.length_drop]; omega, by omega, fun h3 => ?_⟩
  rw [List.getElem_take, List.getElem_drop]
theorem spL_at {body : List UInt8} {N i : Nat} (h : i < N) : ∃ h2 : i < (spL body N).length, (spL body N)[i] = ((spA body i : Int), ((spA body i + spN body i : Nat) : Int)) := by
  refine ⟨by unfold spL; simpa using h, ?_⟩
  unfold spL
  rw [List.getElem_map, List.getElem_range]
attribute [local irreducible] Vw.sl Vw.sdS Vw.bodyS Vw.zt Vw.spA Vw.spN Vw.totB Vw.bkL Vw.putPs Vw.putP Vw.upZ Vw.seOk Vw.bkOk Vw.spL
set_option maxHeartbeats 1600000
theorem rlook_spec (w0 : World) (a1 : Option Addr) (c1 : Nat) (l : List UInt8) (hr1 : RdB (hp w0) (.slice a1 l.length c1) l) (hl1 : l.length ≤ 16777216) : Calls Tryz.prog 62 #[.slice a1 l.length c1] w0 fun e w' => ∃ a c, e = .returned (.tuple #[.agg (vdF (lkV l).1).toArray, .slice a (lkV l).2.length c]) ∧ St ⟨w0, None_⟩ w' [slB 5 (.slice a (lkV l).2.length c) (lkV l).2] := by
 have hs := St.start w0 None_
 have hcp := RdB.cap hr1
 have hzl := zt_le l
 refine c_enter (N := 138) Tryz.func62 rfl Tryz.ntmps62 (by simp) ?_
 intro a hf
 refine wp_seq (wp_region_lit ?_)
 refine s_do hf rfl (y_alloc hs Tryz.zeroValue37 ?_); clear hf hs a; intro b2 w hs a hf
 change St _ _ (cb b2 37 (vdF (0, 0, 0)) :: _) at hs
 refine s_a hf rfl ?_; clear hf a; intro a hf
 refine s_nil (then_n (wp_seq (wp_region_lit ?_)))
 refine s_m hf rfl ?_; clear hf a; intro a hf
 refine s_v hf (x_len Tryz.underlying22 (hf.eval rfl)) ?_; clear hf a; intro a hf
 refine s_a hf rfl ?_; clear hf a; intro a hf
 refine s_nil (then_n (wp_seq (wp_region_lit ?_)))
 refine s_m hf rfl ?_; clear hf a; intro a hf
 refine s_do hf rfl (y_call (hf.eval rfl) (hf.evals rfl) Tryz.call94 ((rtail_spec _ _ _ l (hs.oldB hr1) (by omega)).mono ?_))
 rintro e w1 ⟨rfl, hk⟩
 replace hs := hs.ext hk
 refine ⟨_, rfl, ?_⟩; clear hf a; intro a hf
 refine s_a hf rfl ?_; clear hf a; intro a hf
 refine s_nil (then_n (wp_seq (wp_seq (wp_region_lit ?_))))
 refine s_m hf rfl ?_; clear hf a; intro a hf
 refine s_v hf (x_bin (hf.eval rfl) (hf.eval rfl) (r_ge _ _ _ _)) ?_; clear hf a; intro a hf
 refine s_nil (then_n ?_)
 refine c_cond hf rfl (fun hi0 => ?_) (fun hi0 => ?_)
 ·first | simp only [zd1, zd2, zd3, zd4] at hi0 | skip
  have hsz : zt l / 1024 * 1024 ≤ l.length := by omega
  refine wp_seq (wp_region_lit ?_)
  refine s_m hf rfl ?_; clear hf a; intro a hf
  refine s_m hf rfl ?_; clear hf a; intro a hf
  refine s_v hf (x_bin (hf.eval rfl) (hf.eval rfl) (r_quon _ (Int.natCast_nonneg _) (by decide) (by omega))) ?_; clear hf a; intro a hf
  replace hf := hf.now (k := 25) (v' := .int .i64 ((zt l / 1024 : Nat) : Int)) rfl (by congr 1)
  refine s_v hf (x_bin (hf.eval rfl) (hf.eval rfl) (r_muli _ (by omega) (by omega))) ?_; clear hf a; intro a hf
  refine s_v hf (x_bin (hf.eval rfl) (hf.eval rfl) (r_subi _ (by omega) (by omega))) ?_; clear hf a; intro a hf
  replace hf := hf.now (k := 27) (v' := .int .i64 (((l.length - zt l / 1024 * 1024) : Nat) : Int)) rfl (by congr 1 <;> omega)
  refine s_a hf rfl ?_; clear hf a; intro a hf
  refine s_nil (then_n (wp_seq (wp_region_lit ?_)))
  refine s_m hf rfl ?_; clear hf a; intro a hf
  refine s_r hf (x_build (v := .agg (vdF (1, 0, (((l.length - zt l / 1024 * 1024) : Nat) : Int))).toArray) (hf.parts rfl) (fun w => by kernel_rfl) _) ?_; clear hf a; intro a hf
  refine s_m hf rfl ?_; clear hf a; intro a hf
  refine s_m hf rfl ?_; clear hf a; intro a hf
  refine s_v hf (x_slice_hi sl22 (hf.eval rfl) (hf.eval rfl)  (by omega) (by omega)) ?_; clear hf a; intro a hf
  replace hf := hf.now (k := 32) (v' := .slice a1 (l.take (l.length - zt l / 1024 * 1024)).length c1) rfl (by rw [tkl (by omega)] <;> exact slice_eq rfl (by omega) rfl)
  refine s_do hf rfl (y_call (hf.eval rfl) (hf.evals rfl) Tryz.call95 ((rclone14_spec _ a1 c1 (l.take (l.length - zt l / 1024 * 1024)) (hs.oldB (tk_rd hr1 (by omega))) (by rw [tkl (by omega)]; omega)).mono ?_))
  rintro e w1 ⟨g0, cg0, rfl, hj⟩
  replace hs := hs.join hj
  simp only [List.cons_append, List.nil_append] at hs
  refine ⟨_, rfl, ?_⟩; clear hf a; intro a hf
  replace hs := hs.take (A := cb b2 37 (vdF (0, 0, 0))) (by repeat constructor)
  refine s_do0 hf rfl (y_storeAgg (cs := vdF (1, 0, (((l.length - zt l / 1024 * 1024) : Nat) : Int))) hs (n := 3) (by kernel_rfl) (hf.eval rfl) (hf.eval rfl) (by simp [Value.oneCell', vdF]) rfl rfl .k0 ?_); clear hf hs a; intro w hs a hf
  refine s_a hf rfl ?_; clear hf a; intro a hf
  refine s_nil (then_n ?_)
  refine wp_ret ?_
  refine then_r ?_
  refine r_2c hf Tryz.results62 rfl rfl hs ag37 rfl (by repeat constructor) ?_
  have hv : lkV l = ((1, 0, (((l.length - zt l / 1024 * 1024) : Nat) : Int)), l.take (l.length - zt l / 1024 * 1024)) := by unfold lkV; rw [if_pos (by omega)]
  rw [hv]
  replace hs := hs.take (A := slB 5 (.slice g0 (l.take (l.length - zt l / 1024 * 1024)).length cg0) (l.take (l.length - zt l / 1024 * 1024))) (by repeat constructor)
  exact ⟨_, _, rfl, St.keep [_] _ hs⟩
 first | simp only [zd1, zd2, zd3, zd4] at hi0 | skip
 refine wp_skip (then_n (wp_seq (wp_region_lit ?_)))
 refine s_m hf rfl ?_; clear hf a; intro a hf
 refine s_r hf (x_build (v := .agg (vdF (0, 0, (l.length : Int))).toArray) (hf.parts rfl) (fun w => by kernel_rfl) _) ?_; clear hf a; intro a hf
 refine s_do hf rfl (y_alloc hs Tryz.zeroValue37 ?_); clear hf hs a; intro b7 w hs a hf
 change St _ _ (cb b7 37 (vdF (0, 0, 0)) :: _) at hs
 refine s_do0 hf rfl (y_storeAgg (cs := vdF (0, 0, (l.length : Int))) hs (n := 3) (by kernel_rfl) (hf.eval rfl) (hf.eval rfl) (by simp [Value.oneCell', vdF]) rfl rfl .k0 ?_); clear hf hs a; intro w hs a hf
 refine s_nil (then_n (wp_seq (wp_region_lit ?_)))
 refine s_m hf rfl ?_; clear hf a; intro a hf
 refine s_do hf rfl (y_call (hf.eval rfl) (hf.evals rfl) Tryz.call63 ((rsealed_spec _ _ _ l (hs.oldB hr1) hl1).mono ?_))
 rintro e w1 ⟨sv, rfl, hsv, hk⟩
 replace hs := hs.ext hk
 refine ⟨_, rfl, ?_⟩; clear hf a; intro a hf
 refine s_m hf rfl ?_; clear hf a; intro a hf
 refine s_v hf (x_extract (hf.eval rfl) rfl) ?_; clear hf a; intro a hf
 refine s_v hf (x_extract (hf.eval rfl) rfl) ?_; clear hf a; intro a hf
 refine s_do hf rfl (y_alloc hs Tryz.zeroValue99 ?_); clear hf hs a; intro b8 w hs a hf
 change St _ _ (cb b8 99 (slF zSl) :: _) at hs
 refine s_do0 hf rfl (y_storeAgg (cs := slF sv) hs (n := 7) (by kernel_rfl) (hf.eval rfl) (hf.eval rfl) (by simp [Value.oneCell', slF]) rfl rfl .k0 ?_); clear hf hs a; intro w hs a hf
 refine s_a hf rfl ?_; clear hf a; intro a hf
 refine s_nil (then_n (wp_seq (wp_seq (wp_region_lit ?_))))
 refine s_m hf rfl ?_; clear hf a; intro a hf
 refine s_v hf (x_not (hf.eval rfl)) ?_; clear hf a; intro a hf
 refine s_nil (then_n ?_)
 refine c_cond hf rfl (fun hi1 => ?_) (fun hi1 => ?_)
 ·first | simp only [zd1, zd2, zd3, zd4] at hi1 | skip
  refine wp_seq ?_
  replace hs := hs.take (A := cb b7 37 (vdF (0, 0, (l.length : Int)))) (by repeat constructor)
  refine c_draw hs (fun w' => ∀ (j : Nat) (v : Value), (vdF (0, 0, (l.length : Int)))[j]? = some v → w'.cell? ((⟨b7, 0, none⟩ : Addr).add j) = some v) [.held, .held, .eff, .eff, .held] (by kernel_rfl) (by kernel_rfl) (fun _ _ hs => cells_of hs (by repeat constructor)) ?_
  clear hs; intro w hs hC hw
  refine m_held hf rfl (fun w' hc => x_loadAgg ag37 (hf.eval rfl) (vs := vdF (0, 0, (l.length : Int))) rfl hc) ?_; clear hf a; intro a hf
  refine m_held hf rfl (fun w' _ => x_move (hf.eval rfl) w') ?_; clear hf a; intro a hf
  refine m_eff hf rfl (y_call (hf.eval rfl) (hf.evals rfl) Tryz.call95 ((rclone14_spec _ a1 c1 l (hs.oldB hr1) hl1).mono ?_))
  rintro e w1 ⟨g9, cg9, rfl, hj⟩
  replace hs := hs.join hj
  simp only [List.cons_append, List.nil_append] at hs
  refine ⟨_, rfl, ⟨cells_of hs (by repeat constructor), ?_⟩⟩; clear hf a; intro a hf
  replace hs := hs.take (A := cb b2 37 (vdF (0, 0, 0))) (by repeat constructor)
  refine m_eff0 hf rfl (y_storeAgg (cs := vdF (0, 0, (l.length : Int))) hs (n := 3) (by kernel_rfl) (hf.eval rfl) (hf.eval rfl) (by simp [Value.oneCell', vdF]) rfl rfl .k0 ?_); clear hf hs a; intro w hs; refine ⟨cells_of hs (by repeat constructor), ?_⟩; intro a hf
  refine m_held hf rfl (fun w' _ => x_assign (hf.eval rfl) w') ?_; clear hf a; intro a hf
  refine m_nil ?_
  refine then_n ?_
  refine wp_ret ?_
  refine then_r ?_
  refine r_2c hf Tryz.results62 rfl rfl hs ag37 rfl (by repeat constructor) ?_
  have hv : lkV l = ((0, 0, (l.length : Int)), l) := by unfold lkV; rw [if_neg (by omega), if_pos hi1]
  rw [hv]
  replace hs := hs.take (A := slB 5 (.slice g9 (l).length cg9) (l)) (by repeat constructor)
  exact ⟨_, _, rfl, St.keep [_] _ hs⟩
 first | simp only [zd1, zd2, zd3, zd4] at hi1 | skip
 obtain rfl := hsv hi1
 have hg := seGood hi1
 obtain ⟨g1, g2, g3, g4, g5⟩ := hg.flds
 have gs := hg.st
 have gu := hg.sum
 have gb := hg.body
 refine wp_skip (then_n (wp_seq (wp_seq (wp_region_lit ?_))))
 refine s_v hf (x_fieldAddr fo99_0 (hf.eval rfl)) ?_; clear hf a; intro a hf
 refine s_r hf (x_load sc3 (hf.eval rfl) (by apply hs.cell <;> repeat constructor)) ?_; clear hf a; intro a hf
 refine s_nil (then_n (wp_block (wp_seq (wp_region_lit ?_))))
 refine s_v hf (x_bin (hf.eval rfl) (hf.eval rfl) (r_eq _ _ _ _)) ?_; clear hf a; intro a hf
 refine s_a hf rfl ?_; clear hf a; intro a hf
 refine s_nil (then_n ?_)
 refine c_cond hf rfl (fun hi2 => ?_) (fun hi2 => ?_)
 ·first | simp only [zd1, zd2, zd3, zd4] at hi2 | skip
  refine wp_seq ?_
  replace hs := hs.take (A := cb b8 99 (slF (sdS l))) (by repeat constructor)
  refine c_draw hs (fun w' => ∀ (j : Nat) (v : Value), (slF (sdS l))[j]? = some v → w'.cell? ((⟨b8, 0, none⟩ : Addr).add j) = some v) [.held, .held, .held, .held, .held, .held, .held, .held, .held, .eff, .eff, .held] (by kernel_rfl) (by kernel_rfl) (fun _ _ hs => cells_of hs (by repeat constructor)) ?_
  clear hs; intro w hs hC hw
  refine m_held hf rfl (fun w' _ => x_fieldAddr fo99_1 (hf.eval rfl) w') ?_; clear hf a; intro a hf
  refine m_held hf rfl (fun w' hc => x_load sc3 (hf.eval rfl) (hc 1 _ rfl)) ?_; clear hf a; intro a hf
  refine m_held hf rfl (fun w' _ => x_fieldAddr fo99_2 (hf.eval rfl) w') ?_; clear hf a; intro a hf
  refine m_held hf rfl (fun w' hc => x_load sc3 (hf.eval rfl) (hc 2 _ rfl)) ?_; clear hf a; intro a hf
  refine m_held hf rfl (fun w' hc => x_build (v := .agg (vdF (2, (sdS l).2.1, (sdS l).2.2.1)).toArray) (hf.parts rfl) (fun w => by kernel_rfl) _) ?_; clear hf a; intro a hf
  refine m_held hf rfl (fun w' _ => x_move (hf.eval rfl) w') ?_; clear hf a; intro a hf
  refine m_held hf rfl (fun w' _ => x_fieldAddr fo99_2 (hf.eval rfl) w') ?_; clear hf a; intro a hf
  refine m_held hf rfl (fun w' hc => x_load sc3 (hf.eval rfl) (hc 2 _ rfl)) ?_; clear hf a; intro a hf
  refine m_held hf rfl (fun w' _ => x_slice_hi sl22 (hf.eval rfl) (hf.eval rfl)  (by omega) (by omega) w') ?_; clear hf a; intro a hf
  replace hf := hf.now (k := 58) (v' := .slice a1 (l.take (sdS l).2.2.1.toNat).length c1) rfl (by rw [tkl (by omega)] <;> exact slice_eq rfl (by omega) rfl)
  refine m_eff hf rfl (y_call (hf.eval rfl) (hf.evals rfl) Tryz.call95 ((rclone14_spec _ a1 c1 (l.take (sdS l).2.2.1.toNat) (hs.oldB (tk_rd hr1 (by omega))) (by rw [tkl (by omega)]; omega)).mono ?_))
  rintro e w1 ⟨g2, cg2, rfl, hj⟩
  replace hs := hs.join hj
  simp only [List.cons_append, List.nil_append] at hs
  refine ⟨_, rfl, ⟨cells_of hs (by repeat constructor), ?_⟩⟩; clear hf a; intro a hf
  replace hs := hs.take (A := cb b2 37 (vdF (0, 0, 0))) (by repeat constructor)
  refine m_eff0 hf rfl (y_storeAgg (cs := vdF (2, (sdS l).2.1, (sdS l).2.2.1)) hs (n := 3) (by kernel_rfl) (hf.eval rfl) (hf.eval rfl) (by simp [Value.oneCell', vdF]) rfl rfl .k0 ?_); clear hf hs a; intro w hs; refine ⟨cells_of hs (by repeat constructor), ?_⟩; intro a hf
  refine m_held hf rfl (fun w' _ => x_assign (hf.eval rfl) w') ?_; clear hf a; intro a hf
  refine m_nil ?_
  refine then_n ?_
  refine wp_ret ?_
  refine blk_r (then_r ?_)
  refine r_2c hf Tryz.results62 rfl rfl hs ag37 rfl (by repeat constructor) ?_
  have hv : lkV l = ((2, (sdS l).2.1, (sdS l).2.2.1), l.take (sdS l).2.2.1.toNat) := by unfold lkV; rw [if_neg (show ¬ 1024 ≤ zt l by omega), if_neg (by rw [hi1]; simp), if_pos hi2]
  rw [hv]
  replace hs := hs.take (A := slB 5 (.slice g2 (l.take (sdS l).2.2.1.toNat).length cg2) (l.take (sdS l).2.2.1.toNat)) (by repeat constructor)
  exact ⟨_, _, rfl, St.keep [_] _ hs⟩
 first | simp only [zd1, zd2, zd3, zd4] at hi2 | skip
 refine wp_seq (wp_region_lit ?_)
 refine s_v hf (x_bin (hf.eval rfl) (hf.eval rfl) (r_eq _ _ _ _)) ?_; clear hf a; intro a hf
 refine s_a hf rfl ?_; clear hf a; intro a hf
 refine s_nil (then_n ?_)
 refine c_cond hf rfl (fun hi3 => ?_) (fun hi3 => ?_)
 ·first | simp only [zd1, zd2, zd3, zd4] at hi3 | skip
  refine wp_seq ?_
  replace hs := hs.take (A := cb b8 99 (slF (sdS l))) (by repeat constructor)
  refine c_draw hs (fun w' => ∀ (j : Nat) (v : Value), (slF (sdS l))[j]? = some v → w'.cell? ((⟨b8, 0, none⟩ : Addr).add j) = some v) [.held, .held, .held, .held, .held, .held, .held, .held, .held, .eff, .eff, .held] (by kernel_rfl) (by kernel_rfl) (fun _ _ hs => cells_of hs (by repeat constructor)) ?_
  clear hs; intro w hs hC hw
  refine m_held hf rfl (fun w' _ => x_fieldAddr fo99_1 (hf.eval rfl) w') ?_; clear hf a; intro a hf
  refine m_held hf rfl (fun w' hc => x_load sc3 (hf.eval rfl) (hc 1 _ rfl)) ?_; clear hf a; intro a hf
  refine m_held hf rfl (fun w' _ => x_fieldAddr fo99_3 (hf.eval rfl) w') ?_; clear hf a; intro a hf
  refine m_held hf rfl (fun w' hc => x_load sc3 (hf.eval rfl) (hc 3 _ rfl)) ?_; clear hf a; intro a hf
  refine m_held hf rfl (fun w' hc => x_build (v := .agg (vdF (4, (sdS l).2.1, (sdS l).2.2.2.1)).toArray) (hf.parts rfl) (fun w => by kernel_rfl) _) ?_; clear hf a; intro a hf
  refine m_held hf rfl (fun w' _ => x_move (hf.eval rfl) w') ?_; clear hf a; intro a hf
  refine m_held hf rfl (fun w' _ => x_fieldAddr fo99_3 (hf.eval rfl) w') ?_; clear hf a; intro a hf
  refine m_held hf rfl (fun w' hc => x_load sc3 (hf.eval rfl) (hc 3 _ rfl)) ?_; clear hf a; intro a hf
  refine m_held hf rfl (fun w' _ => x_slice_hi sl22 (hf.eval rfl) (hf.eval rfl)  (by omega) (by omega) w') ?_; clear hf a; intro a hf
  replace hf := hf.now (k := 70) (v' := .slice a1 (l.take (sdS l).2.2.2.1.toNat).length c1) rfl (by rw [tkl (by omega)] <;> exact slice_eq rfl (by omega) rfl)
  refine m_eff hf rfl (y_call (hf.eval rfl) (hf.evals rfl) Tryz.call95 ((rclone14_spec _ a1 c1 (l.take (sdS l).2.2.2.1.toNat) (hs.oldB (tk_rd hr1 (by omega))) (by rw [tkl (by omega)]; omega)).mono ?_))
  rintro e w1 ⟨g4, cg4, rfl, hj⟩
  replace hs := hs.join hj
  simp only [List.cons_append, List.nil_append] at hs
  refine ⟨_, rfl, ⟨cells_of hs (by repeat constructor), ?_⟩⟩; clear hf a; intro a hf
  replace hs := hs.take (A := cb b2 37 (vdF (0, 0, 0))) (by repeat constructor)
  refine m_eff0 hf rfl (y_storeAgg (cs := vdF (4, (sdS l).2.1, (sdS l).2.2.2.1)) hs (n := 3) (by kernel_rfl) (hf.eval rfl) (hf.eval rfl) (by simp [Value.oneCell', vdF]) rfl rfl .k0 ?_); clear hf hs a; intro w hs; refine ⟨cells_of hs (by repeat constructor), ?_⟩; intro a hf
  refine m_held hf rfl (fun w' _ => x_assign (hf.eval rfl) w') ?_; clear hf a; intro a hf
  refine m_nil ?_
  refine then_n ?_
  refine wp_ret ?_
  refine blk_r (then_r ?_)
  refine r_2c hf Tryz.results62 rfl rfl hs ag37 rfl (by repeat constructor) ?_
  have hv : lkV l = ((4, (sdS l).2.1, (sdS l).2.2.2.1), l.take (sdS l).2.2.2.1.toNat) := by unfold lkV; rw [if_neg (show ¬ 1024 ≤ zt l by omega), if_neg (by rw [hi1]; simp), if_neg hi2, if_pos hi3]
  rw [hv]
  replace hs := hs.take (A := slB 5 (.slice g4 (l.take (sdS l).2.2.2.1.toNat).length cg4) (l.take (sdS l).2.2.2.1.toNat)) (by repeat constructor)
  exact ⟨_, _, rfl, St.keep [_] _ hs⟩
 first | simp only [zd1, zd2, zd3, zd4] at hi3 | skip
 refine wp_skip (blk_n (then_n (wp_seq (wp_region_lit ?_))))
 refine s_v hf (x_fieldAddr fo99_2 (hf.eval rfl)) ?_; clear hf a; intro a hf
 refine s_r hf (x_load sc3 (hf.eval rfl) (by apply hs.cell <;> repeat constructor)) ?_; clear hf a; intro a hf
 refine s_v hf (x_fieldAddr fo99_3 (hf.eval rfl)) ?_; clear hf a; intro a hf
 refine s_r hf (x_load sc3 (hf.eval rfl) (by apply hs.cell <;> repeat constructor)) ?_; clear hf a; intro a hf
 refine s_do hf rfl (y_call (hf.eval rfl) (hf.evals rfl) Tryz.call56 ((body_spec _ (sdS l).2.2.1 (sdS l).2.2.2.1 (by omega) (by omega) (by omega) (by omega)).mono ?_))
 rintro e w1 ⟨rfl, hk⟩
 replace hs := hs.ext hk
 refine ⟨_, rfl, ?_⟩; clear hf a; intro a hf
 refine s_a hf rfl ?_; clear hf a; intro a hf
 refine s_nil (then_n (wp_seq (wp_region_lit ?_)))
 refine s_m hf rfl ?_; clear hf a; intro a hf
 refine s_m hf rfl ?_; clear hf a; intro a hf
 refine s_m hf rfl ?_; clear hf a; intro a hf
 refine s_v hf (x_fieldAddr fo99_5 (hf.eval rfl)) ?_; clear hf a; intro a hf
 refine s_r hf (x_load sc3 (hf.eval rfl) (by apply hs.cell <;> repeat constructor)) ?_; clear hf a; intro a hf
 refine s_v hf (x_bin (hf.eval rfl) (hf.eval rfl) (r_addi _ (by omega) (by omega))) ?_; clear hf a; intro a hf
 refine s_v hf (x_slice sl22 (hf.eval rfl) (hf.eval rfl) (hf.eval rfl)  (by omega) (by omega) (by omega)) ?_; clear hf a; intro a hf
 have hbl : (bodyS l).length = (sdS l).2.2.2.2.2.1.toNat := by unfold bodyS; rw [List.length_take, List.length_drop]; omega
 have hbr : RdB (hp w0) (.slice (subA a1 c1 (upZ (max (sdS l).2.2.1 (sdS l).2.2.2.1)).toNat 1) (bodyS l).length (c1 - (upZ (max (sdS l).2.2.1 (sdS l).2.2.2.1)).toNat)) (bodyS l) := by unfold bodyS; exact sub_rd hr1 (by omega)
 replace hf := hf.now (k := 83) (v' := .slice (subA a1 c1 (upZ (max (sdS l).2.2.1 (sdS l).2.2.2.1)).toNat 1) (bodyS l).length (c1 - (upZ (max (sdS l).2.2.1 (sdS l).2.2.2.1)).toNat)) rfl (by rw [hbl]; exact slice_eq rfl (by omega) rfl)
 refine s_a hf rfl ?_; clear hf a; intro a hf
 refine s_nil (then_n (wp_seq (wp_region_lit ?_)))
 replace hs := hs.take (A := cb b8 99 (slF (sdS l))) (by repeat constructor)
 refine s_r hf (x_loadBlk hs ag99 (hf.eval rfl) rfl (by repeat constructor)) ?_; clear hf a; intro a hf
 refine s_m hf rfl ?_; clear hf a; intro a hf
 refine s_do hf rfl (y_call (hf.eval rfl) (hf.evals rfl) Tryz.call64 ((back_spec _ (sdS l) gu (by omega) (by omega) _ _ (bodyS l) (hs.oldB hbr) (by omega)).mono ?_))
 rintro e w1 ⟨vs, ns, rfl, hns, hj⟩
 replace hs := hs.join hj
 simp only [List.cons_append, List.nil_append] at hs
 refine ⟨_, rfl, ?_⟩; clear hf a; intro a hf
 refine s_m hf rfl ?_; clear hf a; intro a hf
 refine s_v hf (x_extract (hf.eval rfl) rfl) ?_; clear hf a; intro a hf
 refine s_v hf (x_extract (hf.eval rfl) rfl) ?_; clear hf a; intro a hf
 refine s_a hf rfl ?_; clear hf a; intro a hf
 refine s_a hf rfl ?_; clear hf a; intro a hf
 refine s_nil (then_n (wp_seq (wp_seq (wp_region_lit ?_))))
 refine s_m hf rfl ?_; clear hf a; intro a hf
 refine s_v hf (x_not (hf.eval rfl)) ?_; clear hf a; intro a hf
 refine s_nil (then_n ?_)
 refine c_cond hf rfl (fun hi4 => ?_) (fun hi4 => ?_)
 ·first | simp only [zd1, zd2, zd3, zd4] at hi4 | skip
  refine wp_seq ?_
  replace hs := hs.take (A := cb b7 37 (vdF (0, 0, (l.length : Int)))) (by repeat constructor)
  refine c_draw hs (fun w' => ∀ (j : Nat) (v : Value), (vdF (0, 0, (l.length : Int)))[j]? = some v → w'.cell? ((⟨b7, 0, none⟩ : Addr).add j) = some v) [.held, .held, .eff, .eff, .held] (by kernel_rfl) (by kernel_rfl) (fun _ _ hs => cells_of hs (by repeat constructor)) ?_
  clear hs; intro w hs hC hw
  refine m_held hf rfl (fun w' hc => x_loadAgg ag37 (hf.eval rfl) (vs := vdF (0, 0, (l.length : Int))) rfl hc) ?_; clear hf a; intro a hf
  refine m_held hf rfl (fun w' _ => x_move (hf.eval rfl) w') ?_; clear hf a; intro a hf
  refine m_eff hf rfl (y_call (hf.eval rfl) (hf.evals rfl) Tryz.call95 ((rclone14_spec _ a1 c1 l (hs.oldB hr1) hl1).mono ?_))
  rintro e w1 ⟨g9, cg9, rfl, hj⟩
  replace hs := hs.join hj
  simp only [List.cons_append, List.nil_append] at hs
  refine ⟨_, rfl, ⟨cells_of hs (by repeat constructor), ?_⟩⟩; clear hf a; intro a hf
  replace hs := hs.take (A := cb b2 37 (vdF (0, 0, 0))) (by repeat constructor)
  refine m_eff0 hf rfl (y_storeAgg (cs := vdF (0, 0, (l.length : Int))) hs (n := 3) (by kernel_rfl) (hf.eval rfl) (hf.eval rfl) (by simp [Value.oneCell', vdF]) rfl rfl .k0 ?_); clear hf hs a; intro w hs; refine ⟨cells_of hs (by repeat constructor), ?_⟩; intro a hf
  refine m_held hf rfl (fun w' _ => x_assign (hf.eval rfl) w') ?_; clear hf a; intro a hf
  refine m_nil ?_
  refine then_n ?_
  refine wp_ret ?_
  refine then_r ?_
  refine r_2c hf Tryz.results62 rfl rfl hs ag37 rfl (by repeat constructor) ?_
  have hv : lkV l = ((0, 0, (l.length : Int)), l) := by unfold lkV; rw [if_neg (show ¬ 1024 ≤ zt l by omega), if_neg (by rw [hi1]; simp), if_neg hi2, if_neg hi3, if_pos hi4]
  rw [hv]
  replace hs := hs.take (A := slB 5 (.slice g9 (l).length cg9) (l)) (by repeat constructor)
  exact ⟨_, _, rfl, St.keep [_] _ hs⟩
 first | simp only [zd1, zd2, zd3, zd4] at hi4 | skip
 refine wp_skip (then_n (wp_seq (wp_region_lit ?_)))
 refine s_m hf rfl ?_; clear hf a; intro a hf
 refine s_v hf (x_fieldAddr fo99_2 (hf.eval rfl)) ?_; clear hf a; intro a hf
 refine s_r hf (x_load sc3 (hf.eval rfl) (by apply hs.cell <;> repeat constructor)) ?_; clear hf a; intro a hf
 refine s_v hf (x_slice_hi sl22 (hf.eval rfl) (hf.eval rfl)  (by omega) (by omega)) ?_; clear hf a; intro a hf
 replace hf := hf.now (k := 98) (v' := .slice a1 (l.take (sdS l).2.2.1.toNat).length c1) rfl (by rw [tkl (by omega)] <;> exact slice_eq rfl (by omega) rfl)
 refine s_do hf rfl (y_call (hf.eval rfl) (hf.evals rfl) Tryz.call95 ((rclone14_spec _ a1 c1 (l.take (sdS l).2.2.1.toNat) (hs.oldB (tk_rd hr1 (by omega))) (by rw [tkl (by omega)]; omega)).mono ?_))
 rintro e w1 ⟨g7, cg7, rfl, hj⟩
 replace hs := hs.join hj
 simp only [List.cons_append, List.nil_append] at hs
 refine ⟨_, rfl, ?_⟩; clear hf a; intro a hf
 refine s_a hf rfl ?_; clear hf a; intro a hf
 refine s_nil (then_n (wp_seq (wp_region_lit ?_)))
 refine s_v hf (x_fieldAddr fo99_4 (hf.eval rfl)) ?_; clear hf a; intro a hf
 refine s_r hf (x_load sc3 (hf.eval rfl) (by apply hs.cell <;> repeat constructor)) ?_; clear hf a; intro a hf
 obtain ⟨N, hN⟩ : ∃ N : Nat, (sdS l).2.2.2.2.1 = (N : Int) := ⟨(sdS l).2.2.2.2.1.toNat, by omega⟩
 have hbc := bk_cnt hi4
 have hNt : (sdS l).2.2.2.2.1.toNat = N := by omega
 have hns2 : ns = N := by rw [hns hi4, hNt]
 subst hns2
 replace hs := hs.take (A := sl 119 2 vs (spL (bodyS l) ns).length ((spL (bodyS l) ns).flatMap spF)) (by repeat constructor)
 obtain ⟨vs_, vc_, rfl⟩ := sl_shape hs
 refine s_v hf (x_bin (hf.eval rfl) (hf.eval rfl) (r_muli _ (by omega) (by omega))) ?_; clear hf a; intro a hf
 replace hf := hf.now (k := 102) (v' := .int .i64 ((8 * ns : Nat) : Int)) rfl (by rw [hN]; congr 1 <;> omega)
 refine s_a hf rfl ?_; clear hf a; intro a hf
 refine s_nil (then_n (wp_seq (wp_seq (wp_region_lit ?_))))
 refine s_a hf rfl ?_; clear hf a; intro a hf
 refine s_nil (then_n (wp_block ?_))
 unfold slB at hs
 rw [tkl (show (sdS l).2.2.1.toNat ≤ l.length by omega)] at hs hf
 replace hs := hs.take (A := cb b2 37 (vdF (0, 0, 0))) (by repeat constructor)
 replace hs := hs.take (A := cb b8 99 (slF (sdS l))) (by repeat constructor)
 replace hs := hs.take (A := sl 119 2 (.slice vs_ (spL (bodyS l) ns).length vc_) (spL (bodyS l) ns).length ((spL (bodyS l) ns).flatMap spF)) (by repeat constructor)
 replace hs := hs.take (A := sl 5 1 (.slice g7 (sdS l).2.2.1.toNat cg7) (sdS l).2.2.1.toNat ((l.take (sdS l).2.2.1.toNat).map u8v)) (by repeat constructor)
 replace hs := St.keep [_, _, _, _] _ hs
 replace hf := hf.now (k := 14) (v' := .int .i64 ((8 * ns + totB (sdS l).2.2.1 (bodyS l) 0 : Nat) : Int)) rfl (by rw [totB0]; rfl)
 refine c_loop (L0 := [(2, _), (3, _), (8, _), (11, _), (12, _), (13, _)]) (fun M w m => ∃ i : Nat, M = [(14, .int .i64 ((8 * ns + (totB (sdS l).2.2.1 (bodyS l) i) : Nat) : Int)), (15, .int .i64 (i : Int))] ∧ ns - i = m ∧ i ≤ ns ∧ St ⟨w0, None_⟩ w [sl 5 1 (.slice g7 (sdS l).2.2.1.toNat cg7) (sdS l).2.2.1.toNat ((putPs (l.take (sdS l).2.2.1.toNat) (bkL (sdS l) (bodyS l) i)).map u8v), sl 119 2 (.slice vs_ (spL (bodyS l) ns).length vc_) (spL (bodyS l) ns).length ((spL (bodyS l) ns).flatMap spF), cb b8 99 (slF (sdS l)), cb b2 37 (vdF (0, 0, 0))]) (M0 := _) (⟨0, rfl, rfl, Nat.zero_le _, by rw [putPs0]; exact hs⟩) (hf.sub ⟨rfl, rfl, rfl, rfl, rfl, rfl, rfl, rfl, trivial⟩) ?_
 clear hf hs a
 rintro M m a w ⟨i, rfl, rfl, hi, hs⟩ hf
 have hsl : (spL (bodyS l) ns).length = ns := by unfold spL; simp
 refine wp_seq (wp_seq (wp_region_lit ?_))
 refine s_m hf rfl ?_; clear hf a; intro a hf
 refine s_m hf rfl ?_; clear hf a; intro a hf
 refine s_v hf (x_len Tryz.underlying68 (hf.eval rfl)) ?_; clear hf a; intro a hf
 refine s_v hf (x_bin (hf.eval rfl) (hf.eval rfl) (r_lt _ _ _ _)) ?_; clear hf a; intro a hf
 refine s_nil (then_n ?_)
 refine c_cond hf rfl (fun hi5 => ?_) (fun hi5 => ?_)
 ·simp only [zd1, zd2, zd3, zd4, zd5, zd6, zd7] at hi5
  have hlt : i < ns := by omega
  obtain ⟨hb1, hb2, hb3, hb4⟩ := bk_span hi4 hN hlt
  obtain ⟨hq1, hq2⟩ := spL_at (body := bodyS l) hlt
  replace hs := hs.take (A := sl 119 2 (.slice vs_ (spL (bodyS l) ns).length vc_) (spL (bodyS l) ns).length ((spL (bodyS l) ns).flatMap spF)) (by repeat constructor)
  obtain ⟨vs_, rfl⟩ := sl_some hs (by omega)
  replace hs := hs.take (A := sl 5 1 (.slice g7 (sdS l).2.2.1.toNat cg7) (sdS l).2.2.1.toNat ((putPs (l.take (sdS l).2.2.1.toNat) (bkL (sdS l) (bodyS l) i)).map u8v)) (by repeat constructor)
  have hpl : (putPs (l.take (sdS l).2.2.1.toNat) (bkL (sdS l) (bodyS l) i)).length = (sdS l).2.2.1.toNat := by rw [putPs_len, tkl (by omega)]
  obtain ⟨g7, rfl⟩ := sl_some hs (by omega)
  obtain ⟨ba, hba⟩ : ∃ x, subA a1 c1 (upZ (max (sdS l).2.2.1 (sdS l).2.2.2.1)).toNat 1 = some x := by
    rcases hbr.2 with ⟨c9, e9, hn9⟩ | ⟨x9, c9, e9, _⟩
    · omega
    · injection e9 with e9; exact ⟨x9, e9⟩
  have hbr2 : RdB (hp w0) (.slice (some ba) (bodyS l).length (c1 - (upZ (max (sdS l).2.2.1 (sdS l).2.2.2.1)).toNat)) (bodyS l) := by rw [← hba]; exact hbr
  refine wp_skip (then_n (wp_seq (wp_block (wp_seq (wp_region_lit ?_)))))
  refine s_m hf rfl ?_; clear hf a; intro a hf
  refine s_m hf rfl ?_; clear hf a; intro a hf
  refine s_v hf (x_indexAddr sl68 (hf.eval rfl) (hf.eval rfl) (by omega) (by omega)) ?_; clear hf a; intro a hf
  refine s_v hf (x_fieldAddrG fo119_0 (hf.eval rfl)) ?_; clear hf a; intro a hf
  refine s_r hf (x_loadF (k := 0) (i := (i : Int)) (f := spF) (l := spL (bodyS l) ns) (u := .int .i64 (((spA (bodyS l) i) : Nat) : Int)) sc3 (by intro _; rfl) (hs.rd (A := sl 119 2 (.slice (some vs_) (spL (bodyS l) ns).length vc_) (spL (bodyS l) ns).length ((spL (bodyS l) ns).flatMap spF)) (by repeat constructor) fun h hh => sl_rd hh) (hf.eval rfl) (by rw [Int.toNat_natCast]; exact hq1) (by show (spF (spL (bodyS l) ns)[i])[0]? = _; rw [hq2]; rfl)) ?_; clear hf a; intro a hf
  refine s_a hf rfl ?_; clear hf a; intro a hf
  refine s_nil (then_n (wp_block ?_))
  refine c_loop (L0 := [(2, _), (3, _), (8, _), (11, _), (12, _), (13, _), (15, _), (103, _), (104, _), (105, _), (106, _), (109, _), (110, _), (111, _), (112, _), (113, _)]) (fun M w m => ∃ j : Nat, M = [(14, .int .i64 ((8 * ns + (totB (sdS l).2.2.1 (bodyS l) i) + j : Nat) : Int)), (16, .int .i64 (((spA (bodyS l) i) + j : Nat) : Int))] ∧ (spN (bodyS l) i) - j = m ∧ j ≤ (spN (bodyS l) i) ∧ St ⟨w0, None_⟩ w [sl 5 1 (.slice (some g7) (sdS l).2.2.1.toNat cg7) (sdS l).2.2.1.toNat ((putP (putPs (l.take (sdS l).2.2.1.toNat) (bkL (sdS l) (bodyS l) i)) ((spA (bodyS l) i), (((bodyS l).drop (8 * ns + totB (sdS l).2.2.1 (bodyS l) i)).take (spN (bodyS l) i)).take j)).map u8v), sl 119 2 (.slice (some vs_) (spL (bodyS l) ns).length vc_) (spL (bodyS l) ns).length ((spL (bodyS l) ns).flatMap spF), cb b8 99 (slF (sdS l)), cb b2 37 (vdF (0, 0, 0))]) (M0 := _) (⟨0, rfl, rfl, Nat.zero_le _, by rw [putP_zero]; exact hs⟩) (hf.sub ⟨rfl, rfl, rfl, rfl, rfl, rfl, rfl, rfl, rfl, rfl, rfl, rfl, rfl, rfl, rfl, rfl, rfl, rfl, trivial⟩) ?_
  clear hf hs a
  rintro M m a w ⟨j, rfl, rfl, hj, hs⟩ hf
  refine wp_seq (wp_seq (wp_region_lit ?_))
  refine s_m hf rfl ?_; clear hf a; intro a hf
  refine s_m hf rfl ?_; clear hf a; intro a hf
  refine s_m hf rfl ?_; clear hf a; intro a hf
  refine s_v hf (x_indexAddr sl68 (hf.eval rfl) (hf.eval rfl) (by omega) (by omega)) ?_; clear hf a; intro a hf
  refine s_v hf (x_fieldAddrG fo119_1 (hf.eval rfl)) ?_; clear hf a; intro a hf
  refine s_r hf (x_loadF (k := 1) (i := (i : Int)) (f := spF) (l := spL (bodyS l) ns) (u := .int .i64 (((spA (bodyS l) i) + (spN (bodyS l) i) : Nat) : Int)) sc3 (by intro _; rfl) (hs.rd (A := sl 119 2 (.slice (some vs_) (spL (bodyS l) ns).length vc_) (spL (bodyS l) ns).length ((spL (bodyS l) ns).flatMap spF)) (by repeat constructor) fun h hh => sl_rd hh) (hf.eval rfl) (by rw [Int.toNat_natCast]; exact hq1) (by show (spF (spL (bodyS l) ns)[i])[1]? = _; rw [hq2]; rfl)) ?_; clear hf a; intro a hf
  refine s_v hf (x_bin (hf.eval rfl) (hf.eval rfl) (r_lt _ _ _ _)) ?_; clear hf a; intro a hf
  refine s_nil (then_n ?_)
  refine c_cond hf rfl (fun hi6 => ?_) (fun hi6 => ?_)
  ·first | simp only [zd1, zd2, zd3, zd4] at hi6 | skip
   have hjl : j < (spN (bodyS l) i) := by omega
   obtain ⟨hd1, hd2, hd3⟩ := data_at (body := bodyS l) (i := 8 * ns + (totB (sdS l).2.2.1 (bodyS l) i)) (n := (spN (bodyS l) i)) (j := j) (by omega) hjl
   refine wp_skip (then_n (wp_seq (wp_block (wp_seq (wp_region_lit ?_)))))
   refine s_m hf rfl ?_; clear hf a; intro a hf
   refine s_m hf rfl ?_; clear hf a; intro a hf
   refine s_m hf rfl ?_; clear hf a; intro a hf
   replace hf := hf.now (k := 125) (v' := .slice (some ba) (bodyS l).length (c1 - (upZ (max (sdS l).2.2.1 (sdS l).2.2.2.1)).toNat)) rfl (by rw [hba])
   refine s_m hf rfl ?_; clear hf a; intro a hf
   refine s_v hf (x_indexAddr sl22 (hf.eval rfl) (hf.eval rfl) (by omega) (by omega)) ?_; clear hf a; intro a hf
   refine s_r hf (x_loadB (i := ((8 * ns + (totB (sdS l).2.2.1 (bodyS l) i) + j : Nat) : Int)) sc5 (hs.oldB hbr2) (hf.eval rfl) (by rw [Int.toNat_natCast]; exact hd2)) ?_; clear hf a; intro a hf
   replace hf := hf.now (k := 128) (v' := u8v ((((bodyS l).drop (8 * ns + totB (sdS l).2.2.1 (bodyS l) i)).take (spN (bodyS l) i))[j]'hd1)) rfl (congrArg u8v (hd3 hd1).symm)
   refine s_v hf (x_indexAddr sl22 (hf.eval rfl) (hf.eval rfl) (by omega) (by omega)) ?_; clear hf a; intro a hf
   refine s_do0 hf rfl (y_storeSl (i := (spA (bodyS l) i) + j) hs sc5 (hf.eval rfl) (hf.eval rfl) rfl .k0 (by omega) ?_); clear hf hs a; intro w hs a hf
   rw [← List.map_set, putP_step (by rw [hpl]; omega) hd1] at hs
   refine s_nil (then_n (wp_region_lit ?_))
   refine s_m hf rfl ?_; clear hf a; intro a hf
   refine s_v hf (x_bin (hf.eval rfl) (hf.eval rfl) (r_addi _ (by omega) (by omega))) ?_; clear hf a; intro a hf
   replace hf := hf.now (k := 131) (v' := .int .i64 ((8 * ns + (totB (sdS l).2.2.1 (bodyS l) i) + (j + 1) : Nat) : Int)) rfl (int_succ _ _)
   refine s_a hf rfl ?_; clear hf a; intro a hf
   refine s_nil (blk_n (then_n (wp_region_lit ?_)))
   refine s_m hf rfl ?_; clear hf a; intro a hf
   refine s_v hf (x_bin (hf.eval rfl) (hf.eval rfl) (r_addi _ (by omega) (by omega))) ?_; clear hf a; intro a hf
   replace hf := hf.now (k := 122) (v' := .int .i64 (((spA (bodyS l) i) + (j + 1) : Nat) : Int)) rfl (int_succ _ _)
   refine s_a hf rfl ?_; clear hf a; intro a hf
   refine s_nil ?_
   exact ⟨_, _, ⟨j + 1, rfl, rfl, by omega, hs⟩, by omega, hf.sub ⟨rfl, rfl, rfl, rfl, rfl, rfl, rfl, rfl, rfl, rfl, rfl, rfl, rfl, rfl, rfl, rfl, rfl, rfl, trivial⟩⟩
  first | simp only [zd1, zd2, zd3, zd4] at hi6 | skip
  obtain rfl : j = (spN (bodyS l) i) := by omega
  rw [show (((bodyS l).drop (8 * ns + totB (sdS l).2.2.1 (bodyS l) i)).take (spN (bodyS l) i)).take (spN (bodyS l) i) = (((bodyS l).drop (8 * ns + totB (sdS l).2.2.1 (bodyS l) i)).take (spN (bodyS l) i)) from List.take_of_length_le (by rw [List.length_take]; omega)] at hs
  have hsn : putPs (l.take (sdS l).2.2.1.toNat) (bkL (sdS l) (bodyS l) (i + 1)) = putP (putPs (l.take (sdS l).2.2.1.toNat) (bkL (sdS l) (bodyS l) i)) ((spA (bodyS l) i), (((bodyS l).drop (8 * ns + totB (sdS l).2.2.1 (bodyS l) i)).take (spN (bodyS l) i))) := by rw [bkL_succ, putPs_snoc, hNt]
  rw [← hsn] at hs
  replace hf := hf.now (k := 14) (v' := .int .i64 ((8 * ns + totB (sdS l).2.2.1 (bodyS l) (i + 1) : Nat) : Int)) rfl (by rw [hb4, Nat.add_assoc])
  refine wp_exit (then_x (then_x (blk_x (blk_n (then_n (wp_region_lit ?_))))))
  refine s_m hf rfl ?_; clear hf a; intro a hf
  refine s_v hf (x_bin (hf.eval rfl) (hf.eval rfl) (r_addi _ (by omega) (by omega))) ?_; clear hf a; intro a hf
  refine s_a hf rfl ?_; clear hf a; intro a hf
  refine s_nil ?_
  exact ⟨_, _, ⟨i + 1, rfl, rfl, by omega, hs⟩, by omega, hf.sub ⟨rfl, rfl, rfl, rfl, rfl, rfl, rfl, rfl, trivial⟩⟩
 simp only [zd1, zd2, zd3, zd4, zd5, zd6, zd7] at hi5
 obtain rfl : i = ns := by omega
 refine wp_exit (then_x (then_x (blk_x (then_n (wp_seq (wp_region_lit ?_))))))
 refine s_v hf (x_fieldAddr fo99_1 (hf.eval rfl)) ?_; clear hf a; intro a hf
 refine s_r hf (x_load sc3 (hf.eval rfl) (by apply hs.cell <;> repeat constructor)) ?_; clear hf a; intro a hf
 refine s_v hf (x_fieldAddr fo99_2 (hf.eval rfl)) ?_; clear hf a; intro a hf
 refine s_r hf (x_load sc3 (hf.eval rfl) (by apply hs.cell <;> repeat constructor)) ?_; clear hf a; intro a hf
 refine s_r hf (x_build (v := .agg (vdF (3, (sdS l).2.1, (sdS l).2.2.1)).toArray) (hf.parts rfl) (fun w => by kernel_rfl) _) ?_; clear hf a; intro a hf
 refine s_m hf rfl ?_; clear hf a; intro a hf
 replace hs := hs.take (A := cb b2 37 (vdF (0, 0, 0))) (by repeat constructor)
 refine s_do0 hf rfl (y_storeAgg (cs := vdF (3, (sdS l).2.1, (sdS l).2.2.1)) hs (n := 3) (by kernel_rfl) (hf.eval rfl) (hf.eval rfl) (by simp [Value.oneCell', vdF]) rfl rfl .k0 ?_); clear hf hs a; intro w hs a hf
 refine s_a hf rfl ?_; clear hf a; intro a hf
 refine s_nil (then_n ?_)
 refine wp_ret ?_
 refine r_2c hf Tryz.results62 rfl rfl hs ag37 rfl (by repeat constructor) ?_
 have hv : lkV l = ((3, (sdS l).2.1, (sdS l).2.2.1), lkB l) := by unfold lkV; rw [if_neg (show ¬ 1024 ≤ zt l by omega), if_neg (by rw [hi1]; simp), if_neg hi2, if_neg hi3, if_neg (by rw [hi4]; simp)]
 rw [hv]
 have hlk : (lkB l).length = (sdS l).2.2.1.toNat := by unfold lkB; rw [putPs_len, tkl (by omega)]
 have hlc : putPs (l.take (sdS l).2.2.1.toNat) (bkL (sdS l) (bodyS l) i) = lkB l := by unfold lkB; rw [hNt]
 rw [hlc] at hs
 replace hs := hs.take (A := sl 5 1 (.slice g7 (sdS l).2.2.1.toNat cg7) (sdS l).2.2.1.toNat ((lkB l).map u8v)) (by repeat constructor)
 refine ⟨g7, cg7, by rw [hlk], ?_⟩
 unfold slB
 rw [hlk]
 exact St.keep [_] _ hs
end Go.Proofs.YtehakfbfjpolfaaGreatDoor

namespace Go.Proofs.YtehakfbfjpolfaaGreatDoor
open Go Vw
theorem putPsN (x : List UInt8) : putPs x [] = x := rfl
theorem slW0 (h : Heaplet) : sl 54 2 (.slice none 0 0) ([] : List Pt).length (([] : List Pt).flatMap pcF) h := ⟨rfl, .inl ⟨rfl, rfl⟩⟩
theorem lkP_len {l : List UInt8} (h : lkOk l = true) (hl : l.length ≤ 16777216) : (lkP l).length ≤ 16777216 := by
  unfold lkOk at h
  simp only [Bool.and_eq_true] at h
  have h2 := h.2
  have hf := (seGood h.1).flds.2.2.2.1
  have hb : (bodyS l).length ≤ l.length := by unfold bodyS; rw [List.length_take, List.length_drop]; omega
  unfold lkP
  revert h2 hf hb
  generalize sdS l = s
  generalize bodyS l = b
  intro hf h2 hb
  by_cases c3 : s.1 = 3
  · rw [if_pos c3]
    have hk : bkOk s b = true := by first | (rw [c3] at h2; simpa using h2) | (rw [c3] at hf; simpa using hf)
    have h9 := bk_cnt hk
    unfold bkL
    rw [List.length_map, List.length_range]
    omega
  · rw [if_neg c3]; simp
def fdF (v : Int × Int × Int) (cv bv : Value) : List Value := [.int .i64 v.1, .int .i64 v.2.1, .int .i64 v.2.2, cv, bv]
attribute [local irreducible] Vw.sl Vw.sdS Vw.bodyS Vw.zt Vw.spA Vw.spN Vw.totB Vw.bkL Vw.putPs Vw.putP Vw.upZ Vw.seOk Vw.bkOk Vw.spL Vw.lkZ Vw.lkP Vw.lkOk Vw.filZ Vw.segS Vw.seAt
theorem sealed_spec (w0 : World) (hT : Tab 0 (hp w0)) (a1 : Option Addr) (c1 : Nat) (l : List UInt8) (hr1 : RdB (hp w0) (.slice a1 l.length c1) l) (hl1 : l.length ≤ 16777216) : Calls Tryz.prog 93 #[.slice a1 l.length c1] w0 fun e w' => ∃ (v : Int × Int × Int) (cv bv : Value) (C : List UInt8) (ps : List Pt), e = .returned (.tuple #[.agg (fdF v cv bv).toArray, .bool (lkOk l)]) ∧ (lkOk l = true → v = ((sdS l).1, (sdS l).2.1, lkZ l) ∧ C = putPs (l.take (lkZ l).toNat) (lkP l) ∧ (∃ a c, cv = .slice a C.length c) ∧ ps.map pcOf = lkP l) ∧ St ⟨w0, None_⟩ w' [slB 5 cv C, sl 54 2 bv ps.length (ps.flatMap pcF), datR ps] := by
 have hs := St.start w0 None_
 have hcp := RdB.cap hr1
 refine c_enter (N := 132) Tryz.func93 rfl Tryz.ntmps93 (by simp) ?_
 intro a hf
 refine wp_seq (wp_region_lit ?_)
 refine s_do hf rfl (y_alloc hs Tryz.zeroValue108 ?_); clear hf hs a; intro b2 w hs a hf
 change St _ _ (cb b2 108 (fdF (0, 0, 0) (.slice none 0 0) (.slice none 0 0)) :: _) at hs
 refine s_a hf rfl ?_; clear hf a; intro a hf
 refine s_nil (then_n (wp_seq (wp_region_lit ?_)))
 refine s_m hf rfl ?_; clear hf a; intro a hf
 refine s_v hf (x_len Tryz.underlying22 (hf.eval rfl)) ?_; clear hf a; intro a hf
 refine s_a hf rfl ?_; clear hf a; intro a hf
 refine s_nil (then_n (wp_seq (wp_region_lit ?_)))
 refine s_m hf rfl ?_; clear hf a; intro a hf
 refine s_v hf (x_bin (hf.eval rfl) (hf.eval rfl) (r_quon _ (by omega) (by omega) (by omega))) ?_; clear hf a; intro a hf
 refine s_v hf (x_bin (hf.eval rfl) (hf.eval rfl) (r_muli _ (by omega) (by omega))) ?_; clear hf a; intro a hf
 refine s_v hf (x_bin (hf.eval rfl) (hf.eval rfl) (r_subi _ (by omega) (by omega))) ?_; clear hf a; intro a hf
 refine s_a hf rfl ?_; clear hf a; intro a hf
 refine s_nil (then_n (wp_seq (wp_seq (wp_region_lit ?_))))
 refine s_m hf rfl ?_; clear hf a; intro a hf
 refine s_v hf (x_bin (hf.eval rfl) (hf.eval rfl) (r_lt _ _ _ _)) ?_; clear hf a; intro a hf
 refine s_nil (then_n ?_)
 refine c_cond hf rfl (fun hi0 => ?_) (fun hi0 => ?_)
 ·first | simp only [zd1, zd2, zd3, zd4] at hi0 | skip
  refine wp_seq (wp_region_lit ?_)
  refine s_r hf (x_build (v := .agg (fdF (0, 0, 0) (.slice none 0 0) (.slice none 0 0)).toArray) (hf.parts rfl) (fun w => by kernel_rfl) _) ?_; clear hf a; intro a hf
  replace hs := hs.take (A := cb b2 108 (fdF (0, 0, 0) (.slice none 0 0) (.slice none 0 0))) (by repeat constructor)
  refine s_do0 hf rfl (y_storeAgg (cs := fdF (0, 0, 0) (.slice none 0 0) (.slice none 0 0)) hs (n := 5) (by kernel_rfl) (hf.eval rfl) (hf.eval rfl) (by simp [Value.oneCell', fdF]) rfl rfl .k0 ?_); clear hf hs a; intro w hs a hf
  refine s_a hf rfl ?_; clear hf a; intro a hf
  refine s_nil (then_n ?_)
  refine wp_ret ?_
  refine then_r ?_
  refine r_2c hf Tryz.results93 rfl rfl hs ag108 rfl .k0 ?_
  have hno : lkOk l = false := by
    unfold lkOk seOk
    first
    | (rw [decide_eq_false (show ¬ 512 ≤ l.length by omega)]; simp; done)
    | (rw [dec_ne hg6_2]; simp; done)
    | (rw [decide_eq_false (show ¬ (sdS l).2.2.1 ≤ 16777216 by omega)]; simp; done)
    | (rw [decide_eq_false (show ¬ (sdS l).2.2.2.1 ≤ 16777216 by omega)]; simp; done)
    | (rw [decide_eq_false (show ¬ (zt (l.drop (seAt l.length + 512)) : Int) = (l.length : Int) - (seAt l.length : Int) - 512 by omega)]; simp; done)
    | (rw [decide_eq_false (show ¬ filZ (sdS l).2.2.1 (sdS l).2.2.2.1 (sdS l).2.2.2.2.2.1 = (l.length : Int) by omega)]; simp; done)
    | (rw [decide_eq_true hc3, hi5]; simp; done)
  rw [hno]
  exact ⟨(0, 0, 0), .slice none 0 0, .slice none 0 0, [], [], rfl, fun h => (by cases h), ((((St.keep [] _ hs).emp (A := datR []) (fun _ => trivial)).emp (A := sl 54 2 (.slice none 0 0) ([] : List Pt).length (([] : List Pt).flatMap pcF)) slW0).emp (slB_nil _))⟩
 first | simp only [zd1, zd2, zd3, zd4] at hi0 | skip
 have hn5 : 512 ≤ l.length := by omega
 have hsa := seAt_le hn5
 have hsl := segS_len hn5
 replace hf := hf.now (k := 5) (v' := .int .i64 (((seAt l.length) : Nat) : Int)) rfl (by congr 1; unfold seAt; omega)
 refine wp_skip (then_n (wp_seq (wp_region_lit ?_)))
 refine s_m hf rfl ?_; clear hf a; intro a hf
 refine s_m hf rfl ?_; clear hf a; intro a hf
 refine s_m hf rfl ?_; clear hf a; intro a hf
 refine s_v hf (x_bin (hf.eval rfl) (hf.eval rfl) (r_addi _ (by omega) (by omega))) ?_; clear hf a; intro a hf
 refine s_v hf (x_slice sl22 (hf.eval rfl) (hf.eval rfl) (hf.eval rfl)  (by omega) (by omega) (by omega)) ?_; clear hf a; intro a hf
 replace hf := hf.now (k := 28) (v' := .slice (subA a1 c1 (seAt l.length) 1) (segS l).length (c1 - (seAt l.length))) rfl (by rw [hsl]; congr 1 <;> omega)
 refine s_do hf rfl (y_call (hf.eval rfl) (hf.evals rfl) Tryz.call112 ((decode_spec _ (hT.kept hs.kept) _ _ (segS l) (hs.oldB (seg_rd hr1 hn5)) (by omega)).mono ?_))
 rintro e w1 ⟨rfl, hk⟩
 replace hs := hs.ext hk
 refine ⟨_, rfl, ?_⟩; clear hf a; intro a hf
 refine s_m hf rfl ?_; clear hf a; intro a hf
 refine s_v hf (x_extract (hf.eval rfl) rfl) ?_; clear hf a; intro a hf
 refine s_v hf (x_extract (hf.eval rfl) rfl) ?_; clear hf a; intro a hf
 refine s_do hf rfl (y_alloc hs Tryz.zeroValue99 ?_); clear hf hs a; intro b6 w hs a hf
 change St _ _ (cb b6 99 (slF zSl) :: _) at hs
 refine s_do0 hf rfl (y_storeAgg (cs := slF (decV (segS l))) hs (n := 7) (by kernel_rfl) (hf.eval rfl) (hf.eval rfl) (by simp [Value.oneCell', slF]) rfl rfl .k0 ?_); clear hf hs a; intro w hs a hf
 refine s_a hf rfl ?_; clear hf a; intro a hf
 refine s_nil (then_n (wp_seq (wp_seq (wp_region_lit ?_))))
 refine s_m hf rfl ?_; clear hf a; intro a hf
 refine s_v hf (x_bin (hf.eval rfl) (hf.eval rfl) (r_ne _ _ _ _)) ?_; clear hf a; intro a hf
 refine s_m hf rfl ?_; clear hf a; intro a hf
 refine s_bool hf (k := 34) rfl (fun hg6_2 hf' => ?_) (fun hg6_2 hf' => ?_)
 ·clear hf
  have hf := hf'
  clear hf'
  first | simp only [zd1, zd2, zd3, zd4] at hg6_2 | skip
  refine s_pass hf rfl rfl ?_; clear hf a; intro a hf
  refine s_pass hf rfl rfl ?_; clear hf a; intro a hf
  refine s_pass hf rfl rfl ?_; clear hf a; intro a hf
  refine s_pass hf rfl rfl ?_; clear hf a; intro a hf
  refine s_v hf (x_pick_t (hf.eval rfl) (hf.eval rfl)) ?_; clear hf a; intro a hf
  refine s_m hf rfl ?_; clear hf a; intro a hf
  refine s_pass hf rfl rfl ?_; clear hf a; intro a hf
  refine s_pass hf rfl rfl ?_; clear hf a; intro a hf
  refine s_pass hf rfl rfl ?_; clear hf a; intro a hf
  refine s_pass hf rfl rfl ?_; clear hf a; intro a hf
  refine s_v hf (x_pick_t (hf.eval rfl) (hf.eval rfl)) ?_; clear hf a; intro a hf
  refine s_m hf rfl ?_; clear hf a; intro a hf
  refine s_pass hf rfl rfl ?_; clear hf a; intro a hf
  refine s_pass hf rfl rfl ?_; clear hf a; intro a hf
  refine s_pass hf rfl rfl ?_; clear hf a; intro a hf
  refine s_pass hf rfl rfl ?_; clear hf a; intro a hf
  refine s_pass hf rfl rfl ?_; clear hf a; intro a hf
  refine s_pass hf rfl rfl ?_; clear hf a; intro a hf
  refine s_pass hf rfl rfl ?_; clear hf a; intro a hf
  refine s_pass hf rfl rfl ?_; clear hf a; intro a hf
  refine s_pass hf rfl rfl ?_; clear hf a; intro a hf
  refine s_pass hf rfl rfl ?_; clear hf a; intro a hf
  refine s_v hf (x_pick_t (hf.eval rfl) (hf.eval rfl)) ?_; clear hf a; intro a hf
  refine s_nil (then_n ?_)
  refine c_cond_t hf rfl rfl ?_
  refine wp_seq (wp_region_lit ?_)
  refine s_r hf (x_build (v := .agg (fdF (0, 0, 0) (.slice none 0 0) (.slice none 0 0)).toArray) (hf.parts rfl) (fun w => by kernel_rfl) _) ?_; clear hf a; intro a hf
  replace hs := hs.take (A := cb b2 108 (fdF (0, 0, 0) (.slice none 0 0) (.slice none 0 0))) (by repeat constructor)
  refine s_do0 hf rfl (y_storeAgg (cs := fdF (0, 0, 0) (.slice none 0 0) (.slice none 0 0)) hs (n := 5) (by kernel_rfl) (hf.eval rfl) (hf.eval rfl) (by simp [Value.oneCell', fdF]) rfl rfl .k0 ?_); clear hf hs a; intro w hs a hf
  refine s_a hf rfl ?_; clear hf a; intro a hf
  refine s_nil (then_n ?_)
  refine wp_ret ?_
  refine then_r ?_
  refine r_2c hf Tryz.results93 rfl rfl hs ag108 rfl .k0 ?_
  have hno : lkOk l = false := by
    unfold lkOk seOk
    first
    | (rw [decide_eq_false (show ¬ 512 ≤ l.length by omega)]; simp; done)
    | (rw [dec_ne hg6_2]; simp; done)
    | (rw [decide_eq_false (show ¬ (sdS l).2.2.1 ≤ 16777216 by omega)]; simp; done)
    | (rw [decide_eq_false (show ¬ (sdS l).2.2.2.1 ≤ 16777216 by omega)]; simp; done)
    | (rw [decide_eq_false (show ¬ (zt (l.drop (seAt l.length + 512)) : Int) = (l.length : Int) - (seAt l.length : Int) - 512 by omega)]; simp; done)
    | (rw [decide_eq_false (show ¬ filZ (sdS l).2.2.1 (sdS l).2.2.2.1 (sdS l).2.2.2.2.2.1 = (l.length : Int) by omega)]; simp; done)
    | (rw [decide_eq_true hc3, hi5]; simp; done)
  rw [hno]
  exact ⟨(0, 0, 0), .slice none 0 0, .slice none 0 0, [], [], rfl, fun h => (by cases h), ((((St.keep [] _ hs).emp (A := datR []) (fun _ => trivial)).emp (A := sl 54 2 (.slice none 0 0) ([] : List Pt).length (([] : List Pt).flatMap pcF)) slW0).emp (slB_nil _))⟩
 clear hf
 have hf := hf'
 clear hf'
 first | simp only [zd1, zd2, zd3, zd4] at hg6_2 | skip
 have hdk := decE_yes hg6_2
 obtain ⟨d0, d1, d2, d3, d4, d5⟩ := dec_flds hdk
 rw [(dec_yes hdk).1] at hs
 have hsd : dsF (segS l) = sdS l := by unfold sdS; rfl
 rw [hsd] at d0 d1 d2 d3 d4 d5 hs
 refine s_do hf (wanted_of hf rfl rfl rfl) (.value (x_fieldAddr fo99_2 (hf.eval rfl) _) ?_); clear hf a; intro a hf
 refine s_do hf (wanted_of hf rfl rfl rfl) (.value (x_load sc3 (hf.eval rfl) (by apply hs.cell <;> repeat constructor)) ?_); clear hf a; intro a hf
 refine s_do hf (wanted_of hf rfl rfl rfl) (y_call (hf.eval rfl) (hf.evals rfl) Tryz.call74 ((sized_spec _ _).mono ?_))
 rintro e w1 ⟨rfl, hw9⟩
 rw [hw9]
 clear hw9 w1
 refine ⟨_, rfl, ?_⟩; clear hf a; intro a hf
 refine s_do hf (wanted_of hf rfl rfl rfl) (.value (x_not (hf.eval rfl) _) ?_); clear hf a; intro a hf
 refine s_v hf (x_pick_f (hf.eval rfl) (hf.eval rfl)) ?_; clear hf a; intro a hf
 refine s_m hf rfl ?_; clear hf a; intro a hf
 refine s_bool hf (k := 40) rfl (fun hg6_8 hf' => ?_) (fun hg6_8 hf' => ?_)
 ·clear hf
  have hf := hf'
  clear hf'
  first | simp only [zd1, zd2, zd3, zd4] at hg6_8 | skip
  refine s_pass hf rfl rfl ?_; clear hf a; intro a hf
  refine s_pass hf rfl rfl ?_; clear hf a; intro a hf
  refine s_pass hf rfl rfl ?_; clear hf a; intro a hf
  refine s_pass hf rfl rfl ?_; clear hf a; intro a hf
  refine s_v hf (x_pick_t (hf.eval rfl) (hf.eval rfl)) ?_; clear hf a; intro a hf
  refine s_m hf rfl ?_; clear hf a; intro a hf
  refine s_pass hf rfl rfl ?_; clear hf a; intro a hf
  refine s_pass hf rfl rfl ?_; clear hf a; intro a hf
  refine s_pass hf rfl rfl ?_; clear hf a; intro a hf
  refine s_pass hf rfl rfl ?_; clear hf a; intro a hf
  refine s_pass hf rfl rfl ?_; clear hf a; intro a hf
  refine s_pass hf rfl rfl ?_; clear hf a; intro a hf
  refine s_pass hf rfl rfl ?_; clear hf a; intro a hf
  refine s_pass hf rfl rfl ?_; clear hf a; intro a hf
  refine s_pass hf rfl rfl ?_; clear hf a; intro a hf
  refine s_pass hf rfl rfl ?_; clear hf a; intro a hf
  refine s_v hf (x_pick_t (hf.eval rfl) (hf.eval rfl)) ?_; clear hf a; intro a hf
  refine s_nil (then_n ?_)
  refine c_cond_t hf rfl rfl ?_
  refine wp_seq (wp_region_lit ?_)
  refine s_r hf (x_build (v := .agg (fdF (0, 0, 0) (.slice none 0 0) (.slice none 0 0)).toArray) (hf.parts rfl) (fun w => by kernel_rfl) _) ?_; clear hf a; intro a hf
  replace hs := hs.take (A := cb b2 108 (fdF (0, 0, 0) (.slice none 0 0) (.slice none 0 0))) (by repeat constructor)
  refine s_do0 hf rfl (y_storeAgg (cs := fdF (0, 0, 0) (.slice none 0 0) (.slice none 0 0)) hs (n := 5) (by kernel_rfl) (hf.eval rfl) (hf.eval rfl) (by simp [Value.oneCell', fdF]) rfl rfl .k0 ?_); clear hf hs a; intro w hs a hf
  refine s_a hf rfl ?_; clear hf a; intro a hf
  refine s_nil (then_n ?_)
  refine wp_ret ?_
  refine then_r ?_
  refine r_2c hf Tryz.results93 rfl rfl hs ag108 rfl .k0 ?_
  have hno : lkOk l = false := by
    unfold lkOk seOk
    first
    | (rw [decide_eq_false (show ¬ 512 ≤ l.length by omega)]; simp; done)
    | (rw [dec_ne hg6_2]; simp; done)
    | (rw [decide_eq_false (show ¬ (sdS l).2.2.1 ≤ 16777216 by omega)]; simp; done)
    | (rw [decide_eq_false (show ¬ (sdS l).2.2.2.1 ≤ 16777216 by omega)]; simp; done)
    | (rw [decide_eq_false (show ¬ (zt (l.drop (seAt l.length + 512)) : Int) = (l.length : Int) - (seAt l.length : Int) - 512 by omega)]; simp; done)
    | (rw [decide_eq_false (show ¬ filZ (sdS l).2.2.1 (sdS l).2.2.2.1 (sdS l).2.2.2.2.2.1 = (l.length : Int) by omega)]; simp; done)
    | (rw [decide_eq_true hc3, hi5]; simp; done)
  rw [hno]
  exact ⟨(0, 0, 0), .slice none 0 0, .slice none 0 0, [], [], rfl, fun h => (by cases h), ((((St.keep [] _ hs).emp (A := datR []) (fun _ => trivial)).emp (A := sl 54 2 (.slice none 0 0) ([] : List Pt).length (([] : List Pt).flatMap pcF)) slW0).emp (slB_nil _))⟩
 clear hf
 have hf := hf'
 clear hf'
 first | simp only [zd1, zd2, zd3, zd4] at hg6_8 | skip
 refine s_do hf (wanted_of hf rfl rfl rfl) (.value (x_fieldAddr fo99_3 (hf.eval rfl) _) ?_); clear hf a; intro a hf
 refine s_do hf (wanted_of hf rfl rfl rfl) (.value (x_load sc3 (hf.eval rfl) (by apply hs.cell <;> repeat constructor)) ?_); clear hf a; intro a hf
 refine s_do hf (wanted_of hf rfl rfl rfl) (y_call (hf.eval rfl) (hf.evals rfl) Tryz.call74 ((sized_spec _ _).mono ?_))
 rintro e w1 ⟨rfl, hw9⟩
 rw [hw9]
 clear hw9 w1
 refine ⟨_, rfl, ?_⟩; clear hf a; intro a hf
 refine s_do hf (wanted_of hf rfl rfl rfl) (.value (x_not (hf.eval rfl) _) ?_); clear hf a; intro a hf
 refine s_v hf (x_pick_f (hf.eval rfl) (hf.eval rfl)) ?_; clear hf a; intro a hf
 refine s_m hf rfl ?_; clear hf a; intro a hf
 refine s_bool hf (k := 46) rfl (fun hg6_14 hf' => ?_) (fun hg6_14 hf' => ?_)
 ·clear hf
  have hf := hf'
  clear hf'
  first | simp only [zd1, zd2, zd3, zd4] at hg6_14 | skip
  refine s_pass hf rfl rfl ?_; clear hf a; intro a hf
  refine s_pass hf rfl rfl ?_; clear hf a; intro a hf
  refine s_pass hf rfl rfl ?_; clear hf a; intro a hf
  refine s_pass hf rfl rfl ?_; clear hf a; intro a hf
  refine s_pass hf rfl rfl ?_; clear hf a; intro a hf
  refine s_pass hf rfl rfl ?_; clear hf a; intro a hf
  refine s_pass hf rfl rfl ?_; clear hf a; intro a hf
  refine s_pass hf rfl rfl ?_; clear hf a; intro a hf
  refine s_pass hf rfl rfl ?_; clear hf a; intro a hf
  refine s_pass hf rfl rfl ?_; clear hf a; intro a hf
  refine s_v hf (x_pick_t (hf.eval rfl) (hf.eval rfl)) ?_; clear hf a; intro a hf
  refine s_nil (then_n ?_)
  refine c_cond_t hf rfl rfl ?_
  refine wp_seq (wp_region_lit ?_)
  refine s_r hf (x_build (v := .agg (fdF (0, 0, 0) (.slice none 0 0) (.slice none 0 0)).toArray) (hf.parts rfl) (fun w => by kernel_rfl) _) ?_; clear hf a; intro a hf
  replace hs := hs.take (A := cb b2 108 (fdF (0, 0, 0) (.slice none 0 0) (.slice none 0 0))) (by repeat constructor)
  refine s_do0 hf rfl (y_storeAgg (cs := fdF (0, 0, 0) (.slice none 0 0) (.slice none 0 0)) hs (n := 5) (by kernel_rfl) (hf.eval rfl) (hf.eval rfl) (by simp [Value.oneCell', fdF]) rfl rfl .k0 ?_); clear hf hs a; intro w hs a hf
  refine s_a hf rfl ?_; clear hf a; intro a hf
  refine s_nil (then_n ?_)
  refine wp_ret ?_
  refine then_r ?_
  refine r_2c hf Tryz.results93 rfl rfl hs ag108 rfl .k0 ?_
  have hno : lkOk l = false := by
    unfold lkOk seOk
    first
    | (rw [decide_eq_false (show ¬ 512 ≤ l.length by omega)]; simp; done)
    | (rw [dec_ne hg6_2]; simp; done)
    | (rw [decide_eq_false (show ¬ (sdS l).2.2.1 ≤ 16777216 by omega)]; simp; done)
    | (rw [decide_eq_false (show ¬ (sdS l).2.2.2.1 ≤ 16777216 by omega)]; simp; done)
    | (rw [decide_eq_false (show ¬ (zt (l.drop (seAt l.length + 512)) : Int) = (l.length : Int) - (seAt l.length : Int) - 512 by omega)]; simp; done)
    | (rw [decide_eq_false (show ¬ filZ (sdS l).2.2.1 (sdS l).2.2.2.1 (sdS l).2.2.2.2.2.1 = (l.length : Int) by omega)]; simp; done)
    | (rw [decide_eq_true hc3, hi5]; simp; done)
  rw [hno]
  exact ⟨(0, 0, 0), .slice none 0 0, .slice none 0 0, [], [], rfl, fun h => (by cases h), ((((St.keep [] _ hs).emp (A := datR []) (fun _ => trivial)).emp (A := sl 54 2 (.slice none 0 0) ([] : List Pt).length (([] : List Pt).flatMap pcF)) slW0).emp (slB_nil _))⟩
 clear hf
 have hf := hf'
 clear hf'
 first | simp only [zd1, zd2, zd3, zd4] at hg6_14 | skip
 refine s_do hf (wanted_of hf rfl rfl rfl) (.value (x_move (hf.eval rfl) _) ?_); clear hf a; intro a hf
 refine s_do hf (wanted_of hf rfl rfl rfl) (.value (x_move (hf.eval rfl) _) ?_); clear hf a; intro a hf
 refine s_do hf (wanted_of hf rfl rfl rfl) (.value (x_bin (hf.eval rfl) (hf.eval rfl) (r_addi _ (by omega) (by omega)) _) ?_); clear hf a; intro a hf
 refine s_do hf (wanted_of hf rfl rfl rfl) (.value (x_slice_lo sl22 (hf.eval rfl) (hf.eval rfl)  (by omega) (by omega) _) ?_); clear hf a; intro a hf
 replace hf := hf.now (k := 50) (v' := .slice (subA a1 c1 ((seAt l.length) + 512) 1) (l.drop ((seAt l.length) + 512)).length (c1 - ((seAt l.length) + 512))) rfl (by rw [List.length_drop]; congr 1 <;> omega)
 refine s_do hf (wanted_of hf rfl rfl rfl) (y_call (hf.eval rfl) (hf.evals rfl) Tryz.call92 ((tail_spec _ _ _ (l.drop ((seAt l.length) + 512)) (hs.oldB (tl_rd hr1 hsa)) (by rw [List.length_drop]; omega)).mono ?_))
 rintro e w1 ⟨rfl, hk⟩
 replace hs := hs.ext hk
 refine ⟨_, rfl, ?_⟩; clear hf a; intro a hf
 refine s_do hf (wanted_of hf rfl rfl rfl) (.value (x_move (hf.eval rfl) _) ?_); clear hf a; intro a hf
 refine s_do hf (wanted_of hf rfl rfl rfl) (.value (x_move (hf.eval rfl) _) ?_); clear hf a; intro a hf
 refine s_do hf (wanted_of hf rfl rfl rfl) (.value (x_bin (hf.eval rfl) (hf.eval rfl) (r_subi _ (by omega) (by omega)) _) ?_); clear hf a; intro a hf
 refine s_do hf (wanted_of hf rfl rfl rfl) (.value (x_bin (hf.eval rfl) (hf.eval rfl) (r_subi _ (by omega) (by omega)) _) ?_); clear hf a; intro a hf
 refine s_do hf (wanted_of hf rfl rfl rfl) (.value (x_bin (hf.eval rfl) (hf.eval rfl) (r_ne _ _ _ _) _) ?_); clear hf a; intro a hf
 refine s_v hf (x_pick_f (hf.eval rfl) (hf.eval rfl)) ?_; clear hf a; intro a hf
 refine s_nil (then_n ?_)
 refine c_cond hf rfl (fun hi1 => ?_) (fun hi1 => ?_)
 ·first | simp only [zd1, zd2, zd3, zd4] at hi1 | skip
  refine wp_seq (wp_region_lit ?_)
  refine s_r hf (x_build (v := .agg (fdF (0, 0, 0) (.slice none 0 0) (.slice none 0 0)).toArray) (hf.parts rfl) (fun w => by kernel_rfl) _) ?_; clear hf a; intro a hf
  replace hs := hs.take (A := cb b2 108 (fdF (0, 0, 0) (.slice none 0 0) (.slice none 0 0))) (by repeat constructor)
  refine s_do0 hf rfl (y_storeAgg (cs := fdF (0, 0, 0) (.slice none 0 0) (.slice none 0 0)) hs (n := 5) (by kernel_rfl) (hf.eval rfl) (hf.eval rfl) (by simp [Value.oneCell', fdF]) rfl rfl .k0 ?_); clear hf hs a; intro w hs a hf
  refine s_a hf rfl ?_; clear hf a; intro a hf
  refine s_nil (then_n ?_)
  refine wp_ret ?_
  refine then_r ?_
  refine r_2c hf Tryz.results93 rfl rfl hs ag108 rfl .k0 ?_
  have hno : lkOk l = false := by
    unfold lkOk seOk
    first
    | (rw [decide_eq_false (show ¬ 512 ≤ l.length by omega)]; simp; done)
    | (rw [dec_ne hg6_2]; simp; done)
    | (rw [decide_eq_false (show ¬ (sdS l).2.2.1 ≤ 16777216 by omega)]; simp; done)
    | (rw [decide_eq_false (show ¬ (sdS l).2.2.2.1 ≤ 16777216 by omega)]; simp; done)
    | (rw [decide_eq_false (show ¬ (zt (l.drop (seAt l.length + 512)) : Int) = (l.length : Int) - (seAt l.length : Int) - 512 by omega)]; simp; done)
    | (rw [decide_eq_false (show ¬ filZ (sdS l).2.2.1 (sdS l).2.2.2.1 (sdS l).2.2.2.2.2.1 = (l.length : Int) by omega)]; simp; done)
    | (rw [decide_eq_true hc3, hi5]; simp; done)
  rw [hno]
  exact ⟨(0, 0, 0), .slice none 0 0, .slice none 0 0, [], [], rfl, fun h => (by cases h), ((((St.keep [] _ hs).emp (A := datR []) (fun _ => trivial)).emp (A := sl 54 2 (.slice none 0 0) ([] : List Pt).length (([] : List Pt).flatMap pcF)) slW0).emp (slB_nil _))⟩
 first | simp only [zd1, zd2, zd3, zd4] at hi1 | skip
 refine wp_skip (then_n (wp_seq (wp_region_lit ?_)))
 refine s_v hf (x_fieldAddr fo99_2 (hf.eval rfl)) ?_; clear hf a; intro a hf
 refine s_r hf (x_load sc3 (hf.eval rfl) (by apply hs.cell <;> repeat constructor)) ?_; clear hf a; intro a hf
 refine s_v hf (x_fieldAddr fo99_3 (hf.eval rfl)) ?_; clear hf a; intro a hf
 refine s_r hf (x_load sc3 (hf.eval rfl) (by apply hs.cell <;> repeat constructor)) ?_; clear hf a; intro a hf
 refine s_v hf (x_fieldAddr fo99_5 (hf.eval rfl)) ?_; clear hf a; intro a hf
 refine s_r hf (x_load sc3 (hf.eval rfl) (by apply hs.cell <;> repeat constructor)) ?_; clear hf a; intro a hf
 refine s_do hf rfl (y_call (hf.eval rfl) (hf.evals rfl) Tryz.call78 ((placedF_spec _ (sdS l).2.2.1 (sdS l).2.2.2.1 (sdS l).2.2.2.2.2.1 (by omega) (by omega) (by omega) (by omega) (by omega) (by omega)).mono ?_))
 rintro e w1 ⟨rfl, hk⟩
 replace hs := hs.ext hk
 refine ⟨_, rfl, ?_⟩; clear hf a; intro a hf
 refine s_do hf rfl (y_alloc hs Tryz.zeroValue111 ?_); clear hf hs a; intro b8 w hs a hf
 change St _ _ (cb b8 111 [.int .i64 0, .int .i64 0, .int .i64 0] :: _) at hs
 refine s_do0 hf rfl (y_storeAgg (cs := [.int .i64 (upZ (max (sdS l).2.2.1 (sdS l).2.2.2.1)), .int .i64 (filZ (sdS l).2.2.1 (sdS l).2.2.2.1 (sdS l).2.2.2.2.2.1 / 512 * 512 - 512), .int .i64 (filZ (sdS l).2.2.1 (sdS l).2.2.2.1 (sdS l).2.2.2.2.2.1)]) hs (n := 3) (by kernel_rfl) (hf.eval rfl) (hf.eval rfl) (by simp [Value.oneCell']) rfl rfl .k0 ?_); clear hf hs a; intro w hs a hf
 refine s_nil (then_n (wp_seq (wp_seq (wp_region_lit ?_))))
 refine s_v hf (x_fieldAddr fo111_2 (hf.eval rfl)) ?_; clear hf a; intro a hf
 refine s_r hf (x_load sc3 (hf.eval rfl) (by apply hs.cell <;> repeat constructor)) ?_; clear hf a; intro a hf
 refine s_m hf rfl ?_; clear hf a; intro a hf
 refine s_v hf (x_bin (hf.eval rfl) (hf.eval rfl) (r_ne _ _ _ _)) ?_; clear hf a; intro a hf
 refine s_nil (then_n ?_)
 refine c_cond hf rfl (fun hi2 => ?_) (fun hi2 => ?_)
 ·first | simp only [zd1, zd2, zd3, zd4] at hi2 | skip
  try simp only [ne_eq, Classical.not_not] at hi2
  refine wp_seq (wp_region_lit ?_)
  refine s_r hf (x_build (v := .agg (fdF (0, 0, 0) (.slice none 0 0) (.slice none 0 0)).toArray) (hf.parts rfl) (fun w => by kernel_rfl) _) ?_; clear hf a; intro a hf
  replace hs := hs.take (A := cb b2 108 (fdF (0, 0, 0) (.slice none 0 0) (.slice none 0 0))) (by repeat constructor)
  refine s_do0 hf rfl (y_storeAgg (cs := fdF (0, 0, 0) (.slice none 0 0) (.slice none 0 0)) hs (n := 5) (by kernel_rfl) (hf.eval rfl) (hf.eval rfl) (by simp [Value.oneCell', fdF]) rfl rfl .k0 ?_); clear hf hs a; intro w hs a hf
  refine s_a hf rfl ?_; clear hf a; intro a hf
  refine s_nil (then_n ?_)
  refine wp_ret ?_
  refine then_r ?_
  refine r_2c hf Tryz.results93 rfl rfl hs ag108 rfl .k0 ?_
  have hno : lkOk l = false := by
    unfold lkOk seOk
    first
    | (rw [decide_eq_false (show ¬ 512 ≤ l.length by omega)]; simp; done)
    | (rw [dec_ne hg6_2]; simp; done)
    | (rw [decide_eq_false (show ¬ (sdS l).2.2.1 ≤ 16777216 by omega)]; simp; done)
    | (rw [decide_eq_false (show ¬ (sdS l).2.2.2.1 ≤ 16777216 by omega)]; simp; done)
    | (rw [decide_eq_false (show ¬ (zt (l.drop (seAt l.length + 512)) : Int) = (l.length : Int) - (seAt l.length : Int) - 512 by omega)]; simp; done)
    | (rw [decide_eq_false (show ¬ filZ (sdS l).2.2.1 (sdS l).2.2.2.1 (sdS l).2.2.2.2.2.1 = (l.length : Int) by omega)]; simp; done)
    | (rw [decide_eq_true hc3, hi5]; simp; done)
  rw [hno]
  exact ⟨(0, 0, 0), .slice none 0 0, .slice none 0 0, [], [], rfl, fun h => (by cases h), ((((St.keep [] _ hs).emp (A := datR []) (fun _ => trivial)).emp (A := sl 54 2 (.slice none 0 0) ([] : List Pt).length (([] : List Pt).flatMap pcF)) slW0).emp (slB_nil _))⟩
 first | simp only [zd1, zd2, zd3, zd4] at hi2 | skip
 try simp only [ne_eq, Classical.not_not] at hi2
 have hfil : filZ (sdS l).2.2.1 (sdS l).2.2.2.1 (sdS l).2.2.2.2.2.1 = (l.length : Int) := by omega
 have hse : seOk l = true := by unfold seOk; rw [decide_eq_true hn5, hdk, decide_eq_true (show (sdS l).2.2.1 ≤ 16777216 by omega), decide_eq_true (show (sdS l).2.2.2.1 ≤ 16777216 by omega), decide_eq_true hfil, decide_eq_true (show (zt (l.drop (seAt l.length + 512)) : Int) = (l.length : Int) - (seAt l.length : Int) - 512 by omega)]; rfl
 have hgd := seGood hse
 have gb := hgd.body
 have gs := hgd.st
 have gu := hgd.sum
 rw [hfil] at hs
 refine wp_skip (then_n (wp_seq (wp_region_lit ?_)))
 refine s_v hf (x_fieldAddr fo99_0 (hf.eval rfl)) ?_; clear hf a; intro a hf
 refine s_r hf (x_load sc3 (hf.eval rfl) (by apply hs.cell <;> repeat constructor)) ?_; clear hf a; intro a hf
 refine s_v hf (x_fieldAddr fo99_1 (hf.eval rfl)) ?_; clear hf a; intro a hf
 refine s_r hf (x_load sc3 (hf.eval rfl) (by apply hs.cell <;> repeat constructor)) ?_; clear hf a; intro a hf
 refine s_v hf (x_fieldAddr fo99_2 (hf.eval rfl)) ?_; clear hf a; intro a hf
 refine s_r hf (x_load sc3 (hf.eval rfl) (by apply hs.cell <;> repeat constructor)) ?_; clear hf a; intro a hf
 refine s_r hf (x_build (v := .agg (vdF ((sdS l).1, (sdS l).2.1, (sdS l).2.2.1)).toArray) (hf.parts rfl) (fun w => by kernel_rfl) _) ?_; clear hf a; intro a hf
 refine s_r hf (x_build (v := .agg (fdF ((sdS l).1, (sdS l).2.1, (sdS l).2.2.1) (.slice none 0 0) (.slice none 0 0)).toArray) (hf.parts rfl) (fun w => by kernel_rfl) _) ?_; clear hf a; intro a hf
 refine s_do hf rfl (y_alloc hs Tryz.zeroValue108 ?_); clear hf hs a; intro b9 w hs a hf
 change St _ _ (cb b9 108 (fdF (0, 0, 0) (.slice none 0 0) (.slice none 0 0)) :: _) at hs
 refine s_do0 hf rfl (y_storeAgg (cs := fdF ((sdS l).1, (sdS l).2.1, (sdS l).2.2.1) (.slice none 0 0) (.slice none 0 0)) hs (n := 5) (by kernel_rfl) (hf.eval rfl) (hf.eval rfl) (by simp [Value.oneCell', fdF]) rfl rfl .k0 ?_); clear hf hs a; intro w hs a hf
 refine s_nil (then_n ?_)
 refine c_join (N := 132) (L0 := [(0, _), (2, _), (9, _)]) (fun M w => ∃ (av : Option Addr) (cvv : Nat) (ps : List Pt), M = [] ∧ lkOk l = true ∧ ps.map pcOf = lkP l ∧ St ⟨w0, None_⟩ w [cb b9 108 (fdF ((sdS l).1, (sdS l).2.1, lkZ l) (.slice none 0 0) (.slice av ps.length cvv)), sl 54 2 (.slice av ps.length cvv) ps.length (ps.flatMap pcF), datR ps, cb b2 108 (fdF (0, 0, 0) (.slice none 0 0) (.slice none 0 0))]) (hf.sub ⟨rfl, rfl, rfl, trivial⟩) ?_ ?_
 ·refine wp_seq ?_
  refine wp_region_lit ?_
  refine s_v hf (x_fieldAddr fo99_0 (hf.eval rfl)) ?_; clear hf a; intro a hf
  refine s_r hf (x_load sc3 (hf.eval rfl) (by apply hs.cell <;> repeat constructor)) ?_; clear hf a; intro a hf
  refine s_nil (then_n (wp_block (wp_seq (wp_region_lit ?_))))
  refine s_v hf (x_bin (hf.eval rfl) (hf.eval rfl) (r_eq _ _ _ _)) ?_; clear hf a; intro a hf
  refine s_a hf rfl ?_; clear hf a; intro a hf
  refine s_nil (then_n ?_)
  refine c_cond hf rfl (fun hi3 => ?_) (fun hi3 => ?_)
  ·first | simp only [zd1, zd2, zd3, zd4] at hi3 | skip
   refine wp_region_lit ?_
   refine s_v hf (x_fieldAddr fo99_3 (hf.eval rfl)) ?_; clear hf a; intro a hf
   refine s_r hf (x_load sc3 (hf.eval rfl) (by apply hs.cell <;> repeat constructor)) ?_; clear hf a; intro a hf
   refine s_v hf (x_fieldAddr fo108_0 (hf.eval rfl)) ?_; clear hf a; intro a hf
   refine s_v hf (x_fieldAddr fo37_2 (hf.eval rfl)) ?_; clear hf a; intro a hf
   replace hs := hs.take (A := cb b9 108 (fdF ((sdS l).1, (sdS l).2.1, (sdS l).2.2.1) (.slice none 0 0) (.slice none 0 0))) (by repeat constructor)
   refine s_do0 hf rfl (y_store hs sc3 (hf.eval rfl) (hf.eval rfl) rfl .k0 (by simp [fdF]) ?_); clear hf hs a; intro w hs a hf
   change St _ _ (cb b9 108 (fdF ((sdS l).1, (sdS l).2.1, (sdS l).2.2.2.1) (.slice none 0 0) (.slice none 0 0)) :: _) at hs
   have hz : lkZ l = (sdS l).2.2.2.1 := by unfold lkZ; rw [if_pos hi3]
   have hok9 : lkOk l = true := by unfold lkOk; rw [hse, decide_eq_false (show ¬ (sdS l).1 = 3 by omega)]; rfl
   have hpm9 : ([] : List Pt).map pcOf = lkP l := by unfold lkP; rw [if_neg (show ¬ (sdS l).1 = 3 by omega)]; rfl
   rw [← hz] at hs
   replace hs := hs.take (A := cb b2 108 (fdF (0, 0, 0) (.slice none 0 0) (.slice none 0 0))) (by repeat constructor)
   replace hs := (hs.emp (A := datR []) (fun _ => trivial)).emp (A := sl 54 2 (.slice none 0 0) ([] : List Pt).length (([] : List Pt).flatMap pcF)) slW0
   replace hs := hs.take (A := cb b9 108 (fdF ((sdS l).1, (sdS l).2.1, lkZ l) (.slice none 0 0) (.slice none 0 0))) (by repeat constructor)
   have hs9 := St.keep [_, _, _, _] _ hs
   refine s_nil (blk_n (then_n ?_))
   exact ⟨_, ⟨_, _, _, rfl, hok9, hpm9, hs9⟩, hf.sub ⟨rfl, rfl, rfl, trivial⟩⟩
  first | simp only [zd1, zd2, zd3, zd4] at hi3 | skip
  refine wp_seq (wp_region_lit ?_)
  refine s_v hf (x_bin (hf.eval rfl) (hf.eval rfl) (r_eq _ _ _ _)) ?_; clear hf a; intro a hf
  refine s_a hf rfl ?_; clear hf a; intro a hf
  refine s_nil (then_n ?_)
  refine c_cond hf rfl (fun hi4 => ?_) (fun hi4 => ?_)
  ·first | simp only [zd1, zd2, zd3, zd4] at hi4 | skip
   refine wp_seq ?_
   refine c_draw hs (fun _ => True) [.read, .held, .held, .read, .held, .read, .held, .read, .held, .held, .eff, .held, .held, .held, .held, .held] (by kernel_rfl) (by kernel_rfl) (fun _ _ _ => trivial) ?_
   clear hs; intro w hs hC hw
   replace hs := hs.take (A := cb b6 99 (slF (sdS l))) (by repeat constructor)
   refine m_read hf rfl (x_loadBlk hs ag99 (hf.eval rfl) rfl (by repeat constructor)) ?_; clear hf a; intro a hf
   refine m_held hf rfl (fun w' _ => x_move (hf.eval rfl) w') ?_; clear hf a; intro a hf
   refine m_held hf rfl (fun w' _ => x_fieldAddr fo111_0 (hf.eval rfl) w') ?_; clear hf a; intro a hf
   refine m_read hf rfl (x_load sc3 (hf.eval rfl) (by apply hs.cell <;> repeat constructor)) ?_; clear hf a; intro a hf
   refine m_held hf rfl (fun w' _ => x_fieldAddr fo111_0 (hf.eval rfl) w') ?_; clear hf a; intro a hf
   refine m_read hf rfl (x_load sc3 (hf.eval rfl) (by apply hs.cell <;> repeat constructor)) ?_; clear hf a; intro a hf
   refine m_held hf rfl (fun w' _ => x_fieldAddr fo99_5 (hf.eval rfl) w') ?_; clear hf a; intro a hf
   refine m_read hf rfl (x_load sc3 (hf.eval rfl) (by apply hs.cell <;> repeat constructor)) ?_; clear hf a; intro a hf
   refine m_held hf rfl (fun w' _ => x_bin (hf.eval rfl) (hf.eval rfl) (r_addi _ (by omega) (by omega)) w') ?_; clear hf a; intro a hf
   refine m_held hf rfl (fun w' _ => x_slice sl22 (hf.eval rfl) (hf.eval rfl) (hf.eval rfl)  (by omega) (by omega) (by omega) w') ?_; clear hf a; intro a hf
   have hbl : (bodyS l).length = (sdS l).2.2.2.2.2.1.toNat := by unfold bodyS; rw [List.length_take, List.length_drop]; omega
   have hbr : RdB (hp w0) (.slice (subA a1 c1 (upZ (max (sdS l).2.2.1 (sdS l).2.2.2.1)).toNat 1) (bodyS l).length (c1 - (upZ (max (sdS l).2.2.1 (sdS l).2.2.2.1)).toNat)) (bodyS l) := by unfold bodyS; exact sub_rd hr1 (by omega)
   replace hf := hf.now (k := 99) (v' := .slice (subA a1 c1 (upZ (max (sdS l).2.2.1 (sdS l).2.2.2.1)).toNat 1) (bodyS l).length (c1 - (upZ (max (sdS l).2.2.1 (sdS l).2.2.2.1)).toNat)) rfl (by rw [hbl]; exact slice_eq rfl (by omega) rfl)
   refine m_eff hf rfl (y_call (hf.eval rfl) (hf.evals rfl) Tryz.call113 ((restored_spec _ (hT.kept hs.kept) (sdS l) gu (by omega) (by omega) _ _ (bodyS l) (hs.oldB hbr) (by omega)).mono ?_))
   rintro e w1 ⟨vr, ps, rfl, hps, hj⟩
   replace hs := hs.join hj
   simp only [List.cons_append, List.nil_append] at hs
   obtain ⟨av, cvv, rfl⟩ := sl_shape hs
   have hc3 : (sdS l).1 = 3 := hi4
   refine ⟨_, rfl, ⟨trivial, ?_⟩⟩; clear hf a; intro a hf
   refine m_held hf rfl (fun w' _ => x_move (hf.eval rfl) w') ?_; clear hf a; intro a hf
   refine m_held hf rfl (fun w' _ => x_extract (hf.eval rfl) rfl w') ?_; clear hf a; intro a hf
   refine m_held hf rfl (fun w' _ => x_extract (hf.eval rfl) rfl w') ?_; clear hf a; intro a hf
   refine m_held hf rfl (fun w' _ => x_assign (hf.eval rfl) w') ?_; clear hf a; intro a hf
   refine m_held hf rfl (fun w' _ => x_assign (hf.eval rfl) w') ?_; clear hf a; intro a hf
   refine m_nil ?_
   refine then_n (wp_seq (wp_seq (wp_region_lit ?_)))
   refine s_m hf rfl ?_; clear hf a; intro a hf
   refine s_v hf (x_not (hf.eval rfl)) ?_; clear hf a; intro a hf
   refine s_nil (then_n ?_)
   refine c_cond hf rfl (fun hi5 => ?_) (fun hi5 => ?_)
   ·first | simp only [zd1, zd2, zd3, zd4] at hi5 | skip
    refine wp_seq (wp_region_lit ?_)
    refine s_r hf (x_build (v := .agg (fdF (0, 0, 0) (.slice none 0 0) (.slice none 0 0)).toArray) (hf.parts rfl) (fun w => by kernel_rfl) _) ?_; clear hf a; intro a hf
    replace hs := hs.take (A := cb b2 108 (fdF (0, 0, 0) (.slice none 0 0) (.slice none 0 0))) (by repeat constructor)
    refine s_do0 hf rfl (y_storeAgg (cs := fdF (0, 0, 0) (.slice none 0 0) (.slice none 0 0)) hs (n := 5) (by kernel_rfl) (hf.eval rfl) (hf.eval rfl) (by simp [Value.oneCell', fdF]) rfl rfl .k0 ?_); clear hf hs a; intro w hs a hf
    refine s_a hf rfl ?_; clear hf a; intro a hf
    refine s_nil (then_n ?_)
    refine wp_ret ?_
    refine then_r (blk_r (then_r ?_))
    refine r_2c hf Tryz.results93 rfl rfl hs ag108 rfl .k0 ?_
    have hno : lkOk l = false := by
      unfold lkOk seOk
      first
      | (rw [decide_eq_false (show ¬ 512 ≤ l.length by omega)]; simp; done)
      | (rw [dec_ne hg6_2]; simp; done)
      | (rw [decide_eq_false (show ¬ (sdS l).2.2.1 ≤ 16777216 by omega)]; simp; done)
      | (rw [decide_eq_false (show ¬ (sdS l).2.2.2.1 ≤ 16777216 by omega)]; simp; done)
      | (rw [decide_eq_false (show ¬ (zt (l.drop (seAt l.length + 512)) : Int) = (l.length : Int) - (seAt l.length : Int) - 512 by omega)]; simp; done)
      | (rw [decide_eq_false (show ¬ filZ (sdS l).2.2.1 (sdS l).2.2.2.1 (sdS l).2.2.2.2.2.1 = (l.length : Int) by omega)]; simp; done)
      | (rw [decide_eq_true hc3, hi5]; simp; done)
    rw [hno]
    exact ⟨(0, 0, 0), .slice none 0 0, .slice none 0 0, [], [], rfl, fun h => (by cases h), ((((St.keep [] _ hs).emp (A := datR []) (fun _ => trivial)).emp (A := sl 54 2 (.slice none 0 0) ([] : List Pt).length (([] : List Pt).flatMap pcF)) slW0).emp (slB_nil _))⟩
   first | simp only [zd1, zd2, zd3, zd4] at hi5 | skip
   refine wp_skip (then_n (wp_region_lit ?_))
   refine s_m hf rfl ?_; clear hf a; intro a hf
   refine s_v hf (x_fieldAddr fo108_2 (hf.eval rfl)) ?_; clear hf a; intro a hf
   replace hs := hs.take (A := cb b9 108 (fdF ((sdS l).1, (sdS l).2.1, (sdS l).2.2.1) (.slice none 0 0) (.slice none 0 0))) (by repeat constructor)
   refine s_do0 hf rfl (y_store hs sc23 (hf.eval rfl) (hf.eval rfl) rfl .k0 (by simp [fdF]) ?_); clear hf hs a; intro w hs a hf
   change St _ _ (cb b9 108 (fdF ((sdS l).1, (sdS l).2.1, (sdS l).2.2.1) (.slice none 0 0) (.slice av ps.length cvv)) :: _) at hs
   have hz : lkZ l = (sdS l).2.2.1 := by unfold lkZ; rw [if_neg (show ¬ (sdS l).1 = 4 by omega)]
   have hok9 : lkOk l = true := by unfold lkOk; rw [hse, hi5]; simp
   have hpm9 : ps.map pcOf = lkP l := by unfold lkP; rw [if_pos hc3]; exact hps hi5
   rw [← hz] at hs
   replace hs := hs.take (A := cb b2 108 (fdF (0, 0, 0) (.slice none 0 0) (.slice none 0 0))) (by repeat constructor)
   replace hs := hs.take (A := datR ps) (by repeat constructor)
   replace hs := hs.take (A := sl 54 2 (.slice av ps.length cvv) ps.length (ps.flatMap pcF)) (by repeat constructor)
   replace hs := hs.take (A := cb b9 108 (fdF ((sdS l).1, (sdS l).2.1, lkZ l) (.slice none 0 0) (.slice av ps.length cvv))) (by repeat constructor)
   have hs9 := St.keep [_, _, _, _] _ hs
   refine s_nil (blk_n (then_n ?_))
   exact ⟨_, ⟨_, _, _, rfl, hok9, hpm9, hs9⟩, hf.sub ⟨rfl, rfl, rfl, trivial⟩⟩
  first | simp only [zd1, zd2, zd3, zd4] at hi4 | skip
  have hz : lkZ l = (sdS l).2.2.1 := by unfold lkZ; rw [if_neg (show ¬ (sdS l).1 = 4 by omega)]
  have hok9 : lkOk l = true := by unfold lkOk; rw [hse, decide_eq_false (show ¬ (sdS l).1 = 3 by omega)]; rfl
  have hpm9 : ([] : List Pt).map pcOf = lkP l := by unfold lkP; rw [if_neg (show ¬ (sdS l).1 = 3 by omega)]; rfl
  rw [← hz] at hs
  replace hs := hs.take (A := cb b2 108 (fdF (0, 0, 0) (.slice none 0 0) (.slice none 0 0))) (by repeat constructor)
  replace hs := (hs.emp (A := datR []) (fun _ => trivial)).emp (A := sl 54 2 (.slice none 0 0) ([] : List Pt).length (([] : List Pt).flatMap pcF)) slW0
  replace hs := hs.take (A := cb b9 108 (fdF ((sdS l).1, (sdS l).2.1, lkZ l) (.slice none 0 0) (.slice none 0 0))) (by repeat constructor)
  have hs9 := St.keep [_, _, _, _] _ hs
  refine wp_skip (blk_n (then_n ?_))
  exact ⟨_, ⟨_, _, _, rfl, hok9, hpm9, hs9⟩, hf.sub ⟨rfl, rfl, rfl, trivial⟩⟩
 clear hf hs a
 rintro M a w ⟨av, cvv, ps, rfl, hok, hpm, hs⟩ hf
 have hzb : 0 ≤ lkZ l ∧ lkZ l ≤ (l.length : Int) := by unfold lkZ; split <;> omega
 have hmem := lk_mem hok
 have hpb : ps.length ≤ 16777216 := by have h9 := congrArg List.length hpm; rw [List.length_map] at h9; have h8 := lkP_len hok hl1; omega
 refine wp_seq (wp_region_lit ?_)
 refine s_m hf rfl ?_; clear hf a; intro a hf
 refine s_v hf (x_fieldAddr fo108_0 (hf.eval rfl)) ?_; clear hf a; intro a hf
 refine s_v hf (x_fieldAddr fo37_2 (hf.eval rfl)) ?_; clear hf a; intro a hf
 refine s_r hf (x_load sc3 (hf.eval rfl) (by apply hs.cell <;> repeat constructor)) ?_; clear hf a; intro a hf
 replace hf := hf.now (k := 111) (v' := .int .i64 (lkZ l)) rfl (rfl)
 refine s_v hf (x_slice_hi sl22 (hf.eval rfl) (hf.eval rfl)  (by omega) (by omega)) ?_; clear hf a; intro a hf
 replace hf := hf.now (k := 112) (v' := .slice a1 (l.take (lkZ l).toNat).length c1) rfl (by rw [tkl (by omega)] <;> exact slice_eq rfl (by omega) rfl)
 refine s_do hf rfl (y_appendB (v := .slice none 0 0) (s := l.take (lkZ l).toNat) (hs.emp (slB_nil 5)) sl22 rfl rfl (hf.eval rfl) .k0 (hs.oldB (tk_rd hr1 (by omega))) (by simp; omega) ?_); clear hf hs a; intro v2 w hs hv a hf
 simp only [List.nil_append] at hs
 obtain ⟨g, cg, rfl, hcg⟩ := slB_shape hs
 rw [tkl (show (lkZ l).toNat ≤ l.length by omega)] at hs hf
 refine s_v hf (x_fieldAddr fo108_1 (hf.eval rfl)) ?_; clear hf a; intro a hf
 replace hs := hs.take (A := cb b9 108 (fdF ((sdS l).1, (sdS l).2.1, lkZ l) (.slice none 0 0) (.slice av ps.length cvv))) (by repeat constructor)
 refine s_do0 hf rfl (y_store hs sc22 (hf.eval rfl) (hf.eval rfl) rfl .k0 (by simp [fdF]) ?_); clear hf hs a; intro w hs a hf
 change St _ _ (cb b9 108 (fdF ((sdS l).1, (sdS l).2.1, lkZ l) (.slice g (lkZ l).toNat cg) (.slice av ps.length cvv)) :: _) at hs
 refine s_nil (then_n (wp_seq (wp_seq (wp_region_lit ?_))))
 refine s_v hf (x_fieldAddr fo108_2 (hf.eval rfl)) ?_; clear hf a; intro a hf
 refine s_r hf (x_load sc23 (hf.eval rfl) (by apply hs.cell <;> repeat constructor)) ?_; clear hf a; intro a hf
 refine s_v hf (x_len Tryz.underlying23 (hf.eval rfl)) ?_; clear hf a; intro a hf
 refine s_m hf rfl ?_; clear hf a; intro a hf
 refine s_nil (then_n (wp_block ?_))
 replace hs := hs.take (A := cb b2 108 (fdF (0, 0, 0) (.slice none 0 0) (.slice none 0 0))) (by repeat constructor)
 replace hs := hs.take (A := datR ps) (by repeat constructor)
 replace hs := hs.take (A := sl 54 2 (.slice av ps.length cvv) ps.length (ps.flatMap pcF)) (by repeat constructor)
 replace hs := hs.take (A := cb b9 108 (fdF ((sdS l).1, (sdS l).2.1, lkZ l) (.slice g (lkZ l).toNat cg) (.slice av ps.length cvv))) (by repeat constructor)
 replace hs := hs.take (A := slB 5 (.slice g (lkZ l).toNat cg) (l.take (lkZ l).toNat)) (by repeat constructor)
 replace hs := St.keep [_, _, _, _, _] _ hs
 refine c_loop (L0 := [(2, _), (9, _), (116, _), (117, _)]) (fun M w m => ∃ i : Nat, M = [(118, .int .i64 (i : Int))] ∧ ps.length - i = m ∧ i ≤ ps.length ∧ St ⟨w0, None_⟩ w [slB 5 (.slice g (lkZ l).toNat cg) (putPs (l.take (lkZ l).toNat) ((ps.map pcOf).take i)), cb b9 108 (fdF ((sdS l).1, (sdS l).2.1, lkZ l) (.slice g (lkZ l).toNat cg) (.slice av ps.length cvv)), sl 54 2 (.slice av ps.length cvv) ps.length (ps.flatMap pcF), datR ps, cb b2 108 (fdF (0, 0, 0) (.slice none 0 0) (.slice none 0 0))]) (M0 := _) (⟨0, rfl, rfl, Nat.zero_le _, by rw [List.take_zero, putPsN]; exact hs⟩) (hf.sub ⟨rfl, rfl, rfl, rfl, rfl, trivial⟩) ?_
 clear hf hs a
 rintro M m a w ⟨i, rfl, rfl, hi, hs⟩ hf
 refine wp_seq (wp_region_lit ?_)
 refine s_v hf (x_bin (hf.eval rfl) (hf.eval rfl) (r_lt _ _ _ _)) ?_; clear hf a; intro a hf
 refine s_nil (then_n (wp_seq ?_))
 refine c_cond hf rfl (fun hi6 => ?_) (fun hi6 => ?_)
 ·simp only [zd1, zd2, zd3, zd4, zd5, zd6, zd7] at hi6
  have hlt : i < ps.length := by omega
  have hpl : i < (ps.map pcOf).length := by simpa using hlt
  obtain ⟨hq1, hq2⟩ := hmem (pcOf ps[i]) (by rw [← hpm]; exact List.mem_map_of_mem (List.getElem_mem hlt))
  have hq1 : 1 ≤ ps[i].2.2.length := hq1
  have hq2 : ((ps[i].1 + ps[i].2.2.length : Nat) : Int) ≤ lkZ l := hq2
  have hpil : (putPs (l.take (lkZ l).toNat) ((ps.map pcOf).take i)).length = (lkZ l).toNat := by rw [putPs_len, tkl (by omega)]
  obtain ⟨gb, gc, hge, _⟩ := slB_block hs (by rw [hpil]; omega)
  injection hge with hge1 hge2 hge3
  subst hge1
  replace hs := hs.take (A := sl 54 2 (.slice av ps.length cvv) ps.length (ps.flatMap pcF)) (by repeat constructor)
  obtain ⟨av, rfl⟩ := sl_some hs (by omega)
  have hpd := hs.datR (by repeat constructor) hlt
  obtain ⟨pa, pk, hpv⟩ := hpd.shape
  refine wp_skip (then_n (wp_seq (wp_block (wp_seq (wp_region_lit ?_)))))
  refine s_v hf (x_indexAddr sl23 (hf.eval rfl) (hf.eval rfl) (by omega) (by omega)) ?_; clear hf a; intro a hf
  refine s_r hf (x_loadS (f := pcF) ag54 (fun _ => rfl) (hs.rd (A := sl 54 2 (.slice (some av) ps.length cvv) ps.length (ps.flatMap pcF)) (by repeat constructor) fun h hh => sl_rd hh) (hf.eval rfl) (by rw [Int.toNat_natCast]; exact hlt)) ?_; clear hf a; intro a hf
  replace hf := hf.now (k := 121) (v' := .agg (pcF ps[i]).toArray) rfl (rfl)
  refine s_do hf rfl (y_alloc hs Tryz.zeroValue54 ?_); clear hf hs a; intro b13 w hs a hf
  change St _ _ (cb b13 54 [.int .i64 0, .slice none 0 0] :: _) at hs
  refine s_do0 hf rfl (y_storeAgg (cs := pcF ps[i]) hs (n := 2) (by kernel_rfl) (hf.eval rfl) (hf.eval rfl) (pcF_one hpd) rfl rfl .k0 ?_); clear hf hs a; intro w hs a hf
  refine s_nil (then_n ?_)
  refine c_draw hs (fun _ => True) [.held, .read, .held, .read, .held, .held, .read, .fin] (by kernel_rfl) (by kernel_rfl) (fun _ _ _ => trivial) ?_
  clear hs; intro w hs hC hw
  refine m_held hf rfl (fun w' _ => x_fieldAddr fo108_1 (hf.eval rfl) w') ?_; clear hf a; intro a hf
  replace hs := hs.take (A := cb b9 108 (fdF ((sdS l).1, (sdS l).2.1, lkZ l) (.slice (some ⟨gb, 0, none⟩) (lkZ l).toNat cg) (.slice (some av) ps.length cvv))) (by repeat constructor)
  refine m_read hf rfl (x_load sc22 (hf.eval rfl) (by apply hs.cell <;> repeat constructor)) ?_; clear hf a; intro a hf
  refine m_held hf rfl (fun w' _ => x_fieldAddr fo54_0 (hf.eval rfl) w') ?_; clear hf a; intro a hf
  refine m_read hf rfl (x_load sc3 (hf.eval rfl) (by apply hs.cell <;> repeat constructor)) ?_; clear hf a; intro a hf
  refine m_held hf rfl (fun w' _ => x_slice_lo sl22 (hf.eval rfl) (hf.eval rfl)  (by omega) (by omega) w') ?_; clear hf a; intro a hf
  refine m_held hf rfl (fun w' _ => x_fieldAddr fo54_1 (hf.eval rfl) w') ?_; clear hf a; intro a hf
  refine m_read hf rfl (x_load sc22 (hf.eval rfl) (by apply hs.cell <;> repeat constructor)) ?_; clear hf a; intro a hf
  replace hf := hf.now (k := 128) (v' := .slice pa ps[i].2.2.length pk) rfl (hpv)
  refine m_fin hf rfl (y_copyAt (T := 5) (n := (lkZ l).toNat) (o := ps[i].1) (s := ps[i].2.2) hs sl22 (hf.eval rfl) rfl (hf.eval rfl) (by repeat constructor) (by rw [← hpv]; exact hs.datR (by repeat constructor) hlt) (by omega) hpil ?_); clear hf hs a; intro w hs; intro a hf
  rw [show min ps[i].2.2.length ((lkZ l).toNat - ps[i].1) = ps[i].2.2.length by omega, List.take_length] at hs
  have hsn : putPs (l.take (lkZ l).toNat) ((ps.map pcOf).take (i + 1)) = spl (putPs (l.take (lkZ l).toNat) ((ps.map pcOf).take i)) ps[i].1 ps[i].2.2 := by
    rw [List.take_succ_eq_append_getElem hpl, putPs_snoc, List.getElem_map]
    exact putP_fit (by rw [hpil]; omega) (by omega)
  rw [← hsn] at hs
  replace hs := hs.take (A := cb b2 108 (fdF (0, 0, 0) (.slice none 0 0) (.slice none 0 0))) (by repeat constructor)
  replace hs := hs.take (A := datR ps) (by repeat constructor)
  replace hs := hs.take (A := sl 54 2 (.slice (some av) ps.length cvv) ps.length (ps.flatMap pcF)) (by repeat constructor)
  replace hs := hs.take (A := cb b9 108 (fdF ((sdS l).1, (sdS l).2.1, lkZ l) (.slice (some ⟨gb, 0, none⟩) (lkZ l).toNat cg) (.slice (some av) ps.length cvv))) (by repeat constructor)
  replace hs : St _ _ (slB 5 (.slice (some ⟨gb, 0, none⟩) (lkZ l).toNat cg) (putPs (l.take (lkZ l).toNat) ((ps.map pcOf).take (i + 1))) :: _) := hs.take (A := slB 5 (.slice (some ⟨gb, 0, none⟩) (lkZ l).toNat cg) (putPs (l.take (lkZ l).toNat) ((ps.map pcOf).take (i + 1)))) (by repeat constructor)
  replace hs := St.keep [_, _, _, _, _] _ hs
  refine blk_n (then_n (wp_region_lit ?_))
  refine s_v hf (x_bin (hf.eval rfl) (hf.eval rfl) (r_addi _ (by omega) (by omega))) ?_; clear hf a; intro a hf
  refine s_m hf rfl ?_; clear hf a; intro a hf
  refine s_nil ?_
  exact ⟨_, _, ⟨i + 1, rfl, rfl, by omega, hs⟩, by omega, hf.sub ⟨rfl, rfl, rfl, rfl, rfl, trivial⟩⟩
 simp only [zd1, zd2, zd3, zd4, zd5, zd6, zd7] at hi6
 obtain rfl : i = ps.length := by omega
 rw [show (ps.map pcOf).take ps.length = lkP l by rw [← hpm]; exact List.take_of_length_le (by simp)] at hs
 refine wp_exit (then_x (then_x (blk_x (then_n (wp_seq (wp_region_lit ?_))))))
 replace hs := hs.take (A := cb b9 108 (fdF ((sdS l).1, (sdS l).2.1, lkZ l) (.slice g (lkZ l).toNat cg) (.slice av ps.length cvv))) (by repeat constructor)
 refine s_r hf (x_loadBlk hs ag108 (hf.eval rfl) rfl .k0) ?_; clear hf a; intro a hf
 replace hs := hs.take (A := cb b2 108 (fdF (0, 0, 0) (.slice none 0 0) (.slice none 0 0))) (by repeat constructor)
 refine s_do0 hf rfl (y_storeAgg (cs := fdF ((sdS l).1, (sdS l).2.1, lkZ l) (.slice g (lkZ l).toNat cg) (.slice av ps.length cvv)) hs (n := 5) (by kernel_rfl) (hf.eval rfl) (hf.eval rfl) (by simp [Value.oneCell', fdF]) rfl rfl .k0 ?_); clear hf hs a; intro w hs a hf
 refine s_a hf rfl ?_; clear hf a; intro a hf
 refine s_nil (then_n ?_)
 refine wp_ret ?_
 refine r_2c hf Tryz.results93 rfl rfl hs ag108 rfl .k0 ?_
 rw [hok]
 replace hs := hs.take (A := datR ps) (by repeat constructor)
 replace hs := hs.take (A := sl 54 2 (.slice av ps.length cvv) ps.length (ps.flatMap pcF)) (by repeat constructor)
 replace hs := hs.take (A := slB 5 (.slice g (lkZ l).toNat cg) (putPs (l.take (lkZ l).toNat) (lkP l))) (by repeat constructor)
 have hcl : (putPs (l.take (lkZ l).toNat) (lkP l)).length = (lkZ l).toNat := by rw [putPs_len, tkl (by omega)]
 exact ⟨((sdS l).1, (sdS l).2.1, lkZ l), .slice g (lkZ l).toNat cg, (.slice av ps.length cvv), _, ps, rfl, fun _ => ⟨rfl, rfl, by rw [hcl]; exact ⟨g, cg, rfl⟩, hpm⟩, St.keep [_, _, _] _ hs⟩
end Go.Proofs.YtehakfbfjpolfaaGreatDoor

namespace Go.Proofs.YtehakfbfjpolfaaGreatDoor
open Go Vw
theorem lk_blank {l : List UInt8} (h : 1024 ≤ zt l) : lkV l = ((1, 0, ((l.length - zt l / 1024 * 1024 : Nat) : Int)), l.take (l.length - zt l / 1024 * 1024)) := by unfold lkV; rw [if_pos h]
attribute [local irreducible] Vw.sl Vw.sdS Vw.bodyS Vw.zt Vw.putPs Vw.seOk Vw.bkOk Vw.lkZ Vw.lkP Vw.lkOk Vw.lkV
theorem looked_spec (w0 : World) (hT : Tab 0 (hp w0)) (a1 : Option Addr) (c1 : Nat) (l : List UInt8) (hr1 : RdB (hp w0) (.slice a1 l.length c1) l) (hl1 : l.length ≤ 16777216) : Calls Tryz.prog 60 #[.slice a1 l.length c1] w0 fun e w' => ∃ (g : Option Addr) (cg : Nat) (bv : Value) (ps : List Pt), e = .returned (.agg (fdF (lkV l).1 (.slice g (lkV l).2.length cg) bv).toArray) ∧ (zt l < 1024 → lkOk l = true → ps.map pcOf = lkP l) ∧ St ⟨w0, None_⟩ w' [slB 5 (.slice g (lkV l).2.length cg) (lkV l).2, sl 54 2 bv ps.length (ps.flatMap pcF), datR ps] := by
 have hs := St.start w0 None_
 have hcp := RdB.cap hr1
 have hzl := zt_le l
 refine c_enter (N := 37) Tryz.func60 rfl Tryz.ntmps60 (by simp) ?_
 intro a hf
 refine wp_seq (wp_region_lit ?_)
 refine s_do hf rfl (y_alloc hs Tryz.zeroValue108 ?_); clear hf hs a; intro b2 w hs a hf
 change St _ _ (cb b2 108 (fdF (0, 0, 0) (.slice none 0 0) (.slice none 0 0)) :: _) at hs
 refine s_nil (then_n (wp_seq (wp_seq (wp_region_lit ?_))))
 refine s_m hf rfl ?_; clear hf a; intro a hf
 refine s_do hf rfl (y_call (hf.eval rfl) (hf.evals rfl) Tryz.call92 ((tail_spec _ _ _ l (hs.oldB hr1) (by omega)).mono ?_))
 rintro e w1 ⟨rfl, hk⟩
 replace hs := hs.ext hk
 refine ⟨_, rfl, ?_⟩; clear hf a; intro a hf
 refine s_a hf rfl ?_; clear hf a; intro a hf
 refine s_nil (then_n (wp_seq (wp_region_lit ?_)))
 refine s_m hf rfl ?_; clear hf a; intro a hf
 refine s_v hf (x_bin (hf.eval rfl) (hf.eval rfl) (r_ge _ _ _ _)) ?_; clear hf a; intro a hf
 refine s_nil (then_n ?_)
 refine c_cond hf rfl (fun hi0 => ?_) (fun hi0 => ?_)
 ·first | simp only [zd1, zd2, zd3, zd4] at hi0 | skip
  have hsz : zt l / 1024 * 1024 ≤ l.length := by omega
  refine wp_seq (wp_region_lit ?_)
  refine s_m hf rfl ?_; clear hf a; intro a hf
  refine s_v hf (x_len Tryz.underlying22 (hf.eval rfl)) ?_; clear hf a; intro a hf
  refine s_m hf rfl ?_; clear hf a; intro a hf
  refine s_v hf (x_bin (hf.eval rfl) (hf.eval rfl) (r_quon _ (Int.natCast_nonneg _) (by decide) (by omega))) ?_; clear hf a; intro a hf
  replace hf := hf.now (k := 14) (v' := .int .i64 ((zt l / 1024 : Nat) : Int)) rfl (by congr 1)
  refine s_v hf (x_bin (hf.eval rfl) (hf.eval rfl) (r_muli _ (by omega) (by omega))) ?_; clear hf a; intro a hf
  refine s_v hf (x_bin (hf.eval rfl) (hf.eval rfl) (r_subi _ (by omega) (by omega))) ?_; clear hf a; intro a hf
  replace hf := hf.now (k := 16) (v' := .int .i64 (((l.length - zt l / 1024 * 1024) : Nat) : Int)) rfl (by congr 1 <;> omega)
  refine s_a hf rfl ?_; clear hf a; intro a hf
  refine s_nil (then_n (wp_seq (wp_region_lit ?_)))
  refine s_m hf rfl ?_; clear hf a; intro a hf
  refine s_r hf (x_build (v := .agg (vdF (1, 0, (((l.length - zt l / 1024 * 1024) : Nat) : Int))).toArray) (hf.parts rfl) (fun w => by kernel_rfl) _) ?_; clear hf a; intro a hf
  refine s_m hf rfl ?_; clear hf a; intro a hf
  refine s_m hf rfl ?_; clear hf a; intro a hf
  refine s_v hf (x_slice_hi sl22 (hf.eval rfl) (hf.eval rfl)  (by omega) (by omega)) ?_; clear hf a; intro a hf
  replace hf := hf.now (k := 21) (v' := .slice a1 (l.take (l.length - zt l / 1024 * 1024)).length c1) rfl (by rw [tkl (by omega)] <;> exact slice_eq rfl (by omega) rfl)
  refine s_do hf rfl (y_appendB (v := .slice none 0 0) (s := l.take (l.length - zt l / 1024 * 1024)) (hs.emp (slB_nil 5)) sl22 rfl rfl (hf.eval rfl) .k0 (hs.oldB (tk_rd hr1 (by omega))) (by simp; omega) ?_); clear hf hs a; intro v2 w hs hv a hf
  simp only [List.nil_append] at hs
  obtain ⟨g, cg, rfl, hcg⟩ := slB_shape hs
  refine s_r hf (x_build (v := .agg (fdF (1, 0, (((l.length - zt l / 1024 * 1024) : Nat) : Int)) (.slice g (l.take (l.length - zt l / 1024 * 1024)).length cg) (.slice none 0 0)).toArray) (hf.parts rfl) (fun w => by kernel_rfl) _) ?_; clear hf a; intro a hf
  replace hs := hs.take (A := cb b2 108 (fdF (0, 0, 0) (.slice none 0 0) (.slice none 0 0))) (by repeat constructor)
  refine s_do0 hf rfl (y_storeAgg (cs := fdF (1, 0, (((l.length - zt l / 1024 * 1024) : Nat) : Int)) (.slice g (l.take (l.length - zt l / 1024 * 1024)).length cg) (.slice none 0 0)) hs (n := 5) (by kernel_rfl) (hf.eval rfl) (hf.eval rfl) (by simp [Value.oneCell', fdF]) rfl rfl .k0 ?_); clear hf hs a; intro w hs a hf
  refine s_nil (then_n ?_)
  refine wp_ret ?_
  refine then_r ?_
  refine r_1c hf Tryz.results60 rfl hs ag108 rfl .k0 ?_
  have hv := lk_blank (l := l) (by omega)
  replace hs := (hs.emp (A := datR []) (fun _ => trivial)).emp (A := sl 54 2 (.slice none 0 0) ([] : List Pt).length (([] : List Pt).flatMap pcF)) slW0
  rw [hv]
  replace hs := hs.take (A := slB 5 (.slice g (l.take (l.length - zt l / 1024 * 1024)).length cg) (l.take (l.length - zt l / 1024 * 1024))) (by repeat constructor)
  exact ⟨g, cg, _, [], rfl, fun h1 h2 => absurd h1 (by omega), St.keep [_, _, _] _ hs⟩
 first | simp only [zd1, zd2, zd3, zd4] at hi0 | skip
 refine wp_skip (then_n (wp_seq (wp_seq (wp_region_lit ?_))))
 refine s_m hf rfl ?_; clear hf a; intro a hf
 refine s_do hf rfl (y_call (hf.eval rfl) (hf.evals rfl) Tryz.call93 ((sealed_spec _ (hT.kept hs.kept) _ _ l (hs.oldB hr1) hl1).mono ?_))
 rintro e w1 ⟨sv, cv, bv, C, ps, rfl, hsv, hj⟩
 replace hs := hs.join hj
 simp only [List.cons_append, List.nil_append] at hs
 obtain ⟨g5, cg5, rfl, hcg5⟩ := slB_shape hs
 replace hs := hs.take (A := sl 54 2 bv ps.length (ps.flatMap pcF)) (by repeat constructor)
 obtain ⟨a5, c5, rfl⟩ := sl_shape hs
 refine ⟨_, rfl, ?_⟩; clear hf a; intro a hf
 refine s_m hf rfl ?_; clear hf a; intro a hf
 refine s_v hf (x_extract (hf.eval rfl) rfl) ?_; clear hf a; intro a hf
 refine s_v hf (x_extract (hf.eval rfl) rfl) ?_; clear hf a; intro a hf
 refine s_do hf rfl (y_alloc hs Tryz.zeroValue108 ?_); clear hf hs a; intro b5 w hs a hf
 change St _ _ (cb b5 108 (fdF (0, 0, 0) (.slice none 0 0) (.slice none 0 0)) :: _) at hs
 refine s_do0 hf rfl (y_storeAgg (cs := fdF sv (.slice g5 C.length cg5) (.slice a5 ps.length c5)) hs (n := 5) (by kernel_rfl) (hf.eval rfl) (hf.eval rfl) (by simp [Value.oneCell', fdF]) rfl rfl .k0 ?_); clear hf hs a; intro w hs a hf
 refine s_a hf rfl ?_; clear hf a; intro a hf
 refine s_nil (then_n (wp_seq (wp_region_lit ?_)))
 refine s_m hf rfl ?_; clear hf a; intro a hf
 refine s_nil (then_n ?_)
 refine c_cond hf rfl (fun hi1 => ?_) (fun hi1 => ?_)
 ·first | simp only [zd1, zd2, zd3, zd4] at hi1 | skip
  refine wp_seq (wp_region_lit ?_)
  replace hs := hs.take (A := cb b5 108 (fdF sv (.slice g5 C.length cg5) (.slice a5 ps.length c5))) (by repeat constructor)
  refine s_r hf (x_loadBlk hs ag108 (hf.eval rfl) rfl .k0) ?_; clear hf a; intro a hf
  replace hs := hs.take (A := cb b2 108 (fdF (0, 0, 0) (.slice none 0 0) (.slice none 0 0))) (by repeat constructor)
  refine s_do0 hf rfl (y_storeAgg (cs := fdF sv (.slice g5 C.length cg5) (.slice a5 ps.length c5)) hs (n := 5) (by kernel_rfl) (hf.eval rfl) (hf.eval rfl) (by simp [Value.oneCell', fdF]) rfl rfl .k0 ?_); clear hf hs a; intro w hs a hf
  refine s_nil (then_n ?_)
  refine wp_ret ?_
  refine then_r ?_
  refine r_1c hf Tryz.results60 rfl hs ag108 rfl .k0 ?_
  obtain ⟨hq1, hq2, _, hq4⟩ := hsv hi1
  have hv := lk_of (show zt l < 1024 by omega) hi1
  rw [← hq1, ← hq2] at hv
  rw [hv]
  replace hs := hs.take (A := datR ps) (by repeat constructor)
  replace hs := hs.take (A := sl 54 2 (.slice a5 ps.length c5) ps.length (ps.flatMap pcF)) (by repeat constructor)
  replace hs := hs.take (A := slB 5 (.slice g5 C.length cg5) C) (by repeat constructor)
  exact ⟨g5, cg5, _, ps, rfl, fun _ _ => hq4, St.keep [_, _, _] _ hs⟩
 first | simp only [zd1, zd2, zd3, zd4] at hi1 | skip
 refine wp_skip (then_n (wp_seq (wp_region_lit ?_)))
 refine s_m hf rfl ?_; clear hf a; intro a hf
 refine s_v hf (x_len Tryz.underlying22 (hf.eval rfl)) ?_; clear hf a; intro a hf
 refine s_r hf (x_build (v := .agg (vdF (0, 0, (l.length : Int))).toArray) (hf.parts rfl) (fun w => by kernel_rfl) _) ?_; clear hf a; intro a hf
 refine s_m hf rfl ?_; clear hf a; intro a hf
 refine s_do hf rfl (y_appendB (v := .slice none 0 0) (s := l) (hs.emp (slB_nil 5)) sl22 rfl rfl (hf.eval rfl) .k0 (hs.oldB (hr1)) (by simp; omega) ?_); clear hf hs a; intro v2 w hs hv a hf
 simp only [List.nil_append] at hs
 obtain ⟨g, cg, rfl, hcg⟩ := slB_shape hs
 refine s_r hf (x_build (v := .agg (fdF (0, 0, (l.length : Int)) (.slice g (l).length cg) (.slice none 0 0)).toArray) (hf.parts rfl) (fun w => by kernel_rfl) _) ?_; clear hf a; intro a hf
 replace hs := hs.take (A := cb b2 108 (fdF (0, 0, 0) (.slice none 0 0) (.slice none 0 0))) (by repeat constructor)
 refine s_do0 hf rfl (y_storeAgg (cs := fdF (0, 0, (l.length : Int)) (.slice g (l).length cg) (.slice none 0 0)) hs (n := 5) (by kernel_rfl) (hf.eval rfl) (hf.eval rfl) (by simp [Value.oneCell', fdF]) rfl rfl .k0 ?_); clear hf hs a; intro w hs a hf
 refine s_nil (then_n ?_)
 refine wp_ret ?_
 refine r_1c hf Tryz.results60 rfl hs ag108 rfl .k0 ?_
 have hv := lk_no (show zt l < 1024 by omega) hi1
 replace hs := (hs.emp (A := datR []) (fun _ => trivial)).emp (A := sl 54 2 (.slice none 0 0) ([] : List Pt).length (([] : List Pt).flatMap pcF)) slW0
 rw [hv]
 replace hs := hs.take (A := slB 5 (.slice g (l).length cg) l) (by repeat constructor)
 exact ⟨g, cg, _, [], rfl, fun h1 h2 => (by rw [hi1] at h2; cases h2), St.keep [_, _, _] _ hs⟩
end Go.Proofs.YtehakfbfjpolfaaGreatDoor

namespace Go.Proofs.YtehakfbfjpolfaaGreatDoor
open Go Vw
theorem vd_fd {v : Int × Int × Int} {cv bv u : Value} {j : Nat} (h : (vdF v)[j]? = some u) : (fdF v cv bv)[j]? = some u := by
  have e : fdF v cv bv = vdF v ++ [cv, bv] := rfl
  have hj : j < (vdF v).length := (List.getElem?_eq_some_iff.1 h).1
  rw [e, List.getElem?_append_left hj]
  exact h
attribute [local irreducible] Vw.sl Vw.sdS Vw.bodyS Vw.zt Vw.putPs Vw.seOk Vw.bkOk Vw.lkZ Vw.lkP Vw.lkOk Vw.lkV
theorem look_spec (w0 : World) (hT : Tab 0 (hp w0)) (a1 : Option Addr) (c1 : Nat) (l : List UInt8) (hr1 : RdB (hp w0) (.slice a1 l.length c1) l) (hl1 : l.length ≤ 16777216) : Calls Tryz.prog 34 #[.slice a1 l.length c1] w0 fun e w' => ∃ a c, e = .returned (.tuple #[.agg (vdF (lkV l).1).toArray, .slice a (lkV l).2.length c]) ∧ St ⟨w0, None_⟩ w' [slB 5 (.slice a (lkV l).2.length c) (lkV l).2] := by
 have hs := St.start w0 None_
 refine c_enter (N := 11) Tryz.func34 rfl Tryz.ntmps34 (by simp) ?_
 intro a hf
 refine wp_seq (wp_region_lit ?_)
 refine s_do hf rfl (y_alloc hs Tryz.zeroValue37 ?_); clear hf hs a; intro b2 w hs a hf
 change St _ _ (cb b2 37 (vdF (0, 0, 0)) :: _) at hs
 refine s_a hf rfl ?_; clear hf a; intro a hf
 refine s_nil (then_n (wp_seq (wp_region_lit ?_)))
 refine s_m hf rfl ?_; clear hf a; intro a hf
 refine s_do hf rfl (y_call (hf.eval rfl) (hf.evals rfl) Tryz.call60 ((looked_spec _ (hT.kept hs.kept) _ _ l (hs.oldB hr1) hl1).mono ?_))
 rintro e w1 ⟨g, cg, bv, ps, rfl, _, hj⟩
 replace hs := hs.join hj
 simp only [List.cons_append, List.nil_append] at hs
 replace hs := hs.take (A := sl 54 2 bv ps.length (ps.flatMap pcF)) (by repeat constructor)
 obtain ⟨av, cvv, rfl⟩ := sl_shape hs
 refine ⟨_, rfl, ?_⟩; clear hf a; intro a hf
 refine s_do hf rfl (y_alloc hs Tryz.zeroValue108 ?_); clear hf hs a; intro b4 w hs a hf
 change St _ _ (cb b4 108 (fdF (0, 0, 0) (.slice none 0 0) (.slice none 0 0)) :: _) at hs
 refine s_do0 hf rfl (y_storeAgg (cs := fdF (lkV l).1 (.slice g (lkV l).2.length cg) (.slice av ps.length cvv)) hs (n := 5) (by kernel_rfl) (hf.eval rfl) (hf.eval rfl) (by simp [Value.oneCell', fdF]) rfl rfl .k0 ?_); clear hf hs a; intro w hs a hf
 refine s_nil (then_n (wp_seq ?_))
 replace hs := hs.take (A := cb b4 108 (fdF (lkV l).1 (.slice g (lkV l).2.length cg) (.slice av ps.length cvv))) (by repeat constructor)
 refine c_draw hs (fun w' => ∀ (j : Nat) (v : Value), (fdF (lkV l).1 (.slice g (lkV l).2.length cg) (.slice av ps.length cvv))[j]? = some v → w'.cell? ((⟨b4, 0, none⟩ : Addr).add j) = some v) [.held, .held, .held, .held, .eff, .held] (by kernel_rfl) (by kernel_rfl) (fun _ _ hs => cells_of hs (by repeat constructor)) ?_
 clear hs; intro w hs hC hw
 refine m_held hf rfl (fun w' _ => x_fieldAddr fo108_0 (hf.eval rfl) w') ?_; clear hf a; intro a hf
 refine m_held hf rfl (fun w' hc => x_loadAgg ag37 (hf.eval rfl) (vs := vdF (lkV l).1) rfl (fun j v hv => hc j v (vd_fd hv))) ?_; clear hf a; intro a hf
 refine m_held hf rfl (fun w' _ => x_fieldAddr fo108_1 (hf.eval rfl) w') ?_; clear hf a; intro a hf
 refine m_held hf rfl (fun w' hc => x_load sc22 (hf.eval rfl) (hc 3 _ rfl)) ?_; clear hf a; intro a hf
 replace hs := hs.take (A := cb b2 37 (vdF (0, 0, 0))) (by repeat constructor)
 refine m_eff0 hf rfl (y_storeAgg (cs := vdF (lkV l).1) hs (n := 3) (by kernel_rfl) (hf.eval rfl) (hf.eval rfl) (by simp [Value.oneCell', vdF]) rfl rfl .k0 ?_); clear hf hs a; intro w hs; refine ⟨cells_of hs (by repeat constructor), ?_⟩; intro a hf
 refine m_held hf rfl (fun w' _ => x_assign (hf.eval rfl) w') ?_; clear hf a; intro a hf
 refine m_nil ?_
 refine then_n ?_
 refine wp_ret ?_
 refine r_2c hf Tryz.results34 rfl rfl hs ag37 rfl (by repeat constructor) ?_
 replace hs := hs.take (A := slB 5 (.slice g (lkV l).2.length cg) (lkV l).2) (by repeat constructor)
 exact ⟨g, cg, rfl, St.keep [_] _ hs⟩
theorem quiet_spec (w0 : World) (hT : Tab 0 (hp w0)) (a1 : Option Addr) (c1 : Nat) (l : List UInt8) (hr1 : RdB (hp w0) (.slice a1 l.length c1) l) (hl1 : l.length ≤ 16777216) : Calls Tryz.prog 68 #[.slice a1 l.length c1] w0 fun e w' => e = .returned (.bool (decide ((lkV l).1.1 = 0))) ∧ Kept w0 w' None_ := by
 have hs := St.start w0 None_
 refine c_enter (N := 13) Tryz.func68 rfl Tryz.ntmps68 (by simp) ?_
 intro a hf
 refine wp_seq (wp_region_lit ?_)
 refine s_a hf rfl ?_; clear hf a; intro a hf
 refine s_nil (then_n (wp_seq (wp_region_lit ?_)))
 refine s_m hf rfl ?_; clear hf a; intro a hf
 refine s_do hf rfl (y_call (hf.eval rfl) (hf.evals rfl) Tryz.call34 ((look_spec _ (hT.kept hs.kept) _ _ l (hs.oldB hr1) hl1).mono ?_))
 rintro e w1 ⟨g, cg, rfl, hj⟩
 replace hs := hs.join hj
 simp only [List.cons_append, List.nil_append] at hs
 refine ⟨_, rfl, ?_⟩; clear hf a; intro a hf
 refine s_m hf rfl ?_; clear hf a; intro a hf
 refine s_v hf (x_extract (hf.eval rfl) rfl) ?_; clear hf a; intro a hf
 refine s_v hf (x_extract (hf.eval rfl) rfl) ?_; clear hf a; intro a hf
 refine s_do hf rfl (y_alloc hs Tryz.zeroValue37 ?_); clear hf hs a; intro b3 w hs a hf
 change St _ _ (cb b3 37 (vdF (0, 0, 0)) :: _) at hs
 refine s_do0 hf rfl (y_storeAgg (cs := vdF (lkV l).1) hs (n := 3) (by kernel_rfl) (hf.eval rfl) (hf.eval rfl) (by simp [Value.oneCell', vdF]) rfl rfl .k0 ?_); clear hf hs a; intro w hs a hf
 refine s_a hf rfl ?_; clear hf a; intro a hf
 refine s_nil (then_n (wp_seq (wp_region_lit ?_)))
 refine s_v hf (x_fieldAddr fo37_0 (hf.eval rfl)) ?_; clear hf a; intro a hf
 replace hs := hs.take (A := cb b3 37 (vdF (lkV l).1)) (by repeat constructor)
 refine s_r hf (x_load sc3 (hf.eval rfl) (hs.cell (k := 0) .k0 rfl)) ?_; clear hf a; intro a hf
 refine s_v hf (x_bin (hf.eval rfl) (hf.eval rfl) (r_eq _ _ _ _)) ?_; clear hf a; intro a hf
 refine s_a hf rfl ?_; clear hf a; intro a hf
 refine s_nil (then_n ?_)
 refine wp_ret ?_
 refine r_1 hf Tryz.results68 rfl ?_
 exact ⟨rfl, hs.kept⟩
theorem rquiet_spec (w0 : World) (a1 : Option Addr) (c1 : Nat) (l : List UInt8) (hr1 : RdB (hp w0) (.slice a1 l.length c1) l) (hl1 : l.length ≤ 16777216) : Calls Tryz.prog 35 #[.slice a1 l.length c1] w0 fun e w' => e = .returned (.bool (decide ((lkV l).1.1 = 0))) ∧ Kept w0 w' None_ := by
 have hs := St.start w0 None_
 refine c_enter (N := 13) Tryz.func35 rfl Tryz.ntmps35 (by simp) ?_
 intro a hf
 refine wp_seq (wp_region_lit ?_)
 refine s_a hf rfl ?_; clear hf a; intro a hf
 refine s_nil (then_n (wp_seq (wp_region_lit ?_)))
 refine s_m hf rfl ?_; clear hf a; intro a hf
 refine s_do hf rfl (y_call (hf.eval rfl) (hf.evals rfl) Tryz.call62 ((rlook_spec _ _ _ l (hs.oldB hr1) hl1).mono ?_))
 rintro e w1 ⟨g, cg, rfl, hj⟩
 replace hs := hs.join hj
 simp only [List.cons_append, List.nil_append] at hs
 refine ⟨_, rfl, ?_⟩; clear hf a; intro a hf
 refine s_m hf rfl ?_; clear hf a; intro a hf
 refine s_v hf (x_extract (hf.eval rfl) rfl) ?_; clear hf a; intro a hf
 refine s_v hf (x_extract (hf.eval rfl) rfl) ?_; clear hf a; intro a hf
 refine s_do hf rfl (y_alloc hs Tryz.zeroValue37 ?_); clear hf hs a; intro b3 w hs a hf
 change St _ _ (cb b3 37 (vdF (0, 0, 0)) :: _) at hs
 refine s_do0 hf rfl (y_storeAgg (cs := vdF (lkV l).1) hs (n := 3) (by kernel_rfl) (hf.eval rfl) (hf.eval rfl) (by simp [Value.oneCell', vdF]) rfl rfl .k0 ?_); clear hf hs a; intro w hs a hf
 refine s_a hf rfl ?_; clear hf a; intro a hf
 refine s_nil (then_n (wp_seq (wp_region_lit ?_)))
 refine s_v hf (x_fieldAddr fo37_0 (hf.eval rfl)) ?_; clear hf a; intro a hf
 replace hs := hs.take (A := cb b3 37 (vdF (lkV l).1)) (by repeat constructor)
 refine s_r hf (x_load sc3 (hf.eval rfl) (hs.cell (k := 0) .k0 rfl)) ?_; clear hf a; intro a hf
 refine s_v hf (x_bin (hf.eval rfl) (hf.eval rfl) (r_eq _ _ _ _)) ?_; clear hf a; intro a hf
 refine s_a hf rfl ?_; clear hf a; intro a hf
 refine s_nil (then_n ?_)
 refine wp_ret ?_
 refine r_1 hf Tryz.results35 rfl ?_
 exact ⟨rfl, hs.kept⟩
end Go.Proofs.YtehakfbfjpolfaaGreatDoor

namespace Go.Proofs.YtehakfbfjpolfaaGreatDoor
open Go Vw
theorem St.cut {σ : Sig} {w : World} : ∀ (A L : List Asrt) {R : List Asrt}, St σ w (A ++ (L ++ R)) → St σ w (A ++ R)
  | A, [], _, h => h
  | A, x :: L, R, h => by
    have tk : ∀ (A : List Asrt), Take x (A ++ x :: (L ++ R)) (A ++ (L ++ R)) := fun A => by
      induction A with
      | nil => exact .k0
      | cons y A ih => exact .there _ ih
    exact St.cut A L (h.lose (tk A))
theorem St.mid {σ : Sig} {w : World} {A : Asrt} : ∀ (L : List Asrt) {R : List Asrt}, St σ w (A :: (L ++ R)) → St σ w (A :: R)
  | [], _, h => h
  | _ :: L, _, h => St.mid L ((h.take .k1).drop)
def vA : Value → Option Addr
  | .slice a _ _ => a
  | _ => none
def vC : Value → Nat
  | .slice _ _ c => c
  | _ => 0
def toW (p : Pt) : Wr := ((p.1 : Int), vA p.2.1, vC p.2.1, p.2.2)
def recV (s : DS) : (Int × Int × Int) × Int := if s.dead = true then ((0, 0, 0), 12) else if (runS s (opsR s.now)).1 ≠ 0 then ((0, 0, 0), (runS s (opsR s.now)).1) else ((lkV s.now).1, 0)
def recS (s : DS) : DS := if s.dead = true then s else (runS s (opsR s.now)).2
attribute [local irreducible] Vw.sl Vw.sdS Vw.bodyS Vw.zt Vw.putPs Vw.seOk Vw.bkOk Vw.lkZ Vw.lkP Vw.lkOk Vw.lkV Vw.runS Vw.opsR Vw.wrsU
attribute [local irreducible] recV recS
end Go.Proofs.YtehakfbfjpolfaaGreatDoor

namespace Go.Proofs.YtehakfbfjpolfaaGreatDoor
open Go Vw
theorem right_spec (w0 : World) (size : Int) (hz : 0 ≤ size) (hz2 : size ≤ 16777216) (aw : Option Addr) (cw : Nat) (ws : List Wr) (hrw : RdS wF 2 (hp w0) (.slice aw ws.length cw) ws) (hlw : ws.length ≤ 1048576) : Calls Tryz.prog 100 #[.int .i64 size, .slice aw ws.length cw] w0 fun e w' => e = .returned (.bool (rgt size ws 0)) ∧ Kept w0 w' None_ := by
 have hs := St.start w0 None_
 refine c_enter (N := 47) Tryz.func100 rfl Tryz.ntmps100 (by simp) ?_
 intro a hf
 refine wp_seq (wp_region_lit ?_)
 refine s_a hf rfl ?_; clear hf a; intro a hf
 refine s_nil (then_n (wp_seq (wp_region_lit ?_)))
 refine s_a hf rfl ?_; clear hf a; intro a hf
 refine s_nil (then_n (wp_seq (wp_seq (wp_region_lit ?_))))
 refine s_m hf rfl ?_; clear hf a; intro a hf
 refine s_v hf (x_len Tryz.underlying23 (hf.eval rfl)) ?_; clear hf a; intro a hf
 refine s_m hf rfl ?_; clear hf a; intro a hf
 refine s_nil (then_n (wp_block ?_))
 refine c_loop (L0 := [(0, _), (8, _), (9, _)]) (fun M w m => ∃ (i : Nat) (en : Int), M = [(5, .int .i64 en), (10, .int .i64 (i : Int))] ∧ ws.length - i = m ∧ i ≤ ws.length ∧ rgt size ws 0 = rgt size (ws.drop i) en ∧ 0 ≤ en ∧ en ≤ 16777216 ∧ St ⟨w0, None_⟩ w []) (M0 := [(5, .int .i64 0), (10, .int .i64 0)]) (⟨0, 0, rfl, rfl, Nat.zero_le _, rfl, by omega, by omega, hs⟩) (hf.sub ⟨rfl, rfl, rfl, rfl, rfl, trivial⟩) ?_
 clear hf hs a
 rintro M m a w ⟨i, en, rfl, rfl, hi, hinv, he0, he1, hs⟩ hf
 refine wp_seq (wp_region_lit ?_)
 refine s_v hf (x_bin (hf.eval rfl) (hf.eval rfl) (r_lt _ _ _ _)) ?_; clear hf a; intro a hf
 refine s_nil (then_n (wp_seq ?_))
 refine c_cond hf rfl (fun hi0 => ?_) (fun hi0 => ?_)
 ·simp only [zd1, zd2, zd3, zd4, zd5, zd6, zd7] at hi0
  have hlt : i < ws.length := by omega
  obtain ⟨aw, rfl⟩ := hrw.some (by omega)
  refine wp_skip (then_n (wp_seq (wp_block (wp_seq (wp_region_lit ?_)))))
  refine s_v hf (x_indexAddr sl23 (hf.eval rfl) (hf.eval rfl) (by omega) (by omega)) ?_; clear hf a; intro a hf
  refine s_r hf (x_loadS (f := wF) ag54 (fun _ => rfl) (hs.old hrw) (hf.eval rfl) (by simpa using hlt)) ?_; clear hf a; intro a hf
  refine s_do hf rfl (y_alloc hs Tryz.zeroValue54 ?_); clear hf hs a; intro b7 w hs a hf
  change St _ _ (cb b7 54 [.int .i64 0, .slice none 0 0] :: _) at hs
  refine s_do0 hf rfl (y_storeAgg (cs := wF ws[i]) hs (n := 2) (by kernel_rfl) (hf.eval rfl) (hf.eval rfl) (by simp [Value.oneCell', wF]) rfl rfl .k0 ?_); clear hf hs a; intro w hs a hf
  have hwl : wL ws[i] = (ws[i].2.2.2.length : Int) := rfl
  refine s_nil (then_n (wp_seq (wp_seq (wp_region_lit ?_))))
  refine s_v hf (x_fieldAddr fo54_1 (hf.eval rfl)) ?_; clear hf a; intro a hf
  refine s_r hf (x_load sc22 (hf.eval rfl) (by apply hs.cell <;> repeat constructor)) ?_; clear hf a; intro a hf
  refine s_v hf (x_len Tryz.underlying22 (hf.eval rfl)) ?_; clear hf a; intro a hf
  refine s_v hf (x_bin (hf.eval rfl) (hf.eval rfl) (r_eq _ _ _ _)) ?_; clear hf a; intro a hf
  refine s_m hf rfl ?_; clear hf a; intro a hf
  refine s_bool hf (k := 18) rfl (fun hg5_4 hf' => ?_) (fun hg5_4 hf' => ?_)
  ·clear hf
   have hf := hf'
   clear hf'
   simp only [zd1, zd2, zd3, zd4, zd5, zd6, zd7] at hg5_4
   refine s_pass hf rfl rfl ?_; clear hf a; intro a hf
   refine s_pass hf rfl rfl ?_; clear hf a; intro a hf
   refine s_pass hf rfl rfl ?_; clear hf a; intro a hf
   refine s_pass hf rfl rfl ?_; clear hf a; intro a hf
   refine s_v hf (x_pick_t (hf.eval rfl) (hf.eval rfl)) ?_; clear hf a; intro a hf
   refine s_m hf rfl ?_; clear hf a; intro a hf
   refine s_pass hf rfl rfl ?_; clear hf a; intro a hf
   refine s_pass hf rfl rfl ?_; clear hf a; intro a hf
   refine s_pass hf rfl rfl ?_; clear hf a; intro a hf
   refine s_pass hf rfl rfl ?_; clear hf a; intro a hf
   refine s_v hf (x_pick_t (hf.eval rfl) (hf.eval rfl)) ?_; clear hf a; intro a hf
   refine s_m hf rfl ?_; clear hf a; intro a hf
   refine s_pass hf rfl rfl ?_; clear hf a; intro a hf
   refine s_pass hf rfl rfl ?_; clear hf a; intro a hf
   refine s_pass hf rfl rfl ?_; clear hf a; intro a hf
   refine s_pass hf rfl rfl ?_; clear hf a; intro a hf
   refine s_pass hf rfl rfl ?_; clear hf a; intro a hf
   refine s_pass hf rfl rfl ?_; clear hf a; intro a hf
   refine s_pass hf rfl rfl ?_; clear hf a; intro a hf
   refine s_pass hf rfl rfl ?_; clear hf a; intro a hf
   refine s_v hf (x_pick_t (hf.eval rfl) (hf.eval rfl)) ?_; clear hf a; intro a hf
   refine s_nil (then_n ?_)
   refine c_cond_t hf rfl rfl ?_
   refine wp_seq (wp_region_lit ?_)
   refine s_a hf rfl ?_; clear hf a; intro a hf
   refine s_nil (then_n ?_)
   refine wp_ret ?_
   refine then_r (blk_r (then_r (then_r (blk_r (then_r ?_)))))
   refine r_1 hf Tryz.results100 rfl ?_
   exact ⟨by rw [hinv, rgt_step size _ hlt, if_pos (by omega)], hs.kept⟩
  clear hf
  have hf := hf'
  clear hf'
  simp only [zd1, zd2, zd3, zd4, zd5, zd6, zd7] at hg5_4
  refine s_do hf (wanted_of hf rfl rfl rfl) (.value (x_fieldAddr fo54_0 (hf.eval rfl) _) ?_); clear hf a; intro a hf
  refine s_do hf (wanted_of hf rfl rfl rfl) (.value (x_load sc3 (hf.eval rfl) (by apply hs.cell <;> repeat constructor)) ?_); clear hf a; intro a hf
  refine s_do hf (wanted_of hf rfl rfl rfl) (.value (x_move (hf.eval rfl) _) ?_); clear hf a; intro a hf
  refine s_do hf (wanted_of hf rfl rfl rfl) (.value (x_bin (hf.eval rfl) (hf.eval rfl) (r_lt _ _ _ _) _) ?_); clear hf a; intro a hf
  refine s_v hf (x_pick_f (hf.eval rfl) (hf.eval rfl)) ?_; clear hf a; intro a hf
  refine s_m hf rfl ?_; clear hf a; intro a hf
  refine s_bool hf (k := 24) rfl (fun hg5_10 hf' => ?_) (fun hg5_10 hf' => ?_)
  ·clear hf
   have hf := hf'
   clear hf'
   simp only [zd1, zd2, zd3, zd4, zd5, zd6, zd7] at hg5_10
   refine s_pass hf rfl rfl ?_; clear hf a; intro a hf
   refine s_pass hf rfl rfl ?_; clear hf a; intro a hf
   refine s_pass hf rfl rfl ?_; clear hf a; intro a hf
   refine s_pass hf rfl rfl ?_; clear hf a; intro a hf
   refine s_v hf (x_pick_t (hf.eval rfl) (hf.eval rfl)) ?_; clear hf a; intro a hf
   refine s_m hf rfl ?_; clear hf a; intro a hf
   refine s_pass hf rfl rfl ?_; clear hf a; intro a hf
   refine s_pass hf rfl rfl ?_; clear hf a; intro a hf
   refine s_pass hf rfl rfl ?_; clear hf a; intro a hf
   refine s_pass hf rfl rfl ?_; clear hf a; intro a hf
   refine s_pass hf rfl rfl ?_; clear hf a; intro a hf
   refine s_pass hf rfl rfl ?_; clear hf a; intro a hf
   refine s_pass hf rfl rfl ?_; clear hf a; intro a hf
   refine s_pass hf rfl rfl ?_; clear hf a; intro a hf
   refine s_v hf (x_pick_t (hf.eval rfl) (hf.eval rfl)) ?_; clear hf a; intro a hf
   refine s_nil (then_n ?_)
   refine c_cond_t hf rfl rfl ?_
   refine wp_seq (wp_region_lit ?_)
   refine s_a hf rfl ?_; clear hf a; intro a hf
   refine s_nil (then_n ?_)
   refine wp_ret ?_
   refine then_r (blk_r (then_r (then_r (blk_r (then_r ?_)))))
   refine r_1 hf Tryz.results100 rfl ?_
   exact ⟨by rw [hinv, rgt_step size _ hlt, if_pos (by omega)], hs.kept⟩
  clear hf
  have hf := hf'
  clear hf'
  simp only [zd1, zd2, zd3, zd4, zd5, zd6, zd7] at hg5_10
  refine s_do hf (wanted_of hf rfl rfl rfl) (.value (x_fieldAddr fo54_0 (hf.eval rfl) _) ?_); clear hf a; intro a hf
  refine s_do hf (wanted_of hf rfl rfl rfl) (.value (x_load sc3 (hf.eval rfl) (by apply hs.cell <;> repeat constructor)) ?_); clear hf a; intro a hf
  refine s_do hf (wanted_of hf rfl rfl rfl) (.value (x_move (hf.eval rfl) _) ?_); clear hf a; intro a hf
  refine s_do hf (wanted_of hf rfl rfl rfl) (.value (x_bin (hf.eval rfl) (hf.eval rfl) (r_gt _ _ _ _) _) ?_); clear hf a; intro a hf
  refine s_v hf (x_pick_f (hf.eval rfl) (hf.eval rfl)) ?_; clear hf a; intro a hf
  refine s_m hf rfl ?_; clear hf a; intro a hf
  refine s_bool hf (k := 30) rfl (fun hg5_16 hf' => ?_) (fun hg5_16 hf' => ?_)
  ·clear hf
   have hf := hf'
   clear hf'
   simp only [zd1, zd2, zd3, zd4, zd5, zd6, zd7] at hg5_16
   refine s_pass hf rfl rfl ?_; clear hf a; intro a hf
   refine s_pass hf rfl rfl ?_; clear hf a; intro a hf
   refine s_pass hf rfl rfl ?_; clear hf a; intro a hf
   refine s_pass hf rfl rfl ?_; clear hf a; intro a hf
   refine s_pass hf rfl rfl ?_; clear hf a; intro a hf
   refine s_pass hf rfl rfl ?_; clear hf a; intro a hf
   refine s_pass hf rfl rfl ?_; clear hf a; intro a hf
   refine s_pass hf rfl rfl ?_; clear hf a; intro a hf
   refine s_v hf (x_pick_t (hf.eval rfl) (hf.eval rfl)) ?_; clear hf a; intro a hf
   refine s_nil (then_n ?_)
   refine c_cond_t hf rfl rfl ?_
   refine wp_seq (wp_region_lit ?_)
   refine s_a hf rfl ?_; clear hf a; intro a hf
   refine s_nil (then_n ?_)
   refine wp_ret ?_
   refine then_r (blk_r (then_r (then_r (blk_r (then_r ?_)))))
   refine r_1 hf Tryz.results100 rfl ?_
   exact ⟨by rw [hinv, rgt_step size _ hlt, if_pos (by omega)], hs.kept⟩
  clear hf
  have hf := hf'
  clear hf'
  simp only [zd1, zd2, zd3, zd4, zd5, zd6, zd7] at hg5_16
  refine s_do hf (wanted_of hf rfl rfl rfl) (.value (x_fieldAddr fo54_1 (hf.eval rfl) _) ?_); clear hf a; intro a hf
  refine s_do hf (wanted_of hf rfl rfl rfl) (.value (x_load sc22 (hf.eval rfl) (by apply hs.cell <;> repeat constructor)) ?_); clear hf a; intro a hf
  refine s_do hf (wanted_of hf rfl rfl rfl) (.value (x_len Tryz.underlying22 (hf.eval rfl) _) ?_); clear hf a; intro a hf
  refine s_do hf (wanted_of hf rfl rfl rfl) (.value (x_move (hf.eval rfl) _) ?_); clear hf a; intro a hf
  refine s_do hf (wanted_of hf rfl rfl rfl) (.value (x_fieldAddr fo54_0 (hf.eval rfl) _) ?_); clear hf a; intro a hf
  refine s_do hf (wanted_of hf rfl rfl rfl) (.value (x_load sc3 (hf.eval rfl) (by apply hs.cell <;> repeat constructor)) ?_); clear hf a; intro a hf
  refine s_do hf (wanted_of hf rfl rfl rfl) (.value (x_bin (hf.eval rfl) (hf.eval rfl) (r_subi _ (by omega) (by omega)) _) ?_); clear hf a; intro a hf
  refine s_do hf (wanted_of hf rfl rfl rfl) (.value (x_bin (hf.eval rfl) (hf.eval rfl) (r_gt _ _ _ _) _) ?_); clear hf a; intro a hf
  refine s_v hf (x_pick_f (hf.eval rfl) (hf.eval rfl)) ?_; clear hf a; intro a hf
  refine s_nil (then_n ?_)
  refine c_cond hf rfl (fun hi1 => ?_) (fun hi1 => ?_)
  ·simp only [zd1, zd2, zd3, zd4, zd5, zd6, zd7] at hi1
   refine wp_seq (wp_region_lit ?_)
   refine s_a hf rfl ?_; clear hf a; intro a hf
   refine s_nil (then_n ?_)
   refine wp_ret ?_
   refine then_r (blk_r (then_r (then_r (blk_r (then_r ?_)))))
   refine r_1 hf Tryz.results100 rfl ?_
   exact ⟨by rw [hinv, rgt_step size _ hlt, if_pos (by omega)], hs.kept⟩
  simp only [zd1, zd2, zd3, zd4, zd5, zd6, zd7] at hi1
  refine wp_skip (then_n (wp_region_lit ?_))
  refine s_v hf (x_fieldAddr fo54_0 (hf.eval rfl)) ?_; clear hf a; intro a hf
  refine s_r hf (x_load sc3 (hf.eval rfl) (by apply hs.cell <;> repeat constructor)) ?_; clear hf a; intro a hf
  refine s_v hf (x_fieldAddr fo54_1 (hf.eval rfl)) ?_; clear hf a; intro a hf
  refine s_r hf (x_load sc22 (hf.eval rfl) (by apply hs.cell <;> repeat constructor)) ?_; clear hf a; intro a hf
  refine s_v hf (x_len Tryz.underlying22 (hf.eval rfl)) ?_; clear hf a; intro a hf
  refine s_v hf (x_bin (hf.eval rfl) (hf.eval rfl) (r_addi _ (by omega) (by omega))) ?_; clear hf a; intro a hf
  refine s_a hf rfl ?_; clear hf a; intro a hf
  refine s_nil (blk_n (then_n (wp_region_lit ?_)))
  refine s_v hf (x_bin (hf.eval rfl) (hf.eval rfl) (r_addi _ (by omega) (by omega))) ?_; clear hf a; intro a hf
  refine s_m hf rfl ?_; clear hf a; intro a hf
  refine s_nil ?_
  replace hinv : rgt size ws 0 = rgt size (ws.drop (i + 1)) (ws[i].1 + wL ws[i]) := by rw [hinv, rgt_step size _ hlt, if_neg (by omega)]
  exact ⟨_, _, ⟨i + 1, _, rfl, rfl, by omega, hinv, by omega, by omega, hs.drop⟩, by omega, hf.sub ⟨rfl, rfl, rfl, rfl, rfl, trivial⟩⟩
 simp only [zd1, zd2, zd3, zd4, zd5, zd6, zd7] at hi0
 refine wp_exit (then_x (then_x (blk_x (then_n (wp_seq (wp_region_lit ?_))))))
 refine s_a hf rfl ?_; clear hf a; intro a hf
 refine s_nil (then_n ?_)
 refine wp_ret ?_
 refine r_1 hf Tryz.results100 rfl ?_
 exact ⟨by rw [hinv, List.drop_of_length_le (by omega)]; rfl, hs.kept⟩
theorem saved_spec (w0 : World) (old : Int) (ho : 0 ≤ old) (ho2 : old ≤ 16777216) (aw : Option Addr) (cw : Nat) (ws : List Wr) (hrw : RdS wF 2 (hp w0) (.slice aw ws.length cw) ws) (hlw : ws.length ≤ 1048576) (hok : ∀ z ∈ ws, 0 ≤ z.1 ∧ z.1 + wL z ≤ 16777216) : Calls Tryz.prog 76 #[.int .i64 old, .slice aw ws.length cw] w0 fun e w' => ∃ v, e = .returned v ∧ St ⟨w0, None_⟩ w' [sl 119 2 v (savL old ws).length ((savL old ws).flatMap spF)] := by
 have hs := (St.start w0 None_).emp (A := sl 119 2 (.slice none 0 0) 0 []) (fun h => ⟨rfl, .inl ⟨rfl, rfl⟩⟩)
 refine c_enter (N := 36) Tryz.func76 rfl Tryz.ntmps76 (by simp) ?_
 intro a hf
 refine wp_seq (wp_region_lit ?_)
 refine s_a hf rfl ?_; clear hf a; intro a hf
 refine s_nil (then_n (wp_seq (wp_region_lit ?_)))
 refine s_a hf rfl ?_; clear hf a; intro a hf
 refine s_nil (then_n (wp_seq (wp_seq (wp_region_lit ?_))))
 refine s_m hf rfl ?_; clear hf a; intro a hf
 refine s_v hf (x_len Tryz.underlying23 (hf.eval rfl)) ?_; clear hf a; intro a hf
 refine s_m hf rfl ?_; clear hf a; intro a hf
 refine s_nil (then_n (wp_block ?_))
 refine c_loop (L0 := [(0, _), (4, _), (9, _), (10, _)]) (fun M w m => ∃ (i : Nat) (v : Value), M = [(5, v), (11, .int .i64 (i : Int))] ∧ ws.length - i = m ∧ i ≤ ws.length ∧ (savL old (ws.take i)).length ≤ i ∧ St ⟨w0, None_⟩ w [sl 119 2 v (savL old (ws.take i)).length ((savL old (ws.take i)).flatMap spF)]) (M0 := [(5, .slice none 0 0), (11, .int .i64 0)]) (⟨0, _, rfl, rfl, Nat.zero_le _, Nat.le_refl _, hs⟩) (hf.sub ⟨rfl, rfl, rfl, rfl, rfl, rfl, trivial⟩) ?_
 clear hf hs a
 rintro M m a w ⟨i, v, rfl, rfl, hi, hln, hs⟩ hf
 refine wp_seq (wp_region_lit ?_)
 refine s_v hf (x_bin (hf.eval rfl) (hf.eval rfl) (r_lt _ _ _ _)) ?_; clear hf a; intro a hf
 refine s_nil (then_n (wp_seq ?_))
 refine c_cond hf rfl (fun hi0 => ?_) (fun hi0 => ?_)
 ·simp only [zd1, zd2, zd3, zd4, zd5, zd6, zd7] at hi0
  have hlt : i < ws.length := by omega
  obtain ⟨aw, rfl⟩ := hrw.some (by omega)
  have hb := hok _ (List.getElem_mem hlt)
  have hwn : 0 ≤ wL ws[i] := Int.natCast_nonneg _
  refine wp_skip (then_n (wp_seq (wp_block (wp_seq (wp_region_lit ?_)))))
  refine s_v hf (x_indexAddr sl23 (hf.eval rfl) (hf.eval rfl) (by omega) (by omega)) ?_; clear hf a; intro a hf
  refine s_r hf (x_loadS (f := wF) ag54 (fun _ => rfl) (hs.old hrw) (hf.eval rfl) (by simpa using hlt)) ?_; clear hf a; intro a hf
  refine s_do hf rfl (y_alloc hs Tryz.zeroValue54 ?_); clear hf hs a; intro b7 w hs a hf
  change St _ _ (cb b7 54 [.int .i64 0, .slice none 0 0] :: _) at hs
  refine s_do0 hf rfl (y_storeAgg (cs := wF ws[i]) hs (n := 2) (by kernel_rfl) (hf.eval rfl) (hf.eval rfl) (by simp [Value.oneCell', wF]) rfl rfl .k0 ?_); clear hf hs a; intro w hs a hf
  have hwl : wL ws[i] = (ws[i].2.2.2.length : Int) := rfl
  refine s_nil (then_n (wp_seq (wp_region_lit ?_)))
  refine s_m hf rfl ?_; clear hf a; intro a hf
  refine s_v hf (x_fieldAddr fo54_0 (hf.eval rfl)) ?_; clear hf a; intro a hf
  refine s_r hf (x_load sc3 (hf.eval rfl) (by apply hs.cell <;> repeat constructor)) ?_; clear hf a; intro a hf
  refine s_v hf (x_fieldAddr fo54_1 (hf.eval rfl)) ?_; clear hf a; intro a hf
  refine s_r hf (x_load sc22 (hf.eval rfl) (by apply hs.cell <;> repeat constructor)) ?_; clear hf a; intro a hf
  refine s_v hf (x_len Tryz.underlying22 (hf.eval rfl)) ?_; clear hf a; intro a hf
  refine s_v hf (x_bin (hf.eval rfl) (hf.eval rfl) (r_addi _ (by omega) (by omega))) ?_; clear hf a; intro a hf
  refine s_v hf (x_minI (hf.eval rfl) (hf.eval rfl)) ?_; clear hf a; intro a hf
  replace hf := hf.now (k := 22) (v' := .int .i64 (min old (ws[i].1 + wL ws[i]))) rfl (rfl)
  refine s_a hf rfl ?_; clear hf a; intro a hf
  refine s_nil (then_n (wp_seq (wp_region_lit ?_)))
  refine s_v hf (x_fieldAddr fo54_0 (hf.eval rfl)) ?_; clear hf a; intro a hf
  refine s_r hf (x_load sc3 (hf.eval rfl) (by apply hs.cell <;> repeat constructor)) ?_; clear hf a; intro a hf
  refine s_m hf rfl ?_; clear hf a; intro a hf
  refine s_v hf (x_bin (hf.eval rfl) (hf.eval rfl) (r_lt _ _ _ _)) ?_; clear hf a; intro a hf
  refine s_nil (then_n ?_)
  refine c_cond hf rfl (fun hi1 => ?_) (fun hi1 => ?_)
  ·simp only [decide_eq_true_eq, decide_eq_false_iff_not] at hi1
   refine wp_region_lit ?_
   refine s_m hf rfl ?_; clear hf a; intro a hf
   refine s_v hf (x_fieldAddr fo54_0 (hf.eval rfl)) ?_; clear hf a; intro a hf
   refine s_r hf (x_load sc3 (hf.eval rfl) (by apply hs.cell <;> repeat constructor)) ?_; clear hf a; intro a hf
   refine s_m hf rfl ?_; clear hf a; intro a hf
   refine s_r hf (x_build (v := .agg #[.int .i64 ws[i].1, .int .i64 (min old (ws[i].1 + wL ws[i]))]) (hf.parts rfl) (fun w => by kernel_rfl) _) ?_; clear hf a; intro a hf
   refine s_do hf rfl (y_lit (xs := [.tmp 31]) hs sl68 (hf.evals rfl) rfl (by simp [Value.cells]) (by decide) ?_); clear hf hs a; intro b2 w hs a hf
   refine s_do hf rfl (y_append (n := (savL old (ws.take i)).length) (m := 1) (ys := [.int .i64 ws[i].1, .int .i64 (min old (ws[i].1 + wL ws[i]))]) hs sl68 (hf.eval rfl) (hf.eval rfl) .k2 (hs.rd .k0 fun h hb => rd_rows hb rfl) (by simp [Value.oneCell']) (by omega) (by rw [maxLen_eq]; omega) ?_); clear hf hs a; intro v2 w hs hv a hf
   have hsv := savL_succ old hlt
   rw [if_pos hi1] at hsv
   have hln2 : (savL old (ws.take (i + 1))).length ≤ i + 1 := by rw [hsv]; simp; omega
   have hs2 : St ⟨w0, None_⟩ w [sl 119 2 v2 (savL old (ws.take (i + 1))).length ((savL old (ws.take (i + 1))).flatMap spF)] := by
     rw [hsv, List.length_append, List.flatMap_append]
     exact (hs.lose .k1).lose .k1
   refine s_a hf rfl ?_; clear hf a; intro a hf
   refine s_nil (blk_n (then_n (wp_region_lit ?_)))
   refine s_v hf (x_bin (hf.eval rfl) (hf.eval rfl) (r_addi _ (by omega) (by omega))) ?_; clear hf a; intro a hf
   refine s_m hf rfl ?_; clear hf a; intro a hf
   refine s_nil ?_
   exact ⟨_, _, ⟨i + 1, _, rfl, rfl, by omega, by first | exact hln2 | (rw [savL_succ old hlt, if_neg hi1]; simp; omega), by first | exact hs2 | (rw [savL_succ old hlt, if_neg hi1, List.append_nil]; exact hs.drop)⟩, by omega, hf.sub ⟨rfl, rfl, rfl, rfl, rfl, rfl, trivial⟩⟩
  simp only [decide_eq_true_eq, decide_eq_false_iff_not] at hi1
  refine wp_skip (blk_n (then_n (wp_region_lit ?_)))
  refine s_v hf (x_bin (hf.eval rfl) (hf.eval rfl) (r_addi _ (by omega) (by omega))) ?_; clear hf a; intro a hf
  refine s_m hf rfl ?_; clear hf a; intro a hf
  refine s_nil ?_
  exact ⟨_, _, ⟨i + 1, _, rfl, rfl, by omega, by first | exact hln2 | (rw [savL_succ old hlt, if_neg hi1]; simp; omega), by first | exact hs2 | (rw [savL_succ old hlt, if_neg hi1, List.append_nil]; exact hs.drop)⟩, by omega, hf.sub ⟨rfl, rfl, rfl, rfl, rfl, rfl, trivial⟩⟩
 simp only [zd1, zd2, zd3, zd4, zd5, zd6, zd7] at hi0
 refine wp_exit (then_x (then_x (blk_x (then_n (wp_seq (wp_region_lit ?_))))))
 refine s_m hf rfl ?_; clear hf a; intro a hf
 refine s_a hf rfl ?_; clear hf a; intro a hf
 refine s_nil (then_n ?_)
 refine wp_ret ?_
 refine r_1 hf Tryz.results76 rfl ?_
 have hi9 : i = ws.length := by omega
 subst hi9
 rw [List.take_length] at hs
 exact ⟨_, rfl, hs⟩
theorem long_spec (w0 : World) (as_ : Option Addr) (cs : Nat) (ss : List (Int × Int)) (hrs : RdS spF 2 (hp w0) (.slice as_ ss.length cs) ss) (hls : ss.length ≤ 1048576) (hok : ∀ s ∈ ss, 0 ≤ s.1 ∧ s.1 ≤ s.2 ∧ s.2 ≤ 16777216) : Calls Tryz.prog 102 #[.slice as_ ss.length cs] w0 fun e w' => e = .returned (.int .i64 (lonZ ss)) ∧ Kept w0 w' None_ ∧ 0 ≤ lonZ ss ∧ lonZ ss ≤ 1125899906842624 := by
 have hs := St.start w0 None_
 refine c_enter (N := 22) Tryz.func102 rfl Tryz.ntmps102 (by simp) ?_
 intro a hf
 refine wp_seq (wp_region_lit ?_)
 refine s_a hf rfl ?_; clear hf a; intro a hf
 refine s_nil (then_n (wp_seq (wp_region_lit ?_)))
 refine s_a hf rfl ?_; clear hf a; intro a hf
 refine s_nil (then_n (wp_seq (wp_seq (wp_region_lit ?_))))
 refine s_m hf rfl ?_; clear hf a; intro a hf
 refine s_v hf (x_len Tryz.underlying68 (hf.eval rfl)) ?_; clear hf a; intro a hf
 refine s_m hf rfl ?_; clear hf a; intro a hf
 refine s_nil (then_n (wp_block ?_))
 refine c_loop (L0 := [(2, _), (6, _), (7, _)]) (fun M w m => ∃ i : Nat, M = [(3, .int .i64 (lonZ (ss.take i))), (8, .int .i64 (i : Int))] ∧ ss.length - i = m ∧ i ≤ ss.length ∧ 0 ≤ lonZ (ss.take i) ∧ lonZ (ss.take i) ≤ 16777224 * i ∧ St ⟨w0, None_⟩ w []) (M0 := [(3, .int .i64 0), (8, .int .i64 0)]) (⟨0, rfl, rfl, Nat.zero_le _, by simp [lonZ], by simp [lonZ], hs⟩) (hf.sub ⟨rfl, rfl, rfl, rfl, rfl, trivial⟩) ?_
 clear hf hs a
 rintro M m a w ⟨i, rfl, rfl, hi, hn0, hn1, hs⟩ hf
 refine wp_seq (wp_region_lit ?_)
 refine s_v hf (x_bin (hf.eval rfl) (hf.eval rfl) (r_lt _ _ _ _)) ?_; clear hf a; intro a hf
 refine s_nil (then_n (wp_seq ?_))
 refine c_cond hf rfl (fun hi0 => ?_) (fun hi0 => ?_)
 ·simp only [zd1, zd2, zd3, zd4, zd5, zd6, zd7] at hi0
  have hlt : i < ss.length := by omega
  obtain ⟨as_, rfl⟩ := hrs.some (by omega)
  have hb := hok _ (List.getElem_mem hlt)
  refine wp_skip (then_n (wp_seq (wp_block (wp_seq (wp_region_lit ?_)))))
  refine s_v hf (x_indexAddr sl68 (hf.eval rfl) (hf.eval rfl) (by omega) (by omega)) ?_; clear hf a; intro a hf
  refine s_r hf (x_loadS (f := spF) ag119 (fun _ => rfl) (hs.old hrs) (hf.eval rfl) (by simpa using hlt)) ?_; clear hf a; intro a hf
  refine s_do hf rfl (y_alloc hs Tryz.zeroValue119 ?_); clear hf hs a; intro b7 w hs a hf
  change St _ _ (cb b7 119 [.int .i64 0, .int .i64 0] :: _) at hs
  refine s_do0 hf rfl (y_storeAgg (cs := spF ss[i]) hs (n := 2) (by kernel_rfl) (hf.eval rfl) (hf.eval rfl) (by simp [Value.oneCell', spF]) rfl rfl .k0 ?_); clear hf hs a; intro w hs a hf
  refine s_nil (then_n (wp_region_lit ?_))
  refine s_m hf rfl ?_; clear hf a; intro a hf
  refine s_v hf (x_fieldAddr fo119_1 (hf.eval rfl)) ?_; clear hf a; intro a hf
  refine s_r hf (x_load sc3 (hf.eval rfl) (by apply hs.cell <;> repeat constructor)) ?_; clear hf a; intro a hf
  refine s_v hf (x_bin (hf.eval rfl) (hf.eval rfl) (r_addi _ (by omega) (by omega))) ?_; clear hf a; intro a hf
  refine s_v hf (x_fieldAddr fo119_0 (hf.eval rfl)) ?_; clear hf a; intro a hf
  refine s_r hf (x_load sc3 (hf.eval rfl) (by apply hs.cell <;> repeat constructor)) ?_; clear hf a; intro a hf
  refine s_v hf (x_bin (hf.eval rfl) (hf.eval rfl) (r_subi _ (by omega) (by omega))) ?_; clear hf a; intro a hf
  refine s_v hf (x_bin (hf.eval rfl) (hf.eval rfl) (r_addi _ (by omega) (by omega))) ?_; clear hf a; intro a hf
  refine s_a hf rfl ?_; clear hf a; intro a hf
  refine s_nil (blk_n (then_n (wp_region_lit ?_)))
  refine s_v hf (x_bin (hf.eval rfl) (hf.eval rfl) (r_addi _ (by omega) (by omega))) ?_; clear hf a; intro a hf
  refine s_m hf rfl ?_; clear hf a; intro a hf
  refine s_nil ?_
  have hlz := lonZ_succ hlt
  replace hf := hf.now (k := 3) (v' := .int .i64 (lonZ (ss.take (i + 1)))) rfl (by rw [hlz])
  exact ⟨_, _, ⟨i + 1, rfl, rfl, by omega, by omega, by omega, hs.drop⟩, by omega, hf.sub ⟨rfl, rfl, rfl, rfl, rfl, trivial⟩⟩
 simp only [zd1, zd2, zd3, zd4, zd5, zd6, zd7] at hi0
 refine wp_exit (then_x (then_x (blk_x (then_n (wp_seq (wp_region_lit ?_))))))
 refine s_m hf rfl ?_; clear hf a; intro a hf
 refine s_a hf rfl ?_; clear hf a; intro a hf
 refine s_nil (then_n ?_)
 refine wp_ret ?_
 refine r_1 hf Tryz.results102 rfl ?_
 have hi9 : i = ss.length := by omega
 subst hi9
 rw [List.take_length] at hn0 hn1
 exact ⟨by rw [List.take_length], hs.kept, hn0, by omega⟩
theorem rgt_pos (size : Int) : ∀ (l : List Wr) (e : Int), rgt size l e = true → ∀ z ∈ l, 0 < wL z
  | [], _, _, z, hz => absurd hz (by simp)
  | x :: l, e, h, z, hz => by
    unfold rgt at h
    split at h
    · cases h
    · rename_i hb
      rcases List.mem_cons.1 hz with rfl | hz
      · have : 0 ≤ wL z := Int.natCast_nonneg _
        omega
      · exact rgt_pos size l _ h z hz
theorem apply_spec (w0 : World) (a1 : Option Addr) (c1 : Nat) (content : List UInt8) (hr1 : RdB (hp w0) (.slice a1 content.length c1) content) (hl1 : content.length ≤ 140737488351232) (size : Int) (aw : Option Addr) (cw : Nat) (ws : List Wr) (hrw : RdS wF 2 (hp w0) (.slice aw ws.length cw) ws) (hlw : ws.length ≤ 1048576) (hgd : ∀ z ∈ ws, RdB (hp w0) (.slice z.2.1 z.2.2.2.length z.2.2.1) z.2.2.2 ∧ z.2.2.2.length ≤ 1048576) (V : List UInt8) (hV : V = aplR content size ws) (E : Int) (hE : E = aplE content.length size ws) : Calls Tryz.prog 75 #[.slice a1 content.length c1, .int .i64 size, .slice aw ws.length cw] w0 fun e w' => ∃ a c, e = .returned (.tuple #[.slice a V.length c, .int .i64 E]) ∧ St ⟨w0, None_⟩ w' [slB 5 (.slice a V.length c) V] := by
 have hs := St.start w0 None_
 refine c_enter (N := 44) Tryz.func75 rfl Tryz.ntmps75 (by simp) ?_
 intro a hf
 refine wp_seq (wp_region_lit ?_)
 refine s_a hf rfl ?_; clear hf a; intro a hf
 refine s_a hf rfl ?_; clear hf a; intro a hf
 refine s_nil (then_n (wp_seq (wp_seq (wp_region_lit ?_))))
 refine s_m hf rfl ?_; clear hf a; intro a hf
 refine s_v hf (x_len Tryz.underlying22 (hf.eval rfl)) ?_; clear hf a; intro a hf
 refine s_do hf rfl (y_call (hf.eval rfl) (hf.evals rfl) Tryz.call74 ((sized_spec _ _).mono ?_))
 rintro e w1 ⟨rfl, hw9⟩
 rw [hw9]
 clear hw9 w1
 refine ⟨_, rfl, ?_⟩; clear hf a; intro a hf
 refine s_v hf (x_not (hf.eval rfl)) ?_; clear hf a; intro a hf
 refine s_m hf rfl ?_; clear hf a; intro a hf
 refine s_bool hf (k := 15) rfl (fun hg1_4 hf' => ?_) (fun hg1_4 hf' => ?_)
 ·clear hf
  have hf := hf'
  clear hf'
  simp only [zd1, zd2, zd3, zd4] at hg1_4
  refine s_pass hf rfl rfl ?_; clear hf a; intro a hf
  refine s_pass hf rfl rfl ?_; clear hf a; intro a hf
  refine s_pass hf rfl rfl ?_; clear hf a; intro a hf
  refine s_v hf (x_pick_t (hf.eval rfl) (hf.eval rfl)) ?_; clear hf a; intro a hf
  refine s_nil (then_n ?_)
  refine c_cond_t hf rfl rfl ?_
  refine wp_seq (wp_region_lit ?_)
  refine s_a hf rfl ?_; clear hf a; intro a hf
  refine s_a hf rfl ?_; clear hf a; intro a hf
  refine s_nil (then_n ?_)
  refine wp_ret ?_
  refine then_r ?_
  refine r_2 hf Tryz.results75 rfl rfl ?_
  have hE0 : E = 1 := by rw [hE]; unfold aplE; rw [if_pos (by omega)]
  have hV0 : V = [] := by rw [hV]; unfold aplR; rw [if_neg (by rw [← hE, hE0]; decide)]
  rw [hE0, hV0]
  exact ⟨none, 0, rfl, hs.emp (slB_nil _)⟩
 clear hf
 have hf := hf'
 clear hf'
 simp only [zd1, zd2, zd3, zd4] at hg1_4
 refine s_do hf (wanted_of hf rfl rfl rfl) (.value (x_move (hf.eval rfl) _) ?_); clear hf a; intro a hf
 refine s_do hf (wanted_of hf rfl rfl rfl) (y_call (hf.eval rfl) (hf.evals rfl) Tryz.call74 ((sized_spec _ _).mono ?_))
 rintro e w1 ⟨rfl, hw9⟩
 rw [hw9]
 clear hw9 w1
 refine ⟨_, rfl, ?_⟩; clear hf a; intro a hf
 refine s_do hf (wanted_of hf rfl rfl rfl) (.value (x_not (hf.eval rfl) _) ?_); clear hf a; intro a hf
 refine s_v hf (x_pick_f (hf.eval rfl) (hf.eval rfl)) ?_; clear hf a; intro a hf
 refine s_nil (then_n ?_)
 refine c_cond hf rfl (fun hi0 => ?_) (fun hi0 => ?_)
 ·first | simp only [zd1, zd2, zd3, zd4] at hi0 | skip
  refine wp_seq (wp_region_lit ?_)
  refine s_a hf rfl ?_; clear hf a; intro a hf
  refine s_a hf rfl ?_; clear hf a; intro a hf
  refine s_nil (then_n ?_)
  refine wp_ret ?_
  refine then_r ?_
  refine r_2 hf Tryz.results75 rfl rfl ?_
  have hE0 : E = 1 := by rw [hE]; unfold aplE; rw [if_pos (by omega)]
  have hV0 : V = [] := by rw [hV]; unfold aplR; rw [if_neg (by rw [← hE, hE0]; decide)]
  rw [hE0, hV0]
  exact ⟨none, 0, rfl, hs.emp (slB_nil _)⟩
 first | simp only [zd1, zd2, zd3, zd4] at hi0 | skip
 have hsz : 0 ≤ size ∧ size ≤ 16777216 := hi0
 refine wp_skip (then_n (wp_seq (wp_seq (wp_region_lit ?_))))
 refine s_m hf rfl ?_; clear hf a; intro a hf
 refine s_m hf rfl ?_; clear hf a; intro a hf
 refine s_do hf rfl (y_call (hf.eval rfl) (hf.evals rfl) Tryz.call100 ((right_spec _ size hsz.1 hsz.2 _ _ ws (hs.old hrw) hlw).mono ?_))
 rintro e w1 ⟨rfl, hk⟩
 replace hs := hs.ext hk
 refine ⟨_, rfl, ?_⟩; clear hf a; intro a hf
 refine s_v hf (x_not (hf.eval rfl)) ?_; clear hf a; intro a hf
 refine s_nil (then_n ?_)
 refine c_cond hf rfl (fun hi1 => ?_) (fun hi1 => ?_)
 ·simp only [Bool.not_eq_true', Bool.not_eq_false'] at hi1
  refine wp_seq (wp_region_lit ?_)
  refine s_a hf rfl ?_; clear hf a; intro a hf
  refine s_a hf rfl ?_; clear hf a; intro a hf
  refine s_nil (then_n ?_)
  refine wp_ret ?_
  refine then_r ?_
  refine r_2 hf Tryz.results75 rfl rfl ?_
  have hE0 : E = 143 := by rw [hE]; unfold aplE; rw [if_neg (by omega), if_pos (by assumption)]
  have hV0 : V = [] := by rw [hV]; unfold aplR; rw [if_neg (by rw [← hE, hE0]; decide)]
  rw [hE0, hV0]
  exact ⟨none, 0, rfl, hs.emp (slB_nil _)⟩
 simp only [Bool.not_eq_true', Bool.not_eq_false'] at hi1
 have hrt : rgt size ws 0 = true := hi1
 obtain ⟨n, rfl⟩ := Int.eq_ofNat_of_zero_le (show 0 ≤ size by omega)
 have hok : ∀ z ∈ ws, 0 ≤ z.1 ∧ z.1 + wL z ≤ (n : Int) ∧ 0 < wL z := fun z hz => by have h8 := rgt_all (n : Int) ws 0 (by omega) hrt z hz; exact ⟨h8.1, h8.2, rgt_pos (n : Int) ws 0 hrt z hz⟩
 refine wp_skip (then_n (wp_seq (wp_region_lit ?_)))
 refine s_m hf rfl ?_; clear hf a; intro a hf
 refine s_do hf rfl (y_makeB (m := n) (c := n) hs sl22 (hf.eval rfl) (hf.eval rfl) rfl rfl (by omega) (by omega) ?_); clear hf hs a; intro b w hs a hf
 refine s_a hf rfl ?_; clear hf a; intro a hf
 refine s_nil (then_n (wp_seq (wp_region_lit ?_)))
 refine s_m hf rfl ?_; clear hf a; intro a hf
 refine s_m hf rfl ?_; clear hf a; intro a hf
 refine s_do hf rfl (y_copyB (o := 0) (cur' := baseW content n) hs sl22 (hf.eval rfl) (hf.eval rfl) (fun _ => rfl) (hs.oldB hr1) rfl .k0 (base_spl content n) (by simp) ?_); clear hf hs a; intro w hs a hf
 replace hs := St.ofBb (n := n) hs (baseW_len content n) (by omega)
 refine s_nil (then_n (wp_seq (wp_seq (wp_region_lit ?_))))
 refine s_m hf rfl ?_; clear hf a; intro a hf
 refine s_v hf (x_len Tryz.underlying23 (hf.eval rfl)) ?_; clear hf a; intro a hf
 refine s_m hf rfl ?_; clear hf a; intro a hf
 refine s_nil (then_n (wp_block ?_))
 refine c_loop (L0 := [(6, _), (7, _), (8, _), (29, _), (30, _)]) (fun M w m => ∃ i : Nat, M = [(31, .int .i64 (i : Int))] ∧ ws.length - i = m ∧ i ≤ ws.length ∧ St ⟨w0, None_⟩ w [slB 5 (.slice (some ⟨b, 0, none⟩) n n) (appW (baseW content n) (ws.take i))]) (M0 := _) (⟨0, rfl, rfl, Nat.zero_le _, hs⟩) (hf.sub ⟨rfl, rfl, rfl, rfl, rfl, rfl, trivial⟩) ?_
 clear hf hs a
 rintro M m a w ⟨i, rfl, rfl, hi, hs⟩ hf
 refine wp_seq (wp_region_lit ?_)
 refine s_v hf (x_bin (hf.eval rfl) (hf.eval rfl) (r_lt _ _ _ _)) ?_; clear hf a; intro a hf
 refine s_nil (then_n (wp_seq ?_))
 refine c_cond hf rfl (fun hi2 => ?_) (fun hi2 => ?_)
 ·simp only [zd1, zd2, zd3, zd4, zd5, zd6, zd7] at hi2
  have hlt : i < ws.length := by omega
  obtain ⟨aw, rfl⟩ := hrw.some (by omega)
  have hgi := hgd _ (List.getElem_mem hlt)
  obtain ⟨hzi1, hzi2, hzi3⟩ := hok _ (List.getElem_mem hlt)
  have hwl0 : wL ws[i] = (ws[i].2.2.2.length : Int) := rfl
  refine wp_skip (then_n (wp_seq (wp_block (wp_seq (wp_region_lit ?_)))))
  refine s_v hf (x_indexAddr sl23 (hf.eval rfl) (hf.eval rfl) (by omega) (by omega)) ?_; clear hf a; intro a hf
  refine s_r hf (x_loadS (f := wF) ag54 (fun _ => rfl) (hs.old hrw) (hf.eval rfl) (by simpa using hlt)) ?_; clear hf a; intro a hf
  refine s_do hf rfl (y_alloc hs Tryz.zeroValue54 ?_); clear hf hs a; intro b7 w hs a hf
  change St _ _ (cb b7 54 [.int .i64 0, .slice none 0 0] :: _) at hs
  refine s_do0 hf rfl (y_storeAgg (cs := wF ws[i]) hs (n := 2) (by kernel_rfl) (hf.eval rfl) (hf.eval rfl) (by simp [Value.oneCell', wF]) rfl rfl .k0 ?_); clear hf hs a; intro w hs a hf
  have hwl : wL ws[i] = (ws[i].2.2.2.length : Int) := rfl
  refine s_nil (then_n ?_)
  refine c_draw hs (fun _ => True) [.held, .held, .read, .held, .held, .read, .fin] (by kernel_rfl) (by kernel_rfl) (fun _ _ _ => trivial) ?_
  clear hs; intro w hs hC hw
  refine m_held hf rfl (fun w' _ => x_move (hf.eval rfl) w') ?_; clear hf a; intro a hf
  refine m_held hf rfl (fun w' _ => x_fieldAddr fo54_0 (hf.eval rfl) w') ?_; clear hf a; intro a hf
  refine m_read hf rfl (x_load sc3 (hf.eval rfl) (by apply hs.cell <;> repeat constructor)) ?_; clear hf a; intro a hf
  refine m_held hf rfl (fun w' _ => x_slice_lo sl22 (hf.eval rfl) (hf.eval rfl)  (by omega) (by omega)  w') ?_; clear hf a; intro a hf
  refine m_held hf rfl (fun w' _ => x_fieldAddr fo54_1 (hf.eval rfl) w') ?_; clear hf a; intro a hf
  refine m_read hf rfl (x_load sc22 (hf.eval rfl) (by apply hs.cell <;> repeat constructor)) ?_; clear hf a; intro a hf
  refine m_fin hf rfl (y_copyAt (T := 5) (n := n) (o := ws[i].1.toNat) (s := ws[i].2.2.2) hs sl22 (hf.eval rfl) rfl (hf.eval rfl) .k1 (hs.oldB hgi.1) (by omega) (by rw [appW_len, baseW_len]) ?_); clear hf hs a; intro w hs; intro a hf
  rw [show min ws[i].2.2.2.length (n - ws[i].1.toNat) = ws[i].2.2.2.length by omega, List.take_length] at hs
  have hap := appW_succ (l := baseW content n) hlt
  rw [putP_fit (by rw [appW_len, baseW_len]; omega) (by omega)] at hap
  rw [← hap] at hs
  replace hs := hs.lose .k1
  refine blk_n (then_n (wp_region_lit ?_))
  refine s_v hf (x_bin (hf.eval rfl) (hf.eval rfl) (r_addi _ (by omega) (by omega))) ?_; clear hf a; intro a hf
  refine s_m hf rfl ?_; clear hf a; intro a hf
  refine s_nil ?_
  exact ⟨_, _, ⟨i + 1, rfl, rfl, by omega, hs⟩, by omega, hf.sub ⟨rfl, rfl, rfl, rfl, rfl, rfl, trivial⟩⟩
 simp only [zd1, zd2, zd3, zd4, zd5, zd6, zd7] at hi2
 refine wp_exit (then_x (then_x (blk_x (then_n (wp_seq (wp_region_lit ?_))))))
 refine s_m hf rfl ?_; clear hf a; intro a hf
 refine s_a hf rfl ?_; clear hf a; intro a hf
 refine s_a hf rfl ?_; clear hf a; intro a hf
 refine s_nil (then_n ?_)
 refine wp_ret ?_
 refine r_2 hf Tryz.results75 rfl rfl ?_
 obtain rfl : i = ws.length := by omega
 rw [List.take_length] at hs
 have hE0 : E = 0 := by rw [hE]; unfold aplE; rw [if_neg (by omega), if_neg (by rw [hrt]; simp)]
 have hV0 : V = appW (baseW content n) ws := by rw [hV]; unfold aplR; rw [if_pos (by rw [← hE, hE0]), Int.toNat_natCast]
 have hVl : V.length = n := by rw [hV0, appW_len, baseW_len]
 rw [hE0, hVl]
 rw [← hV0] at hs
 exact ⟨_, _, rfl, hs⟩
theorem lenS_take : ∀ (sp : List Sp) (i : Nat), lenS (sp.take i) ≤ lenS sp
  | [], i => by rw [List.take_nil]; exact Nat.le_refl _
  | s :: r, 0 => Nat.zero_le _
  | s :: r, i + 1 => by
    have := lenS_take r i
    show (s.2 - s.1).toNat + lenS (r.take i) ≤ (s.2 - s.1).toNat + lenS r
    omega
theorem bodyOf_spec (w0 : World) (a1 : Option Addr) (c1 : Nat) (c : List UInt8) (hr1 : RdB (hp w0) (.slice a1 c.length c1) c) (hcl : c.length ≤ 16777216) (as_ : Option Addr) (cs : Nat) (ss : List (Int × Int)) (hrs : RdS spF 2 (hp w0) (.slice as_ ss.length cs) ss) (hls : ss.length ≤ 1048576) (hss : spc (c.length : Int) 0 ss) (hsl : ∀ s ∈ ss, s.2 - s.1 ≤ 1048576) : Calls Tryz.prog 77 #[.slice a1 c.length c1, .slice as_ ss.length cs] w0 fun e w' => ∃ a cc, e = .returned (.slice a (bodyB c ss).length cc) ∧ St ⟨w0, None_⟩ w' [slB 5 (.slice a (bodyB c ss).length cc) (bodyB c ss)] := by
 have hs := St.start w0 None_
 have hcp := RdB.cap hr1
 have hlz := lonZ_eq hss
 have hle := lenS_le hss (by omega)
 have hdl := dat_len (Int.le_refl 0) hss
 have hhl := hd_len ss
 refine c_enter (N := 49) Tryz.func77 rfl Tryz.ntmps77 (by simp) ?_
 intro a hf
 refine wp_seq (wp_region_lit ?_)
 refine s_a hf rfl ?_; clear hf a; intro a hf
 refine s_nil (then_n (wp_seq (wp_region_lit ?_)))
 refine s_m hf rfl ?_; clear hf a; intro a hf
 refine s_do hf rfl (y_call (hf.eval rfl) (hf.evals rfl) Tryz.call102 ((long_spec _ _ _ ss (hs.old hrs) hls (fun s hs9 => by obtain ⟨i, hi, rfl⟩ := List.getElem_of_mem hs9; have := spc_get hss hi; omega)).mono ?_))
 rintro e w1 ⟨rfl, hk9, hl0, hl1⟩
 replace hs := hs.ext hk9
 rw [hlz]
 refine ⟨_, rfl, ?_⟩; clear hf a; intro a hf
 refine s_do hf rfl (y_call (hf.eval rfl) (hf.evals rfl) Tryz.call101 ((newBuf_spec _ ((8 * ss.length + lenS ss : Nat) : Int)).mono ?_))
 rintro e w1 ⟨p, rfl, hj⟩
 replace hs := hs.join hj
 simp only [List.cons_append, List.nil_append] at hs
 rw [if_neg (by omega)] at hs
 refine ⟨_, rfl, ?_⟩; clear hf a; intro a hf
 refine s_a hf rfl ?_; clear hf a; intro a hf
 refine s_nil (then_n (wp_seq (wp_seq (wp_region_lit ?_))))
 refine s_m hf rfl ?_; clear hf a; intro a hf
 refine s_v hf (x_len Tryz.underlying68 (hf.eval rfl)) ?_; clear hf a; intro a hf
 refine s_m hf rfl ?_; clear hf a; intro a hf
 refine s_nil (then_n (wp_block ?_))
 refine c_loop (L0 := [(0, _), (1, _), (4, _), (5, _), (13, _), (14, _)]) (fun M w m => ∃ i : Nat, M = [(15, .int .i64 (i : Int))] ∧ ss.length - i = m ∧ i ≤ ss.length ∧ St ⟨w0, None_⟩ w [bufA 160 5 p ((ss.take i).flatMap spH) ((8 * ss.length + lenS ss : Nat) : Int) 0]) (M0 := [(15, .int .i64 0)]) (⟨0, rfl, rfl, Nat.zero_le _, hs⟩) (hf.sub ⟨rfl, rfl, rfl, rfl, rfl, rfl, rfl, trivial⟩) ?_
 clear hf hs a
 rintro M m a w ⟨i, rfl, rfl, hi, hs⟩ hf
 refine wp_seq (wp_region_lit ?_)
 refine s_v hf (x_bin (hf.eval rfl) (hf.eval rfl) (r_lt _ _ _ _)) ?_; clear hf a; intro a hf
 refine s_nil (then_n (wp_seq ?_))
 refine c_cond hf rfl (fun hi0 => ?_) (fun hi0 => ?_)
 ·simp only [zd1, zd2, zd3, zd4, zd5, zd6, zd7] at hi0
  have hlt : i < ss.length := by omega
  obtain ⟨as_, rfl⟩ := hrs.some (by omega)
  obtain ⟨k1, k2, k3, _⟩ := spc_get hss hlt
  have hsp9 := hsl _ (List.getElem_mem hlt)
  have hli : ((ss.take i).flatMap spH).length = 8 * i := by rw [hd_len, List.length_take]; omega
  refine wp_skip (then_n (wp_seq (wp_block (wp_seq (wp_region_lit ?_)))))
  refine s_v hf (x_indexAddr sl68 (hf.eval rfl) (hf.eval rfl) (by omega) (by omega)) ?_; clear hf a; intro a hf
  refine s_r hf (x_loadS (f := spF) ag119 (fun _ => rfl) (hs.old hrs) (hf.eval rfl) (by simpa using hlt)) ?_; clear hf a; intro a hf
  replace hf := hf.now (k := 18) (v' := .agg (spF ss[i]).toArray) rfl (rfl)
  refine s_do hf rfl (y_alloc hs Tryz.zeroValue119 ?_); clear hf hs a; intro b7 w hs a hf
  change St _ _ (cb b7 119 [.int .i64 0, .int .i64 0] :: _) at hs
  refine s_do0 hf rfl (y_storeAgg (cs := spF ss[i]) hs (n := 2) (by kernel_rfl) (hf.eval rfl) (hf.eval rfl) (by simp [Value.oneCell', spF]) rfl rfl .k0 ?_); clear hf hs a; intro w hs a hf
  refine s_nil (then_n (wp_seq (wp_region_lit ?_)))
  refine s_m hf rfl ?_; clear hf a; intro a hf
  refine s_v hf (x_fieldAddr fo119_0 (hf.eval rfl)) ?_; clear hf a; intro a hf
  refine s_r hf (x_load sc3 (hf.eval rfl) (by apply hs.cell <;> repeat constructor)) ?_; clear hf a; intro a hf
  replace hs := hs.take (A := bufA 160 5 p ((ss.take i).flatMap spH) ((8 * ss.length + lenS ss : Nat) : Int) 0) (by repeat constructor)
  refine s_do hf rfl (y_call (hf.eval rfl) (hf.evals rfl) Tryz.call103 ((bU32_spec _ _ _ p _ ((8 * ss.length + lenS ss : Nat) : Int) 0 hs (fun _ => by omega) (by omega) (by omega) ss[i].1).mono ?_))
  rintro e w1 ⟨rfl, hs⟩
  rw [num4 (by omega) (by omega) (by omega)] at hs
  refine ⟨_, rfl, ?_⟩; clear hf a; intro a hf
  refine s_nil (then_n (wp_region_lit ?_))
  refine s_m hf rfl ?_; clear hf a; intro a hf
  refine s_v hf (x_fieldAddr fo119_1 (hf.eval rfl)) ?_; clear hf a; intro a hf
  refine s_r hf (x_load sc3 (hf.eval rfl) (by apply hs.cell <;> repeat constructor)) ?_; clear hf a; intro a hf
  refine s_v hf (x_fieldAddr fo119_0 (hf.eval rfl)) ?_; clear hf a; intro a hf
  refine s_r hf (x_load sc3 (hf.eval rfl) (by apply hs.cell <;> repeat constructor)) ?_; clear hf a; intro a hf
  refine s_v hf (x_bin (hf.eval rfl) (hf.eval rfl) (r_subi _ (by omega) (by omega))) ?_; clear hf a; intro a hf
  replace hs := hs.take (A := bufA 160 5 p (((ss.take i).flatMap spH) ++ leB 4 ss[i].1.toNat) ((8 * ss.length + lenS ss : Nat) : Int) 0) (by repeat constructor)
  refine s_do hf rfl (y_call (hf.eval rfl) (hf.evals rfl) Tryz.call103 ((bU32_spec _ _ _ p _ ((8 * ss.length + lenS ss : Nat) : Int) 0 hs (fun _ => by omega) (by omega) (by rw [List.length_append, leB_len]; omega) (ss[i].2 - ss[i].1)).mono ?_))
  rintro e w1 ⟨rfl, hs⟩
  rw [num4 (by omega) (by omega) (by rw [List.length_append, leB_len]; omega)] at hs
  refine ⟨_, rfl, ?_⟩; clear hf a; intro a hf
  refine s_nil (blk_n (then_n (wp_region_lit ?_)))
  refine s_v hf (x_bin (hf.eval rfl) (hf.eval rfl) (r_addi _ (by omega) (by omega))) ?_; clear hf a; intro a hf
  refine s_m hf rfl ?_; clear hf a; intro a hf
  refine s_nil ?_
  exact ⟨_, _, ⟨i + 1, rfl, rfl, by omega, by rw [flat_succ hlt]; unfold spH at hs ⊢; rw [← List.append_assoc]; exact hs.lose .k1⟩, by omega, hf.sub ⟨rfl, rfl, rfl, rfl, rfl, rfl, rfl, trivial⟩⟩
 simp only [zd1, zd2, zd3, zd4, zd5, zd6, zd7] at hi0
 obtain rfl : i = ss.length := by omega
 rw [List.take_length] at hs
 refine wp_exit (then_x (then_x (blk_x (then_n (wp_seq (wp_seq (wp_region_lit ?_)))))))
 refine s_m hf rfl ?_; clear hf a; intro a hf
 refine s_v hf (x_len Tryz.underlying68 (hf.eval rfl)) ?_; clear hf a; intro a hf
 refine s_m hf rfl ?_; clear hf a; intro a hf
 refine s_nil (then_n (wp_block ?_))
 refine c_loop (L0 := [(0, _), (1, _), (4, _), (5, _), (13, _), (14, _), (15, _), (16, _), (31, _), (32, _)]) (fun M w m => ∃ i : Nat, M = [(33, .int .i64 (i : Int))] ∧ ss.length - i = m ∧ i ≤ ss.length ∧ St ⟨w0, None_⟩ w [bufA 160 5 p (ss.flatMap spH ++ (ss.take i).flatMap (spD c)) ((8 * ss.length + lenS ss : Nat) : Int) 0]) (M0 := [(33, .int .i64 0)]) (⟨0, rfl, rfl, Nat.zero_le _, by rw [List.take_zero, List.flatMap_nil, List.append_nil]; exact hs⟩) (hf.sub ⟨rfl, rfl, rfl, rfl, rfl, rfl, rfl, rfl, rfl, rfl, rfl, trivial⟩) ?_
 clear hf hs a
 rintro M m a w ⟨i, rfl, rfl, hi, hs⟩ hf
 refine wp_seq (wp_region_lit ?_)
 refine s_v hf (x_bin (hf.eval rfl) (hf.eval rfl) (r_lt _ _ _ _)) ?_; clear hf a; intro a hf
 refine s_nil (then_n (wp_seq ?_))
 refine c_cond hf rfl (fun hi1 => ?_) (fun hi1 => ?_)
 ·simp only [zd1, zd2, zd3, zd4, zd5, zd6, zd7] at hi1
  have hlt : i < ss.length := by omega
  obtain ⟨as_, rfl⟩ := hrs.some (by omega)
  obtain ⟨k1, k2, k3, _⟩ := spc_get hss hlt
  have hsp9 := hsl _ (List.getElem_mem hlt)
  have hdi := dat_len (Int.le_refl 0) (spc_take i hss)
  have hls9 := lenS_succ hlt
  have hsl9 := spD_len (c := c) (s := ss[i]) (by omega) k2 k3
  have hmono : lenS (ss.take (i + 1)) ≤ lenS ss := lenS_take _ _
  refine wp_skip (then_n (wp_seq (wp_block (wp_seq (wp_region_lit ?_)))))
  refine s_v hf (x_indexAddr sl68 (hf.eval rfl) (hf.eval rfl) (by omega) (by omega)) ?_; clear hf a; intro a hf
  refine s_r hf (x_loadS (f := spF) ag119 (fun _ => rfl) (hs.old hrs) (hf.eval rfl) (by simpa using hlt)) ?_; clear hf a; intro a hf
  replace hf := hf.now (k := 36) (v' := .agg (spF ss[i]).toArray) rfl (rfl)
  refine s_do hf rfl (y_alloc hs Tryz.zeroValue119 ?_); clear hf hs a; intro b9 w hs a hf
  change St _ _ (cb b9 119 [.int .i64 0, .int .i64 0] :: _) at hs
  refine s_do0 hf rfl (y_storeAgg (cs := spF ss[i]) hs (n := 2) (by kernel_rfl) (hf.eval rfl) (hf.eval rfl) (by simp [Value.oneCell', spF]) rfl rfl .k0 ?_); clear hf hs a; intro w hs a hf
  refine s_nil (then_n (wp_region_lit ?_))
  refine s_m hf rfl ?_; clear hf a; intro a hf
  refine s_m hf rfl ?_; clear hf a; intro a hf
  refine s_v hf (x_fieldAddr fo119_0 (hf.eval rfl)) ?_; clear hf a; intro a hf
  refine s_r hf (x_load sc3 (hf.eval rfl) (by apply hs.cell <;> repeat constructor)) ?_; clear hf a; intro a hf
  refine s_v hf (x_fieldAddr fo119_1 (hf.eval rfl)) ?_; clear hf a; intro a hf
  refine s_r hf (x_load sc3 (hf.eval rfl) (by apply hs.cell <;> repeat constructor)) ?_; clear hf a; intro a hf
  refine s_v hf (x_slice sl22 (hf.eval rfl) (hf.eval rfl) (hf.eval rfl)  (by omega) (by omega) (by omega)) ?_; clear hf a; intro a hf
  replace hf := hf.now (k := 43) (v' := .slice (subA a1 c1 ss[i].1.toNat 1) (spD c ss[i]).length (c1 - ss[i].1.toNat)) rfl (by rw [hsl9]; exact slice_eq rfl (by omega) rfl)
  refine s_r hf (x_bytesStr Tryz.underlying22 Tryz.underlying9 Tryz.underlying5 (hf.eval rfl) (l := spD c ss[i]) (by unfold spD; exact sub_rd (hs.oldB hr1) (by omega))) ?_; clear hf a; intro a hf
  replace hs := hs.take (A := bufA 160 5 p (ss.flatMap spH ++ (ss.take i).flatMap (spD c)) ((8 * ss.length + lenS ss : Nat) : Int) 0) (by repeat constructor)
  refine s_do hf rfl (y_call (hf.eval rfl) (hf.evals rfl) Tryz.call104 ((bText_spec _ _ _ p _ ((8 * ss.length + lenS ss : Nat) : Int) 0 hs (fun _ => by omega) (by omega) (by rw [List.length_append]; omega) (spD c ss[i]) (by omega)).mono ?_))
  rintro e w1 ⟨rfl, hs⟩
  rw [txt0 (by rw [List.length_append]; omega)] at hs
  refine ⟨_, rfl, ?_⟩; clear hf a; intro a hf
  refine s_nil (blk_n (then_n (wp_region_lit ?_)))
  refine s_v hf (x_bin (hf.eval rfl) (hf.eval rfl) (r_addi _ (by omega) (by omega))) ?_; clear hf a; intro a hf
  refine s_m hf rfl ?_; clear hf a; intro a hf
  refine s_nil ?_
  exact ⟨_, _, ⟨i + 1, rfl, rfl, by omega, by rw [flat_succ hlt, ← List.append_assoc]; exact hs.lose .k1⟩, by omega, hf.sub ⟨rfl, rfl, rfl, rfl, rfl, rfl, rfl, rfl, rfl, rfl, rfl, trivial⟩⟩
 simp only [zd1, zd2, zd3, zd4, zd5, zd6, zd7] at hi1
 obtain rfl : i = ss.length := by omega
 rw [List.take_length] at hs
 refine wp_exit (then_x (then_x (blk_x (then_n (wp_seq (wp_region_lit ?_))))))
 refine s_m hf rfl ?_; clear hf a; intro a hf
 refine s_do hf rfl (y_call (hf.eval rfl) (hf.evals rfl) Tryz.call105 ((bTake_spec _ _ _ p _ ((8 * ss.length + lenS ss : Nat) : Int) 0 hs (fun _ => by omega) (by omega) (by rw [List.length_append]; omega)).mono ?_))
 rintro e w1 ⟨ga, gc, rfl, hs⟩
 rw [takeB0] at hs ⊢
 refine ⟨_, rfl, ?_⟩; clear hf a; intro a hf
 refine s_a hf rfl ?_; clear hf a; intro a hf
 refine s_nil (then_n ?_)
 refine wp_ret ?_
 refine r_1 hf Tryz.results77 rfl ?_
 exact ⟨ga, gc, rfl, St.keep [_] _ hs⟩
end Go.Proofs.YtehakfbfjpolfaaGreatDoor

namespace Go.Proofs.YtehakfbfjpolfaaGreatDoor
open Go Vw
theorem sav_len {N : Nat} (old : Int) : ∀ {ws : List Wr}, (∀ z ∈ ws, z.2.2.2.length ≤ N) → ∀ s ∈ savL old ws, s.2 - s.1 ≤ (N : Int)
  | [], _, s, hs => absurd hs (by simp [savL])
  | z :: l, h, s, hs => by
    have e : savL old (z :: l) = (if z.1 < min old (z.1 + wL z) then [(z.1, min old (z.1 + wL z))] else []) ++ savL old l := rfl
    rw [e] at hs
    rcases List.mem_append.1 hs with hs | hs
    · split at hs
      · rw [List.mem_singleton] at hs
        subst hs
        have h1 := h z (by simp)
        have h2 : wL z = (z.2.2.2.length : Int) := rfl
        simp only
        omega
      · cases hs
    · exact sav_len old (fun y hy => h y (by simp [hy])) s hs
theorem aplE_0 {cl : Nat} {size : Int} {ws : List Wr} (h : aplE cl size ws = 0) : (cl : Int) ≤ 16777216 ∧ (0 ≤ size ∧ size ≤ 16777216) ∧ rgt size ws 0 = true := by
  unfold aplE at h
  split at h
  · exact absurd h (by decide)
  · rename_i h1
    split at h
    · exact absurd h (by decide)
    · rename_i h2
      exact ⟨by omega, by omega, by simpa using h2⟩
attribute [local irreducible] Vw.sl Vw.sdS Vw.bodyS Vw.zt Vw.putPs Vw.seOk Vw.lkV Vw.runS Vw.opsU Vw.aplR Vw.aplE Vw.filU Vw.seaU Vw.bplU Vw.bodU Vw.savL
theorem begin_spec (w0 w : World) (R : List Asrt) (D : Nat) (s : DS) (hT : Tab 0 (hp w0)) (hs : St ⟨w0, None_⟩ w (diskA 85 127 5 3 D s :: R)) (ho : DOk s) (seq size : Int) (aw : Option Addr) (cw : Nat) (ws : List Wr) (hrw : RdyS wF 2 ⟨w0, None_⟩ R (.slice aw ws.length cw) ws) (hlw : ws.length ≤ 1048576) (hgw : ∀ z ∈ ws, Rdy ⟨w0, None_⟩ R (.slice z.2.1 z.2.2.2.length z.2.2.1) z.2.2.2 ∧ z.2.2.2.length ≤ 1048576) : Calls Tryz.prog 41 #[.pointer (some ⟨D, 0, none⟩), .int .i64 seq, .int .i64 size, .slice aw ws.length cw] w fun e w' => ∃ v, e = .returned (.tuple #[v, .int .i64 (refE s seq size ws)]) ∧ (refE s seq size ws ≠ 0 → St ⟨w0, None_⟩ w' (diskA 85 127 5 3 D s :: R)) ∧ (refE s seq size ws = 0 → ∃ p ab cb_, v = .pointer (some ⟨p, 0, none⟩) ∧ St ⟨w0, None_⟩ w' (cb p 113 (runF (.pointer (some ⟨D, 0, none⟩)) (s.now.length : Int) size (.slice aw ws.length cw) (slU 0 seq s.now size ws) (.slice ab (bodU s.now ws).length cb_) (bplU s.now size) (seaU s.now size ws) (filU s.now size ws)) :: slB 5 (.slice ab (bodU s.now ws).length cb_) (bodU s.now ws) :: diskA 85 127 5 3 D s :: R)) := by
 have hn1 := ho.now
 have hn2 := ho.room1
 refine c_enter (N := 112) Tryz.func41 rfl Tryz.ntmps41 (by simp) ?_
 intro a hf
 refine wp_seq (wp_region_lit ?_)
 refine s_a hf rfl ?_; clear hf a; intro a hf
 refine s_a hf rfl ?_; clear hf a; intro a hf
 refine s_nil (then_n (wp_seq (wp_seq (wp_region_lit ?_))))
 refine s_m hf rfl ?_; clear hf a; intro a hf
 refine s_v hf (x_eqNil Tryz.underlying24 (hf.eval rfl) (hf.eval rfl)) ?_; clear hf a; intro a hf
 replace hf := hf.now (k := 16) (v' := .bool false) rfl rfl
 refine s_m hf rfl ?_; clear hf a; intro a hf
 refine s_do hf (wanted_of hf rfl rfl rfl) (.value (x_move (hf.eval rfl) _) ?_); clear hf a; intro a hf
 refine s_do hf (wanted_of hf rfl rfl rfl) (.value (x_bin (hf.eval rfl) (hf.eval rfl) (r_lt _ _ _ _) _) ?_); clear hf a; intro a hf
 refine s_v hf (x_pick_f (hf.eval rfl) (hf.eval rfl)) ?_; clear hf a; intro a hf
 refine s_m hf rfl ?_; clear hf a; intro a hf
 refine s_bool hf (k := 21) rfl (fun hg1_6 hf' => ?_) (fun hg1_6 hf' => ?_)
 ·clear hf
  have hf := hf'
  clear hf'
  first | simp only [zd1, zd2, zd3, zd4, ne_eq, Classical.not_not] at hg1_6 | skip
  refine s_pass hf rfl rfl ?_; clear hf a; intro a hf
  refine s_pass hf rfl rfl ?_; clear hf a; intro a hf
  refine s_v hf (x_pick_t (hf.eval rfl) (hf.eval rfl)) ?_; clear hf a; intro a hf
  refine s_m hf rfl ?_; clear hf a; intro a hf
  refine s_pass hf rfl rfl ?_; clear hf a; intro a hf
  refine s_pass hf rfl rfl ?_; clear hf a; intro a hf
  refine s_pass hf rfl rfl ?_; clear hf a; intro a hf
  refine s_v hf (x_pick_t (hf.eval rfl) (hf.eval rfl)) ?_; clear hf a; intro a hf
  refine s_nil (then_n ?_)
  refine c_cond_t hf rfl rfl ?_
  refine wp_seq (wp_region_lit ?_)
  refine s_a hf rfl ?_; clear hf a; intro a hf
  refine s_a hf rfl ?_; clear hf a; intro a hf
  refine s_nil (then_n ?_)
  refine wp_ret ?_
  refine then_r ?_
  refine r_2 hf Tryz.results41 rfl rfl ?_
  have hr : refE s seq size ws = 1 := by unfold refE; rw [if_pos (by omega)]
  exact ⟨.pointer none, by rw [hr] <;> rfl, fun _ => hs, fun h => absurd h (by rw [hr]; first | decide | exact hi2)⟩
 clear hf
 have hf := hf'
 clear hf'
 first | simp only [zd1, zd2, zd3, zd4, ne_eq, Classical.not_not] at hg1_6 | skip
 refine s_do hf (wanted_of hf rfl rfl rfl) (.value (x_move (hf.eval rfl) _) ?_); clear hf a; intro a hf
 refine s_do hf (wanted_of hf rfl rfl rfl) (.value (x_bin (hf.eval rfl) (hf.eval rfl) (r_gt _ _ _ _) _) ?_); clear hf a; intro a hf
 refine s_v hf (x_pick_f (hf.eval rfl) (hf.eval rfl)) ?_; clear hf a; intro a hf
 refine s_m hf rfl ?_; clear hf a; intro a hf
 refine s_bool hf (k := 25) rfl (fun hg1_10 hf' => ?_) (fun hg1_10 hf' => ?_)
 ·clear hf
  have hf := hf'
  clear hf'
  first | simp only [zd1, zd2, zd3, zd4, ne_eq, Classical.not_not] at hg1_10 | skip
  refine s_pass hf rfl rfl ?_; clear hf a; intro a hf
  refine s_pass hf rfl rfl ?_; clear hf a; intro a hf
  refine s_pass hf rfl rfl ?_; clear hf a; intro a hf
  refine s_v hf (x_pick_t (hf.eval rfl) (hf.eval rfl)) ?_; clear hf a; intro a hf
  refine s_nil (then_n ?_)
  refine c_cond_t hf rfl rfl ?_
  refine wp_seq (wp_region_lit ?_)
  refine s_a hf rfl ?_; clear hf a; intro a hf
  refine s_a hf rfl ?_; clear hf a; intro a hf
  refine s_nil (then_n ?_)
  refine wp_ret ?_
  refine then_r ?_
  refine r_2 hf Tryz.results41 rfl rfl ?_
  have hr : refE s seq size ws = 1 := by unfold refE; rw [if_pos (by omega)]
  exact ⟨.pointer none, by rw [hr] <;> rfl, fun _ => hs, fun h => absurd h (by rw [hr]; first | decide | exact hi2)⟩
 clear hf
 have hf := hf'
 clear hf'
 first | simp only [zd1, zd2, zd3, zd4, ne_eq, Classical.not_not] at hg1_10 | skip
 refine s_do hf (wanted_of hf rfl rfl rfl) (.value (x_move (hf.eval rfl) _) ?_); clear hf a; intro a hf
 refine s_do hf (wanted_of hf rfl rfl rfl) (y_call (hf.eval rfl) (hf.evals rfl) Tryz.call74 ((sized_spec _ _).mono ?_))
 rintro e w1 ⟨rfl, hw9⟩
 rw [hw9]
 clear hw9 w1
 refine ⟨_, rfl, ?_⟩; clear hf a; intro a hf
 refine s_do hf (wanted_of hf rfl rfl rfl) (.value (x_not (hf.eval rfl) _) ?_); clear hf a; intro a hf
 refine s_v hf (x_pick_f (hf.eval rfl) (hf.eval rfl)) ?_; clear hf a; intro a hf
 refine s_nil (then_n ?_)
 refine c_cond hf rfl (fun hi0 => ?_) (fun hi0 => ?_)
 ·first | simp only [zd1, zd2, zd3, zd4, ne_eq, Classical.not_not] at hi0 | skip
  refine wp_seq (wp_region_lit ?_)
  refine s_a hf rfl ?_; clear hf a; intro a hf
  refine s_a hf rfl ?_; clear hf a; intro a hf
  refine s_nil (then_n ?_)
  refine wp_ret ?_
  refine then_r ?_
  refine r_2 hf Tryz.results41 rfl rfl ?_
  have hr : refE s seq size ws = 1 := by unfold refE; rw [if_pos (by omega)]
  exact ⟨.pointer none, by rw [hr] <;> rfl, fun _ => hs, fun h => absurd h (by rw [hr]; first | decide | exact hi2)⟩
 first | simp only [zd1, zd2, zd3, zd4, ne_eq, Classical.not_not] at hi0 | skip
 refine wp_skip (then_n (wp_seq (wp_seq (wp_region_lit ?_))))
 refine s_m hf rfl ?_; clear hf a; intro a hf
 refine s_do hf rfl (y_call (hf.eval rfl) (hf.evals rfl) Tryz.call59 ((dAlive_spec _ _ _ D s hs).mono ?_))
 rintro e w1 ⟨rfl, hw9⟩
 rw [hw9]
 clear hw9 w1
 refine ⟨_, rfl, ?_⟩; clear hf a; intro a hf
 refine s_v hf (x_not (hf.eval rfl)) ?_; clear hf a; intro a hf
 refine s_nil (then_n ?_)
 refine c_cond hf rfl (fun hi1 => ?_) (fun hi1 => ?_)
 ·simp only [Bool.not_not, Bool.not_eq_true', Bool.not_eq_false'] at hi1
  refine wp_seq (wp_region_lit ?_)
  refine s_a hf rfl ?_; clear hf a; intro a hf
  refine s_a hf rfl ?_; clear hf a; intro a hf
  refine s_nil (then_n ?_)
  refine wp_ret ?_
  refine then_r ?_
  refine r_2 hf Tryz.results41 rfl rfl ?_
  have hr : refE s seq size ws = 12 := by unfold refE; rw [if_neg (show ¬ (seq < 0 ∨ 4294967295 < seq ∨ ¬ (0 ≤ size ∧ size ≤ 16777216)) by omega), if_pos hi1]
  exact ⟨.pointer none, by rw [hr] <;> rfl, fun _ => hs, fun h => absurd h (by rw [hr]; first | decide | exact hi2)⟩
 simp only [Bool.not_not, Bool.not_eq_true', Bool.not_eq_false'] at hi1
 refine wp_skip (then_n (wp_seq (wp_region_lit ?_)))
 refine s_m hf rfl ?_; clear hf a; intro a hf
 refine s_do hf rfl (y_call (hf.eval rfl) (hf.evals rfl) Tryz.call21 ((dImage_spec _ _ _ D s hs (by omega)).mono ?_))
 rintro e w1 ⟨e1, f1, rfl, hs⟩
 refine ⟨_, rfl, ?_⟩; clear hf a; intro a hf
 refine s_a hf rfl ?_; clear hf a; intro a hf
 refine s_nil (then_n (wp_seq (wp_region_lit ?_)))
 refine s_m hf rfl ?_; clear hf a; intro a hf
 refine s_m hf rfl ?_; clear hf a; intro a hf
 refine s_m hf rfl ?_; clear hf a; intro a hf
 refine s_do hf rfl (y_call (hf.eval rfl) (hf.evals rfl) Tryz.call75 ((apply_spec _ _ f1 s.now (hs.rdB .k0 fun h => slB_rd) (by omega) size aw cw ws (hrw _ [_, _] hs) hlw (fun z hz => ⟨(hgw z hz).1 _ [_, _] hs, (hgw z hz).2⟩) (aplR s.now size ws) rfl (aplE s.now.length size ws) rfl).mono ?_))
 rintro e w1 ⟨ga, gc, rfl, hj⟩
 replace hs := hs.join hj
 simp only [List.cons_append, List.nil_append] at hs
 refine ⟨_, rfl, ?_⟩; clear hf a; intro a hf
 refine s_m hf rfl ?_; clear hf a; intro a hf
 refine s_v hf (x_extract (hf.eval rfl) rfl) ?_; clear hf a; intro a hf
 refine s_v hf (x_extract (hf.eval rfl) rfl) ?_; clear hf a; intro a hf
 refine s_a hf rfl ?_; clear hf a; intro a hf
 refine s_a hf rfl ?_; clear hf a; intro a hf
 refine s_nil (then_n (wp_seq (wp_seq (wp_region_lit ?_))))
 refine s_m hf rfl ?_; clear hf a; intro a hf
 refine s_v hf (x_bin (hf.eval rfl) (hf.eval rfl) (r_ne _ _ _ _)) ?_; clear hf a; intro a hf
 refine s_nil (then_n ?_)
 refine c_cond hf rfl (fun hi2 => ?_) (fun hi2 => ?_)
 ·first | simp only [zd1, zd2, zd3, zd4, ne_eq, Classical.not_not] at hi2 | skip
  refine wp_seq (wp_region_lit ?_)
  refine s_m hf rfl ?_; clear hf a; intro a hf
  refine s_a hf rfl ?_; clear hf a; intro a hf
  refine s_a hf rfl ?_; clear hf a; intro a hf
  refine s_nil (then_n ?_)
  refine wp_ret ?_
  refine then_r ?_
  refine r_2 hf Tryz.results41 rfl rfl ?_
  have hr : refE s seq size ws = aplE s.now.length size ws := by unfold refE; rw [if_neg (show ¬ (seq < 0 ∨ 4294967295 < seq ∨ ¬ (0 ≤ size ∧ size ≤ 16777216)) by omega), if_neg (show ¬ s.dead = true by simp [hi1]), if_pos hi2]
  replace hs := St.mid [_, _] (hs.take (A := diskA 85 127 5 3 D s) (by repeat constructor))
  exact ⟨.pointer none, by rw [hr] <;> rfl, fun _ => hs, fun h => absurd h (by rw [hr]; first | decide | exact hi2)⟩
 first | simp only [zd1, zd2, zd3, zd4, ne_eq, Classical.not_not] at hi2 | skip
 obtain ⟨u1, u2, u3⟩ := aplE_0 hi2
 have hVl := aplR_len s.now size ws
 refine wp_skip (then_n (wp_seq (wp_seq (wp_region_lit ?_))))
 refine s_m hf rfl ?_; clear hf a; intro a hf
 refine s_do hf rfl (y_call (hf.eval rfl) (hf.evals rfl) Tryz.call68 ((quiet_spec _ (hT.kept hs.kept) _ f1 s.now (hs.rdB (A := slB 5 (.slice e1 s.now.length f1) s.now) (by repeat constructor) fun h => slB_rd) (by omega)).mono ?_))
 rintro e w1 ⟨rfl, hk⟩
 replace hs := hs.ext hk
 refine ⟨_, rfl, ?_⟩; clear hf a; intro a hf
 refine s_v hf (x_not (hf.eval rfl)) ?_; clear hf a; intro a hf
 refine s_m hf rfl ?_; clear hf a; intro a hf
 refine s_bool hf (k := 48) rfl (fun hg9_3 hf' => ?_) (fun hg9_3 hf' => ?_)
 ·clear hf
  have hf := hf'
  clear hf'
  first | simp only [zd1, zd2, zd3, zd4, ne_eq, Classical.not_not] at hg9_3 | skip
  refine s_pass hf rfl rfl ?_; clear hf a; intro a hf
  refine s_pass hf rfl rfl ?_; clear hf a; intro a hf
  refine s_pass hf rfl rfl ?_; clear hf a; intro a hf
  refine s_v hf (x_pick_t (hf.eval rfl) (hf.eval rfl)) ?_; clear hf a; intro a hf
  refine s_nil (then_n ?_)
  refine c_cond_t hf rfl rfl ?_
  refine wp_seq (wp_region_lit ?_)
  refine s_a hf rfl ?_; clear hf a; intro a hf
  refine s_a hf rfl ?_; clear hf a; intro a hf
  refine s_nil (then_n ?_)
  refine wp_ret ?_
  refine then_r ?_
  refine r_2 hf Tryz.results41 rfl rfl ?_
  have hr : refE s seq size ws = 141 := by unfold refE; rw [if_neg (show ¬ (seq < 0 ∨ 4294967295 < seq ∨ ¬ (0 ≤ size ∧ size ≤ 16777216)) by omega), if_neg (show ¬ s.dead = true by simp [hi1]), if_neg (by simp [hi2]), if_pos (by first | exact .inl hg9_3 | exact .inr hi3)]
  replace hs := St.mid [_, _] (hs.take (A := diskA 85 127 5 3 D s) (by repeat constructor))
  exact ⟨.pointer none, by rw [hr] <;> rfl, fun _ => hs, fun h => absurd h (by rw [hr]; first | decide | exact hi2)⟩
 clear hf
 have hf := hf'
 clear hf'
 first | simp only [zd1, zd2, zd3, zd4, ne_eq, Classical.not_not] at hg9_3 | skip
 refine s_do hf (wanted_of hf rfl rfl rfl) (.value (x_move (hf.eval rfl) _) ?_); clear hf a; intro a hf
 refine s_do hf (wanted_of hf rfl rfl rfl) (y_call (hf.eval rfl) (hf.evals rfl) Tryz.call68 ((quiet_spec _ (hT.kept hs.kept) _ gc (aplR s.now size ws) (hs.rdB (A := slB 5 (.slice ga (aplR s.now size ws).length gc) (aplR s.now size ws)) (by repeat constructor) fun h => slB_rd) (by omega)).mono ?_))
 rintro e w1 ⟨rfl, hk⟩
 replace hs := hs.ext hk
 refine ⟨_, rfl, ?_⟩; clear hf a; intro a hf
 refine s_do hf (wanted_of hf rfl rfl rfl) (.value (x_not (hf.eval rfl) _) ?_); clear hf a; intro a hf
 refine s_v hf (x_pick_f (hf.eval rfl) (hf.eval rfl)) ?_; clear hf a; intro a hf
 refine s_nil (then_n ?_)
 refine c_cond hf rfl (fun hi3 => ?_) (fun hi3 => ?_)
 ·first | simp only [zd1, zd2, zd3, zd4, ne_eq, Classical.not_not] at hi3 | skip
  refine wp_seq (wp_region_lit ?_)
  refine s_a hf rfl ?_; clear hf a; intro a hf
  refine s_a hf rfl ?_; clear hf a; intro a hf
  refine s_nil (then_n ?_)
  refine wp_ret ?_
  refine then_r ?_
  refine r_2 hf Tryz.results41 rfl rfl ?_
  have hr : refE s seq size ws = 141 := by unfold refE; rw [if_neg (show ¬ (seq < 0 ∨ 4294967295 < seq ∨ ¬ (0 ≤ size ∧ size ≤ 16777216)) by omega), if_neg (show ¬ s.dead = true by simp [hi1]), if_neg (by simp [hi2]), if_pos (by first | exact .inl hg9_3 | exact .inr hi3)]
  replace hs := St.mid [_, _] (hs.take (A := diskA 85 127 5 3 D s) (by repeat constructor))
  exact ⟨.pointer none, by rw [hr] <;> rfl, fun _ => hs, fun h => absurd h (by rw [hr]; first | decide | exact hi2)⟩
 first | simp only [zd1, zd2, zd3, zd4, ne_eq, Classical.not_not] at hi3 | skip
 have hUo : UOk s.now seq size ws := ⟨by omega, by omega, u2, u3⟩
 have hok : ∀ z ∈ ws, 0 ≤ z.1 ∧ z.1 + wL z ≤ 16777216 := fun z hz => by have h8 := rgt_all size ws 0 (Int.le_refl _) u3 z hz; omega
 have hss := sav_spc (old := (s.now.length : Int)) u3
 have hsc := sav_count (s.now.length : Int) ws
 have hsl := sav_len (s.now.length : Int) (fun z hz => (hgw z hz).2)
 refine wp_skip (then_n (wp_seq (wp_region_lit ?_)))
 refine s_m hf rfl ?_; clear hf a; intro a hf
 refine s_v hf (x_len Tryz.underlying22 (hf.eval rfl)) ?_; clear hf a; intro a hf
 refine s_m hf rfl ?_; clear hf a; intro a hf
 refine s_do hf rfl (y_call (hf.eval rfl) (hf.evals rfl) Tryz.call76 ((saved_spec _ (s.now.length : Int) (by omega) (by omega) aw cw ws (hrw _ [_, _, _] hs) hlw hok).mono ?_))
 rintro e w1 ⟨vs, rfl, hj⟩
 replace hs := hs.join hj
 simp only [List.cons_append, List.nil_append] at hs
 obtain ⟨avs, cvs, rfl⟩ := sl_shape hs
 refine ⟨_, rfl, ?_⟩; clear hf a; intro a hf
 refine s_a hf rfl ?_; clear hf a; intro a hf
 refine s_nil (then_n (wp_seq (wp_region_lit ?_)))
 refine s_m hf rfl ?_; clear hf a; intro a hf
 refine s_m hf rfl ?_; clear hf a; intro a hf
 refine s_v hf (x_len Tryz.underlying22 (hf.eval rfl)) ?_; clear hf a; intro a hf
 refine s_m hf rfl ?_; clear hf a; intro a hf
 refine s_m hf rfl ?_; clear hf a; intro a hf
 refine s_m hf rfl ?_; clear hf a; intro a hf
 refine s_m hf rfl ?_; clear hf a; intro a hf
 refine s_do hf rfl (y_call (hf.eval rfl) (hf.evals rfl) Tryz.call77 ((bodyOf_spec _ _ f1 s.now (hs.rdB (A := slB 5 (.slice e1 s.now.length f1) s.now) (by repeat constructor) fun h => slB_rd) (by omega) avs cvs (savL (s.now.length : Int) ws) (hs.rd (A := sl 119 2 (.slice avs (savL (s.now.length : Int) ws).length cvs) (savL (s.now.length : Int) ws).length ((savL (s.now.length : Int) ws).flatMap spF)) (by repeat constructor) fun h hh => sl_rd hh) (by omega) hss hsl).mono ?_))
 rintro e w1 ⟨ab, cb_, rfl, hj⟩
 replace hs := hs.join hj
 simp only [List.cons_append, List.nil_append] at hs
 have hbe : bodyB s.now (savL (s.now.length : Int) ws) = (bodU s.now ws) := by unfold bodU; rfl
 rw [hbe] at hs ⊢
 have hbL : (bodU s.now ws).length ≤ 33554432 := by rw [← hbe, body_len hss]; have := lenS_le hss (by omega); omega
 refine ⟨_, rfl, ?_⟩; clear hf a; intro a hf
 refine s_r hf (x_build (v := .agg (runF (.pointer (some ⟨D, 0, none⟩)) (s.now.length : Int) size (.slice aw ws.length cw) zSl (.slice ab (bodU s.now ws).length cb_) 0 0 0).toArray) (hf.parts rfl) (fun w => by kernel_rfl) _) ?_; clear hf a; intro a hf
 refine s_do hf rfl (y_box hs (hf.eval rfl) ?_); clear hf hs a; intro p w hs a hf
 replace hs : St _ _ (cb p 113 (runF (.pointer (some ⟨D, 0, none⟩)) (s.now.length : Int) size (.slice aw ws.length cw) zSl (.slice ab (bodU s.now ws).length cb_) 0 0 0) :: _) := hs
 refine s_a hf rfl ?_; clear hf a; intro a hf
 refine s_nil (then_n (wp_seq ?_))
 refine c_draw hs (fun _ => True) [.held, .held, .held, .held, .read, .held, .held, .held, .held, .read, .held, .eff, .held, .held, .fin] (by kernel_rfl) (by kernel_rfl) (fun _ _ _ => trivial) ?_
 clear hs; intro w hs hC hw
 refine m_held hf rfl (fun w' _ => x_move (hf.eval rfl) w') ?_; clear hf a; intro a hf
 refine m_held hf rfl (fun w' _ => x_move (hf.eval rfl) w') ?_; clear hf a; intro a hf
 refine m_held hf rfl (fun w' _ => x_nilCheck (hf.eval rfl) w') ?_; clear hf a; intro a hf
 refine m_held hf rfl (fun w' _ => x_fieldAddr fo113_1 (hf.eval rfl) w') ?_; clear hf a; intro a hf
 refine m_read hf rfl (x_load sc3 (hf.eval rfl) (by apply hs.cell <;> repeat constructor)) ?_; clear hf a; intro a hf
 refine m_held hf rfl (fun w' _ => x_move (hf.eval rfl) w') ?_; clear hf a; intro a hf
 refine m_held hf rfl (fun w' _ => x_move (hf.eval rfl) w') ?_; clear hf a; intro a hf
 refine m_held hf rfl (fun w' _ => x_nilCheck (hf.eval rfl) w') ?_; clear hf a; intro a hf
 refine m_held hf rfl (fun w' _ => x_fieldAddr fo113_5 (hf.eval rfl) w') ?_; clear hf a; intro a hf
 refine m_read hf rfl (x_load sc22 (hf.eval rfl) (by apply hs.cell <;> repeat constructor)) ?_; clear hf a; intro a hf
 refine m_held hf rfl (fun w' _ => x_len Tryz.underlying22 (hf.eval rfl) w') ?_; clear hf a; intro a hf
 refine m_eff hf rfl (y_call (hf.eval rfl) (hf.evals rfl) Tryz.call78 ((placedF_spec _ (s.now.length : Int) size ((bodU s.now ws).length : Int) (by omega) (by omega) u2.1 u2.2 (by omega) (by omega)).mono ?_))
 rintro e w1 ⟨rfl, hk⟩
 replace hs := hs.ext hk
 refine ⟨_, rfl, ⟨trivial, ?_⟩⟩; clear hf a; intro a hf
 replace hf := hf.now (k := 78) (v' := .agg #[.int .i64 (bplU s.now size), .int .i64 (seaU s.now size ws), .int .i64 (filU s.now size ws)]) rfl (by unfold bplU seaU filU; rfl)
 refine m_held hf rfl (fun w' _ => x_nilCheck (hf.eval rfl) w') ?_; clear hf a; intro a hf
 refine m_held hf rfl (fun w' _ => x_fieldAddr fo113_6 (hf.eval rfl) w') ?_; clear hf a; intro a hf
 replace hs := hs.take (A := cb p 113 (runF (.pointer (some ⟨D, 0, none⟩)) (s.now.length : Int) size (.slice aw ws.length cw) zSl (.slice ab (bodU s.now ws).length cb_) 0 0 0)) (by repeat constructor)
 refine m_fin0 hf rfl (y_storeMid (cs := [.int .i64 (bplU s.now size), .int .i64 (seaU s.now size ws), .int .i64 (filU s.now size ws)]) (n := 3) hs (by kernel_rfl) (hf.eval rfl) (hf.eval rfl) (by simp [Value.oneCell']) rfl (by simp [runF]) .k0 ?_); clear hf hs a; intro w hs; intro a hf
 replace hs : St _ _ (cb p 113 (runF (.pointer (some ⟨D, 0, none⟩)) (s.now.length : Int) size (.slice aw ws.length cw) zSl (.slice ab (bodU s.now ws).length cb_) (bplU s.now size) (seaU s.now size ws) (filU s.now size ws)) :: _) := hs
 refine then_n (wp_seq (wp_seq ?_))
 refine c_draw hs (fun w' => w'.cell? ⟨p, 14, none⟩ = some (.int .i64 (filU s.now size ws))) [.held, .held, .held, .held, .held, .held, .eff, .held] (by kernel_rfl) (by kernel_rfl) (fun w' _ hs => hs.cell .k0 rfl) ?_
 clear hs; intro w hs hC hw
 refine m_held hf rfl (fun w' _ => x_move (hf.eval rfl) w') ?_; clear hf a; intro a hf
 refine m_held hf rfl (fun w' _ => x_nilCheck (hf.eval rfl) w') ?_; clear hf a; intro a hf
 refine m_held hf rfl (fun w' _ => x_fieldAddr fo113_6 (hf.eval rfl) w') ?_; clear hf a; intro a hf
 refine m_held hf rfl (fun w' _ => x_fieldAddr fo111_2 (hf.eval rfl) w') ?_; clear hf a; intro a hf
 refine m_held hf rfl (fun w' hc => x_load sc3 (hf.eval rfl) hc) ?_; clear hf a; intro a hf
 refine m_held hf rfl (fun w' _ => x_move (hf.eval rfl) w') ?_; clear hf a; intro a hf
 replace hs := hs.take (A := diskA 85 127 5 3 D s) (by repeat constructor)
 refine m_eff hf rfl (y_call (hf.eval rfl) (hf.evals rfl) Tryz.call79 ((dCapacity_spec _ _ _ D s hs).mono ?_))
 rintro e w1 ⟨rfl, hw9⟩
 rw [hw9]
 clear hw9 w1
 refine ⟨_, rfl, ⟨hs.cell (by repeat constructor) rfl, ?_⟩⟩; clear hf a; intro a hf
 refine m_held hf rfl (fun w' _ => x_bin (hf.eval rfl) (hf.eval rfl) (r_gt _ _ _ _) w') ?_; clear hf a; intro a hf
 refine m_nil ?_
 refine then_n ?_
 refine c_cond hf rfl (fun hi4 => ?_) (fun hi4 => ?_)
 ·first | simp only [zd1, zd2, zd3, zd4, ne_eq, Classical.not_not] at hi4 | skip
  refine wp_seq (wp_region_lit ?_)
  refine s_a hf rfl ?_; clear hf a; intro a hf
  refine s_a hf rfl ?_; clear hf a; intro a hf
  refine s_nil (then_n ?_)
  refine wp_ret ?_
  refine then_r ?_
  refine r_2 hf Tryz.results41 rfl rfl ?_
  have hr : refE s seq size ws = 142 := by unfold refE; rw [if_neg (show ¬ (seq < 0 ∨ 4294967295 < seq ∨ ¬ (0 ≤ size ∧ size ≤ 16777216)) by omega), if_neg (show ¬ s.dead = true by simp [hi1]), if_neg (by simp [hi2]), if_neg (by intro h9; rcases h9 with h9 | h9; exact h9 hg9_3; exact h9 hi3), if_pos (by omega)]
  replace hs := St.mid [_, _, _, _, _] (hs.take (A := diskA 85 127 5 3 D s) (by repeat constructor))
  exact ⟨.pointer none, by rw [hr] <;> rfl, fun _ => hs, fun h => absurd h (by rw [hr]; first | decide | exact hi2)⟩
 first | simp only [zd1, zd2, zd3, zd4, ne_eq, Classical.not_not] at hi4 | skip
 refine wp_skip (then_n (wp_seq ?_))
 replace hs := hs.take (A := cb p 113 (runF (.pointer (some ⟨D, 0, none⟩)) (s.now.length : Int) size (.slice aw ws.length cw) zSl (.slice ab (bodU s.now ws).length cb_) (bplU s.now size) (seaU s.now size ws) (filU s.now size ws))) (by repeat constructor)
 refine c_draw hs (fun w' => w'.cell? ⟨p, 1, none⟩ = some (.int .i64 (s.now.length : Int)) ∧ w'.cell? ⟨p, 11, none⟩ = some (.slice ab (bodU s.now ws).length cb_)) [.held, .held, .held, .held, .held, .held, .held, .held, .held, .held, .held, .held, .held, .held, .held, .held, .held, .read, .eff, .held, .held, .held, .fin] (by kernel_rfl) (by kernel_rfl) (fun w' _ hs => ⟨hs.cell .k0 rfl, hs.cell .k0 rfl⟩) ?_
 clear hs; intro w hs hC hw
 refine m_held hf rfl (fun w' _ => x_move (hf.eval rfl) w') ?_; clear hf a; intro a hf
 refine m_held hf rfl (fun w' _ => x_move (hf.eval rfl) w') ?_; clear hf a; intro a hf
 refine m_held hf rfl (fun w' _ => x_move (hf.eval rfl) w') ?_; clear hf a; intro a hf
 refine m_held hf rfl (fun w' _ => x_nilCheck (hf.eval rfl) w') ?_; clear hf a; intro a hf
 refine m_held hf rfl (fun w' _ => x_fieldAddr fo113_1 (hf.eval rfl) w') ?_; clear hf a; intro a hf
 refine m_held hf rfl (fun w' hc => x_load sc3 (hf.eval rfl) hc.1) ?_; clear hf a; intro a hf
 refine m_held hf rfl (fun w' _ => x_move (hf.eval rfl) w') ?_; clear hf a; intro a hf
 refine m_held hf rfl (fun w' _ => x_move (hf.eval rfl) w') ?_; clear hf a; intro a hf
 refine m_held hf rfl (fun w' _ => x_len Tryz.underlying68 (hf.eval rfl) w') ?_; clear hf a; intro a hf
 refine m_held hf rfl (fun w' _ => x_move (hf.eval rfl) w') ?_; clear hf a; intro a hf
 refine m_held hf rfl (fun w' _ => x_nilCheck (hf.eval rfl) w') ?_; clear hf a; intro a hf
 refine m_held hf rfl (fun w' _ => x_fieldAddr fo113_5 (hf.eval rfl) w') ?_; clear hf a; intro a hf
 refine m_held hf rfl (fun w' hc => x_load sc22 (hf.eval rfl) hc.2) ?_; clear hf a; intro a hf
 refine m_held hf rfl (fun w' _ => x_len Tryz.underlying22 (hf.eval rfl) w') ?_; clear hf a; intro a hf
 refine m_held hf rfl (fun w' _ => x_move (hf.eval rfl) w') ?_; clear hf a; intro a hf
 refine m_held hf rfl (fun w' _ => x_nilCheck (hf.eval rfl) w') ?_; clear hf a; intro a hf
 refine m_held hf rfl (fun w' _ => x_fieldAddr fo113_5 (hf.eval rfl) w') ?_; clear hf a; intro a hf
 refine m_read hf rfl (x_load sc22 (hf.eval rfl) (by apply hs.cell <;> repeat constructor)) ?_; clear hf a; intro a hf
 refine m_eff hf rfl (y_call (hf.eval rfl) (hf.evals rfl) Tryz.call80 ((sum_spec _ (hT.kept hs.kept) _ cb_ (bodU s.now ws) (hs.rdB (A := slB 5 (.slice ab (bodU s.now ws).length cb_) (bodU s.now ws)) (by repeat constructor) fun h => slB_rd) (by omega)).mono ?_))
 rintro e w1 ⟨rfl, hk⟩
 replace hs := hs.ext hk
 refine ⟨_, rfl, ⟨⟨hs.cell .k0 rfl, hs.cell .k0 rfl⟩, ?_⟩⟩; clear hf a; intro a hf
 refine m_held hf rfl (fun w' hc => x_build (v := .agg (slF (slU 0 seq s.now size ws)).toArray) (hf.parts rfl) (fun w => by kernel_rfl) _) ?_; clear hf a; intro a hf
 refine m_held hf rfl (fun w' _ => x_nilCheck (hf.eval rfl) w') ?_; clear hf a; intro a hf
 refine m_held hf rfl (fun w' _ => x_fieldAddr fo113_4 (hf.eval rfl) w') ?_; clear hf a; intro a hf
 refine m_fin0 hf rfl (y_storeMid (cs := slF (slU 0 seq s.now size ws)) (n := 7) hs (by kernel_rfl) (hf.eval rfl) (hf.eval rfl) (by simp [Value.oneCell', slF]) rfl (by simp [runF]) .k0 ?_); clear hf hs a; intro w hs; intro a hf
 replace hs : St _ _ (cb p 113 (runF (.pointer (some ⟨D, 0, none⟩)) (s.now.length : Int) size (.slice aw ws.length cw) (slU 0 seq s.now size ws) (.slice ab (bodU s.now ws).length cb_) (bplU s.now size) (seaU s.now size ws) (filU s.now size ws)) :: _) := hs
 refine then_n (wp_seq (wp_region_lit ?_))
 refine s_m hf rfl ?_; clear hf a; intro a hf
 refine s_a hf rfl ?_; clear hf a; intro a hf
 refine s_a hf rfl ?_; clear hf a; intro a hf
 refine s_nil (then_n ?_)
 refine wp_ret ?_
 refine r_2 hf Tryz.results41 rfl rfl ?_
 have hr : refE s seq size ws = 0 := by unfold refE; rw [if_neg (show ¬ (seq < 0 ∨ 4294967295 < seq ∨ ¬ (0 ≤ size ∧ size ≤ 16777216)) by omega), if_neg (show ¬ s.dead = true by simp [hi1]), if_neg (by simp [hi2]), if_neg (by intro h9; rcases h9 with h9 | h9; exact h9 hg9_3; exact h9 hi3), if_neg (by omega)]
 replace hs := hs.take (A := diskA 85 127 5 3 D s) (by repeat constructor)
 replace hs := hs.take (A := slB 5 (.slice ab (bodU s.now ws).length cb_) (bodU s.now ws)) (by repeat constructor)
 replace hs := hs.take (A := cb p 113 (runF (.pointer (some ⟨D, 0, none⟩)) (s.now.length : Int) size (.slice aw ws.length cw) (slU 0 seq s.now size ws) (.slice ab (bodU s.now ws).length cb_) (bplU s.now size) (seaU s.now size ws) (filU s.now size ws))) (by repeat constructor)
 exact ⟨_, by rw [hr] <;> rfl, fun h => absurd hr h, fun _ => ⟨p, ab, cb_, rfl, St.cut [_, _, _] [_, _, _] hs⟩⟩
end Go.Proofs.YtehakfbfjpolfaaGreatDoor

namespace Go.Proofs.YtehakfbfjpolfaaGreatDoor
open Go Vw
attribute [local irreducible] Vw.sl Vw.lkV Vw.runS Vw.opsU Vw.aplR Vw.aplE Vw.filU Vw.seaU Vw.bplU Vw.bodU Vw.savL Vw.secS Vw.wrsU
theorem perm5 {σ : Sig} {w : World} {A B C D : Asrt} {R : List Asrt} (hs : St σ w (A :: B :: C :: D :: R)) : St σ w (B :: D :: A :: C :: R) := hs.take (A := C) .k2 |>.take (A := A) .k1 |>.take (A := D) .k3 |>.take (A := B) .k3
theorem perm6 {σ : Sig} {w : World} {A B C D : Asrt} {R : List Asrt} (hs : St σ w (B :: D :: A :: C :: R)) : St σ w (A :: B :: C :: D :: R) := hs.take (A := D) .k1 |>.take (A := C) .k3 |>.take (A := B) .k2 |>.take (A := A) .k3
theorem updAll (w0 w : World) (R : List Asrt) (p D b : Nat) (s : DS) (seq size : Int) (aw : Option Addr) (cw : Nat) (ws : List Wr) (hrw : RdyS wF 2 ⟨w0, None_⟩ R (.slice aw ws.length cw) ws) (hlw : ws.length ≤ 1048576) (hgw : ∀ z ∈ ws, Rdy ⟨w0, None_⟩ R (.slice z.2.1 z.2.2.2.length z.2.2.1) z.2.2.2 ∧ z.2.2.2.length ≤ 1048576) (ab : Option Addr) (cb_ : Nat) (hT : Tab 0 (hp w0)) (hU : UOk s.now seq size ws) (hro : filU s.now size ws ≤ 16777216)
    (q0 : Int) (hs : St ⟨w0, None_⟩ w (cb b 32 (([43, 44, 45, 46, 47, 48] : List Nat).map (fnV (.pointer (some ⟨p, 0, none⟩)))) :: cb p 113 (runF (.pointer (some ⟨D, 0, none⟩)) (s.now.length : Int) size (.slice aw ws.length cw) (q0, (slU 0 seq s.now size ws).2) (.slice ab (bodU s.now ws).length cb_) (bplU s.now size) (seaU s.now size ws) (filU s.now size ws)) :: slB 5 (.slice ab (bodU s.now ws).length cb_) (bodU s.now ws) :: diskA 85 127 5 3 D s :: R)) (ho : DOk s) (k : Nat) (hb : DB s k) (hk : k ≤ 28000000) :
    Calls Tryz.prog 42 #[.slice (some ⟨b, 0, none⟩) 6 6] w fun e w' => e = .returned (.int .i64 (runS s (opsU s.now seq size ws)).1) ∧ ∃ q, St ⟨w0, None_⟩ w' (cb b 32 (([43, 44, 45, 46, 47, 48] : List Nat).map (fnV (.pointer (some ⟨p, 0, none⟩)))) :: cb p 113 (runF (.pointer (some ⟨D, 0, none⟩)) (s.now.length : Int) size (.slice aw ws.length cw) (q, (slU 0 seq s.now size ws).2) (.slice ab (bodU s.now ws).length cb_) (bplU s.now size) (seaU s.now size ws) (filU s.now size ws)) :: slB 5 (.slice ab (bodU s.now ws).length cb_) (bodU s.now ws) :: diskA 85 127 5 3 D (runS s (opsU s.now seq size ws)).2 :: R) := by
  obtain ⟨F, bp, kk, g⟩ := geo hU
  have g1 := g.fil; have g2 := g.sea; have g3 := g.s1; have g4 := g.bpl
  have e1 : opsU s.now seq size ws = ([[clmU s.now seq size ws, syO], savU s.now size ws ++ [syO], [armU 3 s.now seq size ws, syO], wrsU ws ++ [syO], [armU 4 s.now seq size ws, syO], [(3, size, []), syO]] : List (List COp)).flatten := by
    unfold opsU opsA
    simp
  have hln : ([[clmU s.now seq size ws, syO], savU s.now size ws ++ [syO], [armU 3 s.now seq size ws, syO], wrsU ws ++ [syO], [armU 4 s.now seq size ws, syO], [(3, size, []), syO]] : List (List COp)).flatten.length ≤ 20 + ws.length := by
    rw [← e1, opsU_len, opsA_len]; split <;> omega
  have hbl : (bodU s.now ws).length ≤ 140737488351232 := by have h9 := g.b2; omega
  have hu0 : (slU 0 seq s.now size ws).2.2.2.2.2.2 < 4294967296 := crcU_lt0 _
  have perm : ∀ {w : World} {A B C D : Asrt}, St ⟨w0, None_⟩ w (A :: B :: C :: D :: R) → St ⟨w0, None_⟩ w (B :: D :: A :: C :: R) := fun hs => perm5 hs
  have perm' : ∀ {w : World} {A B C D : Asrt}, St ⟨w0, None_⟩ w (B :: D :: A :: C :: R) → St ⟨w0, None_⟩ w (A :: B :: C :: D :: R) := fun hs => perm6 hs
  rw [e1]
  refine (steps_all w (.pointer (some ⟨p, 0, none⟩)) [43, 44, 45, 46, 47, 48] [[clmU s.now seq size ws, syO], savU s.now size ws ++ [syO], [armU 3 s.now seq size ws, syO], wrsU ws ++ [syO], [armU 4 s.now seq size ws, syO], [(3, size, []), syO]] rfl (some ⟨b, 0, none⟩) 6 (fun t w => ∃ q, St ⟨w0, None_⟩ w (cb b 32 (([43, 44, 45, 46, 47, 48] : List Nat).map (fnV (.pointer (some ⟨p, 0, none⟩)))) :: cb p 113 (runF (.pointer (some ⟨D, 0, none⟩)) (s.now.length : Int) size (.slice aw ws.length cw) (q, (slU 0 seq s.now size ws).2) (.slice ab (bodU s.now ws).length cb_) (bplU s.now size) (seaU s.now size ws) (filU s.now size ws)) :: slB 5 (.slice ab (bodU s.now ws).length cb_) (bodU s.now ws) :: diskA 85 127 5 3 D t :: R)) s k (by decide) (fun t w ⟨q, h⟩ => h.rd .k0 fun hh hb => rd_rows hb rfl) ?_ ?_ ⟨q0, hs⟩ ho hb)
  · intro f hf
    simp only [List.mem_cons, List.not_mem_nil, or_false] at hf
    rcases hf with rfl | rfl | rfl | rfl | rfl | rfl
    · exact Tryz.call43
    · exact Tryz.call44
    · exact Tryz.call45
    · exact Tryz.call46
    · exact Tryz.call47
    · exact Tryz.call48
  · intro i hi hi2 t w ⟨q, hs⟩ ho9 hb9
    have hs9 := perm hs
    have hk9 : k + ([[clmU s.now seq size ws, syO], savU s.now size ws ++ [syO], [armU 3 s.now seq size ws, syO], wrsU ws ++ [syO], [armU 4 s.now seq size ws, syO], [(3, size, []), syO]] : List (List COp)).flatten.length + ws.length ≤ 33000000 := by omega
    have hi' : i = 0 ∨ i = 1 ∨ i = 2 ∨ i = 3 ∨ i = 4 ∨ i = 5 := by simp at hi; omega
    rcases hi' with rfl | rfl | rfl | rfl | rfl | rfl
    · exact (claim_spec w0 w _ p D (s.now.length : Int) size (.slice aw ws.length cw) (.slice ab (bodU s.now ws).length cb_) (q, (slU 0 seq s.now size ws).2) (bplU s.now size) (seaU s.now size ws) (filU s.now size ws) t hT (slU_ok hU (st := 2) (by omega) (by omega)) hu0 (by omega) (by omega) (by omega) (by omega) hs9 ho9 _ hb9 (by omega)).mono fun e w' ⟨he, h⟩ => ⟨he, 2, perm' h⟩
    · exact (save_spec w0 w _ p D (s.now.length : Int) size (.slice aw ws.length cw) ab cb_ (bodU s.now ws) ((Rdy.own .k0).more [_]) hbl (q, (slU 0 seq s.now size ws).2) (bplU s.now size) (seaU s.now size ws) (filU s.now size ws) t hs9 ho9 _ hb9 (by omega)).mono fun e w' ⟨he, h⟩ => ⟨he, q, perm' h⟩
    · exact (arm_spec w0 w _ p D (s.now.length : Int) size (.slice aw ws.length cw) (.slice ab (bodU s.now ws).length cb_) (q, (slU 0 seq s.now size ws).2) (bplU s.now size) (seaU s.now size ws) (filU s.now size ws) t hT (slU_ok hU (st := 3) (by omega) (by omega)) hu0 hs9 ho9 _ hb9 (by omega)).mono fun e w' ⟨he, h⟩ => ⟨he, 3, perm' h⟩
    · exact (write_spec w0 w _ p D (s.now.length : Int) size (.slice ab (bodU s.now ws).length cb_) aw cw ws (RdyS.more hrw [_, _]) (by omega) (fun z hz => ⟨(hgw z hz).1.more [_, _], by have := (hgw z hz).2; omega⟩) (q, (slU 0 seq s.now size ws).2) (bplU s.now size) (seaU s.now size ws) (filU s.now size ws) t hs9 ho9 _ hb9 (by omega)).mono fun e w' ⟨he, h⟩ => ⟨he, q, perm' h⟩
    · exact (finish_spec w0 w _ p D (s.now.length : Int) size (.slice aw ws.length cw) (.slice ab (bodU s.now ws).length cb_) (q, (slU 0 seq s.now size ws).2) (bplU s.now size) (seaU s.now size ws) (filU s.now size ws) t hT (slU_ok hU (st := 4) (by omega) (by omega)) hu0 hs9 ho9 _ hb9 (by omega)).mono fun e w' ⟨he, h⟩ => ⟨he, 4, perm' h⟩
    · exact (cut_spec w0 w _ p D (s.now.length : Int) size (.slice aw ws.length cw) (.slice ab (bodU s.now ws).length cb_) (q, (slU 0 seq s.now size ws).2) (bplU s.now size) (seaU s.now size ws) (filU s.now size ws) t hs9 ho9 _ hb9 (by omega)).mono fun e w' ⟨he, h⟩ => ⟨he, q, perm' h⟩
theorem ref_ok {s : DS} {seq size : Int} {ws : List Wr} (h : refE s seq size ws = 0) (hn : s.now.length ≤ 16777216) : UOk s.now seq size ws ∧ filU s.now size ws ≤ s.room := by
  unfold refE at h
  split at h
  · exact absurd h (by decide)
  · rename_i h1
    split at h
    · exact absurd h (by decide)
    · split at h
      · rename_i h2; exact absurd h h2
      · rename_i h2
        split at h
        · exact absurd h (by decide)
        · split at h
          · exact absurd h (by decide)
          · rename_i h4
            obtain ⟨u1, u2, u3⟩ := aplE_0 (show aplE s.now.length size ws = 0 by simpa using h2)
            exact ⟨⟨by omega, by omega, u2, u3⟩, by omega⟩
theorem jupdate_spec (w0 w : World) (R : List Asrt) (D : Nat) (s : DS) (hT : Tab 0 (hp w0)) (hs : St ⟨w0, None_⟩ w (diskA 85 127 5 3 D s :: R)) (ho : DOk s) (k : Nat) (hb : DB s k) (hk : k ≤ 28000000) (seq size : Int) (aw : Option Addr) (cw : Nat) (ws : List Wr) (hrw : RdyS wF 2 ⟨w0, None_⟩ R (.slice aw ws.length cw) ws) (hlw : ws.length ≤ 1048576) (hgw : ∀ z ∈ ws, Rdy ⟨w0, None_⟩ R (.slice z.2.1 z.2.2.2.length z.2.2.1) z.2.2.2 ∧ z.2.2.2.length ≤ 1048576) : Calls Tryz.prog 13 #[.pointer (some ⟨D, 0, none⟩), .int .i64 seq, .int .i64 size, .slice aw ws.length cw] w fun e w' => e = .returned (.int .i64 (updR s seq size ws).1) ∧ St ⟨w0, None_⟩ w' (diskA 85 127 5 3 D (updR s seq size ws).2 :: R) := by
 have hn1 := ho.now
 have hn2 := ho.room1
 refine c_enter (N := 36) Tryz.func13 rfl Tryz.ntmps13 (by simp) ?_
 intro a hf
 refine wp_seq (wp_region_lit ?_)
 refine s_a hf rfl ?_; clear hf a; intro a hf
 refine s_nil (then_n (wp_seq (wp_region_lit ?_)))
 refine s_m hf rfl ?_; clear hf a; intro a hf
 refine s_m hf rfl ?_; clear hf a; intro a hf
 refine s_m hf rfl ?_; clear hf a; intro a hf
 refine s_m hf rfl ?_; clear hf a; intro a hf
 refine s_do hf rfl (y_call (hf.eval rfl) (hf.evals rfl) Tryz.call41 ((begin_spec w0 _ _ D s hT hs ho seq size aw cw ws hrw hlw hgw).mono ?_))
 rintro e w1 ⟨v, rfl, hb1, hb2⟩
 refine ⟨_, rfl, ?_⟩; clear hf a; intro a hf
 refine s_m hf rfl ?_; clear hf a; intro a hf
 refine s_v hf (x_extract (hf.eval rfl) rfl) ?_; clear hf a; intro a hf
 refine s_v hf (x_extract (hf.eval rfl) rfl) ?_; clear hf a; intro a hf
 refine s_a hf rfl ?_; clear hf a; intro a hf
 refine s_a hf rfl ?_; clear hf a; intro a hf
 refine s_nil (then_n (wp_seq (wp_seq (wp_region_lit ?_))))
 refine s_m hf rfl ?_; clear hf a; intro a hf
 refine s_v hf (x_bin (hf.eval rfl) (hf.eval rfl) (r_ne _ _ _ _)) ?_; clear hf a; intro a hf
 refine s_nil (then_n ?_)
 refine c_cond hf rfl (fun hi0 => ?_) (fun hi0 => ?_)
 ·first | simp only [zd1, zd2, zd3, zd4, ne_eq, Classical.not_not] at hi0 | skip
  have hs := hb1 hi0
  refine wp_seq (wp_region_lit ?_)
  refine s_m hf rfl ?_; clear hf a; intro a hf
  refine s_a hf rfl ?_; clear hf a; intro a hf
  refine s_nil (then_n ?_)
  refine wp_ret ?_
  refine then_r ?_
  refine r_1 hf Tryz.results13 rfl ?_
  have hu : updR s seq size ws = (refE s seq size ws, s) := by unfold updR; rw [if_pos hi0]
  rw [hu]
  exact ⟨rfl, hs⟩
 first | simp only [zd1, zd2, zd3, zd4, ne_eq, Classical.not_not] at hi0 | skip
 obtain ⟨p, ab, cb_, rfl, hs⟩ := hb2 hi0
 obtain ⟨hU, hro⟩ := ref_ok hi0 (by omega)
 refine wp_skip (then_n (wp_seq (wp_region_lit ?_)))
 refine s_m hf rfl ?_; clear hf a; intro a hf
 refine s_v hf (x_makeFunc (hf.evals rfl)) ?_; clear hf a; intro a hf
 refine s_m hf rfl ?_; clear hf a; intro a hf
 refine s_v hf (x_makeFunc (hf.evals rfl)) ?_; clear hf a; intro a hf
 refine s_m hf rfl ?_; clear hf a; intro a hf
 refine s_v hf (x_makeFunc (hf.evals rfl)) ?_; clear hf a; intro a hf
 refine s_m hf rfl ?_; clear hf a; intro a hf
 refine s_v hf (x_makeFunc (hf.evals rfl)) ?_; clear hf a; intro a hf
 refine s_m hf rfl ?_; clear hf a; intro a hf
 refine s_v hf (x_makeFunc (hf.evals rfl)) ?_; clear hf a; intro a hf
 refine s_m hf rfl ?_; clear hf a; intro a hf
 refine s_v hf (x_makeFunc (hf.evals rfl)) ?_; clear hf a; intro a hf
 refine s_do hf rfl (y_lit (xs := [.tmp 23, .tmp 25, .tmp 27, .tmp 29, .tmp 31, .tmp 33]) hs sl93 (hf.evals rfl) rfl (by simp [Value.cells]) (by decide) ?_); clear hf hs a; intro b w hs a hf
 replace hs : St ⟨w0, None_⟩ w (cb b 32 (([43, 44, 45, 46, 47, 48] : List Nat).map (fnV (.pointer (some ⟨p, 0, none⟩)))) :: cb p 113 (runF (.pointer (some ⟨D, 0, none⟩)) (s.now.length : Int) size (.slice aw ws.length cw) (0, (slU 0 seq s.now size ws).2) (.slice ab (bodU s.now ws).length cb_) (bplU s.now size) (seaU s.now size ws) (filU s.now size ws)) :: slB 5 (.slice ab (bodU s.now ws).length cb_) (bodU s.now ws) :: diskA 85 127 5 3 D s :: R) := hs
 refine s_do hf rfl (y_call (hf.eval rfl) (hf.evals rfl) Tryz.call42 ((updAll w0 _ _ p D b s seq size aw cw ws hrw hlw hgw ab cb_ hT hU (by omega) 0 hs ho k hb hk).mono ?_))
 rintro e w1 ⟨rfl, q, hs⟩
 refine ⟨_, rfl, ?_⟩; clear hf a; intro a hf
 refine s_a hf rfl ?_; clear hf a; intro a hf
 refine s_nil (then_n ?_)
 refine wp_ret ?_
 refine r_1 hf Tryz.results13 rfl ?_
 have hu : updR s seq size ws = runS s (opsU s.now seq size ws) := by unfold updR; rw [if_neg (by simp [hi0])]
 rw [hu]
 replace hs := hs.take (A := diskA 85 127 5 3 D (runS s (opsU s.now seq size ws)).2) (by repeat constructor)
 exact ⟨rfl, St.mid [_, _, _] hs⟩
end Go.Proofs.YtehakfbfjpolfaaGreatDoor

namespace Go.Proofs.YtehakfbfjpolfaaGreatDoor
open Go Vw
theorem dNew_in (w0 : World) (a1 : Option Addr) (c1 : Nat) (image : List UInt8) (hr1 : RdB (hp w0) (.slice a1 image.length c1) image) (hl1 : image.length ≤ 140737488351232) (cap : Int) (hc1 : 0 ≤ cap) (hc2 : cap ≤ 16777216) (hc3 : image.length ≤ cap) : Calls Tryz.prog 7 #[.slice a1 image.length c1, .int .i64 cap] w0 fun e w' => ∃ p, e = .returned (.tuple #[.pointer (some ⟨p, 0, none⟩), .int .i64 0]) ∧ St ⟨w0, None_⟩ w' [diskA 85 127 5 3 p (newS image cap)] := by
  refine (dNew_ok w0 a1 c1 image hr1 hl1 cap hc1 hc2 hc3).mono fun e w' h => ?_
  obtain ⟨p, v1, v2, m, rfl, hs⟩ := h
  refine ⟨p, rfl, ?_⟩
  replace hs := St.give (L := _) (hs.emp (A := entsA 127 5 []) (fun _ => trivial)) .k4
  replace hs := St.give (L := _) (hs.emp (A := sl 3 1 (.slice none 0 0) 0 []) (fun _ => ⟨rfl, .inl ⟨rfl, rfl⟩⟩)) .k5
  exact diskA_close (s := newS image cap) (x := ⟨v1, v2, m, .slice none 0 0, [], 0⟩) (MOk.nil 0) Grp.nil hs
theorem upTo_spec (w : World) (k n : Int) : Calls Tryz.prog 72 #[.int .i64 k, .int .i64 n] w fun e w' => e = .returned (.int .i64 (max 0 (min k n))) ∧ w' = w := by
 refine c_enter (N := 9) Tryz.func72 rfl Tryz.ntmps72 (by simp) ?_
 intro a hf
 refine wp_seq (wp_region_lit ?_)
 refine s_a hf rfl ?_; clear hf a; intro a hf
 refine s_nil (then_n (wp_seq (wp_region_lit ?_)))
 refine s_m hf rfl ?_; clear hf a; intro a hf
 refine s_m hf rfl ?_; clear hf a; intro a hf
 refine s_v hf (x_minI (hf.eval rfl) (hf.eval rfl)) ?_; clear hf a; intro a hf
 refine s_v hf (x_maxI (hf.eval rfl) (hf.eval rfl)) ?_; clear hf a; intro a hf
 refine s_a hf rfl ?_; clear hf a; intro a hf
 refine s_nil (then_n ?_)
 refine wp_ret ?_
 refine r_1 hf Tryz.results72 rfl ?_
 exact ⟨rfl, rfl⟩
theorem dCrash_spec (σ : Sig) (w : World) (R : List Asrt) (p : Nat) (s : DS) (hs : St σ w (diskA 85 127 5 3 p s :: R)) (csz : Int) (ac : Option Addr) (cc : Nat) (secs : List Int) (rest : Int) (ho : DOk s) (hrc : RdyS iF 1 σ R (.slice ac secs.length cc) secs) (hsz : s.sizes.length ≤ 1099511600000) (hpc : s.pcs.length ≤ 1099511600000) : Calls Tryz.prog 33 #[.pointer (some ⟨p, 0, none⟩), .agg #[.int .i64 csz, .slice ac secs.length cc, .int .i64 rest]] w fun e w' => ∃ p', e = .returned (.tuple #[.pointer (some ⟨p', 0, none⟩), .int .i64 0]) ∧ St σ w' (diskA 85 127 5 3 p' (newS (outS s (csz, secs, rest)) s.room) :: diskA 85 127 5 3 p (kilS s) :: R) := by
 have hroom0 := ho.room0
 have hroom1 := ho.room1
 obtain ⟨⟨v1, v2, mp, v4, es, clk⟩, hm, hg, hs⟩ := diskA_open hs
 dsimp only at hm hg hs
 obtain ⟨a1, c1, rfl, hc1⟩ := slB_shape (hs.take .k1)
 obtain ⟨a2, c2, rfl, hc2⟩ := slB_shape (hs.take .k2)
 obtain ⟨a4, c4, rfl⟩ := sl_shape (hs.take .k5)
 refine c_enter (N := 103) Tryz.func33 rfl Tryz.ntmps33 (by simp) ?_
 intro a hf
 refine wp_seq (wp_region_lit ?_)
 refine s_do hf rfl (y_box hs (hf.eval rfl) ?_); clear hf hs a; intro cb0 w hs a hf
 replace hs : St σ w (cb cb0 64 [.int .i64 csz, .slice ac secs.length cc, .int .i64 rest] :: _) := hs
 refine s_a hf rfl ?_; clear hf a; intro a hf
 refine s_a hf rfl ?_; clear hf a; intro a hf
 refine s_nil (then_n (wp_seq (wp_seq (wp_region_lit ?_))))
 refine s_m hf rfl ?_; clear hf a; intro a hf
 refine s_v hf (x_eqNil Tryz.underlying24 (hf.eval rfl) (hf.eval rfl)) ?_; clear hf a; intro a hf
 replace hf := hf.now (k := 15) (v' := .bool false) rfl rfl
 refine s_nil (then_n ?_)
 refine c_cond_f hf rfl rfl ?_
 refine wp_skip (then_n (wp_seq (wp_region_lit ?_)))
 refine s_m hf rfl ?_; clear hf a; intro a hf
 refine s_v hf (x_nilCheck (hf.eval rfl)) ?_; clear hf a; intro a hf
 refine s_v hf (x_fieldAddr fo85_7 (hf.eval rfl)) ?_; clear hf a; intro a hf
 refine s_do0 hf rfl (y_store hs sc4 (hf.eval rfl) (hf.eval rfl) rfl (by repeat constructor) (by simp) ?_); clear hf hs a; intro w hs a hf
 replace hs : St σ w (cb cb0 _ _ :: dcell 85 p (kilS s) ⟨.slice a1 s.now.length c1, .slice a2 s.dur.length c2, mp, .slice a4 s.sizes.length c4, es, clk⟩ :: _) := hs
 refine s_nil (then_n (wp_seq (wp_region_lit ?_)))
 refine s_m hf rfl ?_; clear hf a; intro a hf
 refine s_v hf (x_nilCheck (hf.eval rfl)) ?_; clear hf a; intro a hf
 refine s_v hf (x_fieldAddr fo85_2 (hf.eval rfl)) ?_; clear hf a; intro a hf
 refine s_r hf (x_load sc22 (hf.eval rfl) (by apply hs.cell <;> repeat constructor)) ?_; clear hf a; intro a hf
 refine s_v hf (x_len Tryz.underlying22 (hf.eval rfl)) ?_; clear hf a; intro a hf
 refine s_a hf rfl ?_; clear hf a; intro a hf
 refine s_nil (then_n (wp_seq (wp_seq ?_)))
 refine c_draw hs (fun _ => True) [.held, .read, .held, .held, .held, .read, .held, .eff, .held] (by kernel_rfl) (by kernel_rfl) (fun _ _ _ => trivial) ?_
 clear hs; intro w hs hC hw
 refine m_held hf rfl (fun w' _ => x_fieldAddr fo64_0 (hf.eval rfl) w') ?_; clear hf a; intro a hf
 refine m_read hf rfl (x_load sc3 (hf.eval rfl) (by apply hs.cell <;> repeat constructor)) ?_; clear hf a; intro a hf
 refine m_held hf rfl (fun w' _ => x_move (hf.eval rfl) w') ?_; clear hf a; intro a hf
 refine m_held hf rfl (fun w' _ => x_nilCheck (hf.eval rfl) w') ?_; clear hf a; intro a hf
 refine m_held hf rfl (fun w' _ => x_fieldAddr fo85_4 (hf.eval rfl) w') ?_; clear hf a; intro a hf
 refine m_read hf rfl (x_load sc62 (hf.eval rfl) (by apply hs.cell <;> repeat constructor)) ?_; clear hf a; intro a hf
 refine m_held hf rfl (fun w' _ => x_len Tryz.underlying62 (hf.eval rfl) w') ?_; clear hf a; intro a hf
 refine m_eff hf rfl (y_call (hf.eval rfl) (hf.evals rfl) Tryz.call72 ((upTo_spec _ csz s.sizes.length).mono ?_))
 rintro e w1 ⟨rfl, rfl⟩
 refine ⟨_, rfl, ⟨trivial, ?_⟩⟩; clear hf a; intro a hf
 refine m_held hf rfl (fun w' _ => x_assign (hf.eval rfl) w') ?_; clear hf a; intro a hf
 replace hf := hf.now (k := 7) (v' := .int .i64 (max 0 (szIx s (csz, secs, rest)))) rfl (rfl)
 refine m_nil ?_
 refine then_n (wp_seq (wp_region_lit ?_))
 refine s_m hf rfl ?_; clear hf a; intro a hf
 refine s_v hf (x_bin (hf.eval rfl) (hf.eval rfl) (r_gt _ _ _ _)) ?_; clear hf a; intro a hf
 refine s_nil (then_n ?_)
 refine c_cond hf rfl (fun hi1 => ?_) (fun hi1 => ?_)
 ·simp only [zd1, zd2, zd3, zd4, zd5, zd6, zd7] at hi1
  have hix : 0 < szIx s (csz, secs, rest) := by omega
  have hix2 : szIx s (csz, secs, rest) ≤ s.sizes.length := by unfold szIx; omega
  obtain ⟨a4, rfl⟩ := sl_some (hs.take .k6) (by omega)
  refine wp_region_lit ?_
  refine s_m hf rfl ?_; clear hf a; intro a hf
  refine s_v hf (x_nilCheck (hf.eval rfl)) ?_; clear hf a; intro a hf
  refine s_v hf (x_fieldAddr fo85_4 (hf.eval rfl)) ?_; clear hf a; intro a hf
  refine s_r hf (x_load sc62 (hf.eval rfl) (by apply hs.cell <;> repeat constructor)) ?_; clear hf a; intro a hf
  refine s_m hf rfl ?_; clear hf a; intro a hf
  refine s_v hf (x_bin (hf.eval rfl) (hf.eval rfl) (r_subi _ (by omega) (by omega))) ?_; clear hf a; intro a hf
  replace hf := hf.now (k := 39) (v' := .int .i64 (((szIx s (csz, secs, rest)).toNat - 1 : Nat) : Int)) rfl (by congr 1; omega)
  refine s_v hf (x_indexAddr sl62 (hf.eval rfl) (hf.eval rfl) (by omega) (by omega)) ?_; clear hf a; intro a hf
  refine s_r hf (x_loadC hs sc3 .k6 (hf.eval rfl) (szC_get (i := (szIx s (csz, secs, rest)).toNat - 1) (by omega))) ?_; clear hf a; intro a hf
  refine s_a hf rfl ?_; clear hf a; intro a hf
  replace hf := hf.now (k := 6) (v' := .int .i64 (outN s (csz, secs, rest) : Int)) rfl (by rw [outN_some hix])
  refine s_nil (then_n (wp_seq (wp_region_lit ?_)))
  refine s_m hf rfl ?_; clear hf a; intro a hf
  have hoN := outN_le ho (csz, secs, rest)
  refine s_do hf rfl (y_makeB (m := outN s (csz, secs, rest)) (c := outN s (csz, secs, rest)) hs sl22 (hf.eval rfl) (hf.eval rfl) rfl rfl (Nat.le_refl _) (by omega) ?_); clear hf hs a; intro fb w hs a hf
  refine s_a hf rfl ?_; clear hf a; intro a hf
  refine s_nil (then_n (wp_seq (wp_region_lit ?_)))
  refine s_m hf rfl ?_; clear hf a; intro a hf
  refine s_m hf rfl ?_; clear hf a; intro a hf
  refine s_v hf (x_nilCheck (hf.eval rfl)) ?_; clear hf a; intro a hf
  refine s_v hf (x_fieldAddr fo85_2 (hf.eval rfl)) ?_; clear hf a; intro a hf
  refine s_r hf (x_load sc22 (hf.eval rfl) (by apply hs.cell <;> repeat constructor)) ?_; clear hf a; intro a hf
  refine s_do hf rfl (y_copyB (o := 0) (cur' := spl (List.replicate (outN s (csz, secs, rest)) 0) 0 (s.dur.take (min s.dur.length (outN s (csz, secs, rest))))) hs sl22 (hf.eval rfl) (hf.eval rfl) (fun _ => rfl) (hs.rdB .k4 fun h => slB_rd) rfl .k0 rfl (by simp) ?_); clear hf hs a; intro w hs a hf
  obtain ⟨out0, ho0⟩ : ∃ o, o = spl (List.replicate (outN s (csz, secs, rest)) 0) 0 (s.dur.take (min s.dur.length (outN s (csz, secs, rest)))) := ⟨_, rfl⟩
  rw [← ho0] at hs
  obtain ⟨hd1, hd2⟩ := dur_start s _ ho0
  refine s_nil (then_n (wp_seq (wp_seq (wp_region_lit ?_))))
  refine s_m hf rfl ?_; clear hf a; intro a hf
  refine s_v hf (x_nilCheck (hf.eval rfl)) ?_; clear hf a; intro a hf
  refine s_v hf (x_fieldAddr fo85_3 (hf.eval rfl)) ?_; clear hf a; intro a hf
  refine s_r hf (x_load sc83 (hf.eval rfl) (by apply hs.cell <;> repeat constructor)) ?_; clear hf a; intro a hf
  refine s_do hf rfl (y_range hs Tryz.underlying83 (hf.eval rfl) .k5 ?_); clear hf hs a; intro r w hs a hf
  refine s_nil (then_n (wp_block ?_))
  refine c_loop (L0 := [(0, _), (3, _), (4, _), (5, _), (6, _), (8, _), (54, _)]) (fun M w m => ∃ (seen : Array Nat) (out : List UInt8), M = [] ∧ (es.filter fun x => decide (x.born ∉ seen.toList)).length = m ∧ Fnd s (csz, secs, rest) es seen.toList out ∧ St σ w (blk r (.mapIter (some mp) clk seen clk) :: bb fb 5 (out) :: cb cb0 64 [.int .i64 csz, .slice ac secs.length cc, .int .i64 rest] :: dcell 85 p (kilS s) ⟨.slice a1 s.now.length c1, .slice a2 s.dur.length c2, mp, .slice a4 s.sizes.length c4, es, clk⟩ :: slB 5 (.slice a1 s.now.length c1) s.now :: slB 5 (.slice a2 s.dur.length c2) s.dur :: mapA mp es clk :: entsA 127 5 es :: sl 3 1 (.slice a4 s.sizes.length c4) s.sizes.length (szC s.sizes) :: R)) (M0 := _) (⟨#[], out0, rfl, rfl, fnd_start s (csz, secs, rest) es hd1 hd2, hs⟩) (hf.sub ⟨rfl, rfl, rfl, rfl, rfl, rfl, rfl, trivial⟩) ?_
  clear hf hs a
  rintro M m a w ⟨seen, out, rfl, rfl, hfd, hs⟩ hf
  clear hd1 hd2
  refine wp_seq (wp_region_lit ?_)
  refine s_do hf rfl (y_nextB hs (hf.eval rfl) .k5 hm ?_); clear hf hs a; intro b e w hs hbt hbf a hf
  refine s_v hf (x_extract (hf.eval rfl) (nxt_0 b e)) ?_; clear hf a; intro a hf
  refine s_nil (then_n (wp_seq ?_))
  refine c_cond hf rfl (fun hi2 => ?_) (fun hi2 => ?_)
  ·obtain ⟨he, hns⟩ := hbt hi2
   subst hi2
   replace hs : St σ w (blk r (.mapIter (some mp) clk (seen.push e.born) clk) :: bb fb 5 (out) :: cb cb0 64 [.int .i64 csz, .slice ac secs.length cc, .int .i64 rest] :: dcell 85 p (kilS s) ⟨.slice a1 s.now.length c1, .slice a2 s.dur.length c2, mp, .slice a4 s.sizes.length c4, es, clk⟩ :: slB 5 (.slice a1 s.now.length c1) s.now :: slB 5 (.slice a2 s.dur.length c2) s.dur :: mapA mp es clk :: entsA 127 5 es :: sl 3 1 (.slice a4 s.sizes.length c4) s.sizes.length (szC s.sizes) :: R) := hs
   clear hbt hbf
   obtain ⟨⟨ea, ec, hev⟩, hrd0, _⟩ := hs.ents .k7 he
   rw [hev] at hrd0
   have hec := RdC.cap hrd0
   clear hrd0
   refine wp_skip (then_n (wp_block (wp_seq (wp_region_lit ?_))))
   refine s_r hf (x_entry (hf.eval rfl) hs.head (hs.blk_at .k6) he hm) ?_; clear hf a; intro a hf
   replace hf := hf.now (k := 57) (v' := .tuple #[.int .i64 (e.sec : Int), .slice ea e.ps.length ec]) rfl (by rw [hev])
   refine s_v hf (x_extract (hf.eval rfl) rfl) ?_; clear hf a; intro a hf
   refine s_v hf (x_extract (hf.eval rfl) rfl) ?_; clear hf a; intro a hf
   refine s_a hf rfl ?_; clear hf a; intro a hf
   refine s_a hf rfl ?_; clear hf a; intro a hf
   refine s_nil (then_n (wp_seq (wp_region_lit ?_)))
   refine s_v hf (x_fieldAddr fo64_2 (hf.eval rfl)) ?_; clear hf a; intro a hf
   refine s_r hf (x_load sc3 (hf.eval rfl) (by apply hs.cell <;> repeat constructor)) ?_; clear hf a; intro a hf
   refine s_a hf rfl ?_; clear hf a; intro a hf
   refine s_nil (then_n (wp_seq (wp_seq (wp_region_lit ?_))))
   refine s_m hf rfl ?_; clear hf a; intro a hf
   refine s_v hf (x_fieldAddr fo64_1 (hf.eval rfl)) ?_; clear hf a; intro a hf
   refine s_r hf (x_load sc62 (hf.eval rfl) (by apply hs.cell <;> repeat constructor)) ?_; clear hf a; intro a hf
   refine s_v hf (x_len Tryz.underlying62 (hf.eval rfl)) ?_; clear hf a; intro a hf
   refine s_v hf (x_bin (hf.eval rfl) (hf.eval rfl) (r_lt _ _ _ _)) ?_; clear hf a; intro a hf
   refine s_nil (then_n ?_)
   refine c_cond hf rfl (fun hi3 => ?_) (fun hi3 => ?_)
   ·simp only [zd1, zd2, zd3, zd4, zd5, zd6, zd7] at hi3
    have hsl : e.sec < secs.length := by omega
    have hrd := hrc _ [_, _, _, _, _, _, _, _, _] hs
    obtain ⟨ac, rfl⟩ := hrd.some (by omega)
    clear hrd
    refine wp_region_lit ?_
    refine s_v hf (x_fieldAddr fo64_1 (hf.eval rfl)) ?_; clear hf a; intro a hf
    refine s_r hf (x_load sc62 (hf.eval rfl) (by apply hs.cell <;> repeat constructor)) ?_; clear hf a; intro a hf
    refine s_m hf rfl ?_; clear hf a; intro a hf
    refine s_v hf (x_indexAddr sl62 (hf.eval rfl) (hf.eval rfl) (by omega) (by omega)) ?_; clear hf a; intro a hf
    refine s_r hf (x_loadI sc3 (hrc _ [_, _, _, _, _, _, _, _, _] hs) rfl (hf.eval rfl) (by simpa using hsl)) ?_; clear hf a; intro a hf
    refine s_a hf rfl ?_; clear hf a; intro a hf
    replace hf := hf.now (k := 11) (v' := .int .i64 (keepOf (csz, secs, rest) e.sec)) rfl (by rw [keepOf_in (c := (csz, secs, rest)) hsl]; rfl)
    refine s_nil (then_n (wp_seq (wp_region_lit ?_)))
    refine s_m hf rfl ?_; clear hf a; intro a hf
    refine s_m hf rfl ?_; clear hf a; intro a hf
    refine s_m hf rfl ?_; clear hf a; intro a hf
    refine s_v hf (x_len Tryz.underlying125 (hf.eval rfl)) ?_; clear hf a; intro a hf
    refine s_do hf rfl (y_call (hf.eval rfl) (hf.evals rfl) Tryz.call72 ((upTo_spec _ (keepOf (csz, secs, rest) e.sec) e.ps.length).mono ?_))
    rintro e w1 ⟨rfl, rfl⟩
    obtain ⟨N, hN⟩ : ∃ N : Nat, (N : Int) = max 0 (min (keepOf (csz, secs, rest) e.sec) (e.ps.length : Int)) := ⟨(max 0 (min (keepOf (csz, secs, rest) e.sec) (e.ps.length : Int))).toNat, by omega⟩
    rw [← hN]
    have hNl : N ≤ e.ps.length := by omega
    have hpl9 := ps_len hm hg he
    have hkp : keptP s (csz, secs, rest) e.sec = (e.ps.map pcOf).take N := by rw [kept_eq hm hg he, show N = min (e.ps.map pcOf).length (keepOf (csz, secs, rest) e.sec).toNat by rw [List.length_map]; omega, take_min]
    refine ⟨_, rfl, ?_⟩; clear hf a; intro a hf
    refine s_v hf (x_slice_hi sl125 (hf.eval rfl) (hf.eval rfl)  (by omega) (by omega) ) ?_; clear hf a; intro a hf
    replace hf := hf.now (k := 77) (v' := .slice ea N ec) rfl (rfl)
    refine s_v hf (x_len Tryz.underlying125 (hf.eval rfl)) ?_; clear hf a; intro a hf
    refine s_m hf rfl ?_; clear hf a; intro a hf
    refine s_nil (then_n (wp_block ?_))
    refine c_loop (L0 := [(0, _), (3, _), (4, _), (5, _), (6, _), (8, _), (9, _), (10, _), (11, _), (54, _), (55, _), (56, _), (57, _), (58, _), (59, _), (60, _), (61, _), (62, _), (63, _), (64, _), (65, _), (66, _), (67, _), (68, _), (69, _), (70, _), (71, _), (72, _), (73, _), (74, _), (75, _), (76, _), (77, _), (78, _)]) (fun M w m => ∃ (i : Nat), M = [(79, .int .i64 (i : Int))] ∧ N - i = m ∧ i ≤ N ∧ St σ w (blk r (.mapIter (some mp) clk (seen.push e.born) clk) :: bb fb 5 (putsP out ((e.ps.map pcOf).take i)) :: cb cb0 64 [.int .i64 csz, .slice ac secs.length cc, .int .i64 rest] :: dcell 85 p (kilS s) ⟨.slice a1 s.now.length c1, .slice a2 s.dur.length c2, mp, .slice a4 s.sizes.length c4, es, clk⟩ :: slB 5 (.slice a1 s.now.length c1) s.now :: slB 5 (.slice a2 s.dur.length c2) s.dur :: mapA mp es clk :: entsA 127 5 es :: sl 3 1 (.slice a4 s.sizes.length c4) s.sizes.length (szC s.sizes) :: R)) (M0 := [(79, .int .i64 0)]) (⟨0, rfl, rfl, Nat.zero_le _, hs⟩) (hf.sub ⟨rfl, rfl, rfl, rfl, rfl, rfl, rfl, rfl, rfl, rfl, rfl, rfl, rfl, rfl, rfl, rfl, rfl, rfl, rfl, rfl, rfl, rfl, rfl, rfl, rfl, rfl, rfl, rfl, rfl, rfl, rfl, rfl, rfl, rfl, rfl, trivial⟩) ?_
    clear hf hs a
    rintro M m a w ⟨i, rfl, rfl, hi, hs⟩ hf
    refine wp_seq (wp_region_lit ?_)
    refine s_v hf (x_bin (hf.eval rfl) (hf.eval rfl) (r_lt _ _ _ _)) ?_; clear hf a; intro a hf
    refine s_nil (then_n (wp_seq ?_))
    refine c_cond hf rfl (fun hi4 => ?_) (fun hi4 => ?_)
    ·simp only [zd1, zd2, zd3, zd4, zd5, zd6, zd7] at hi4
     have hlt : i < N := by omega
     have hlt2 : i < e.ps.length := by omega
     have hlm : i < (e.ps.map pcOf).length := by rw [List.length_map]; omega
     obtain ⟨_, hrd, hdt⟩ := hs.ents .k7 he
     rw [hev] at hrd
     replace hrd := RdS.pre (f := pcF) (sz := 2) (fun _ => rfl) hrd hNl
     have hltk : (e.ps.take N)[i]'(by rw [List.length_take]; omega) = e.ps[i] := List.getElem_take ..
     obtain ⟨ea, rfl⟩ := hrd.some (by rw [List.length_take]; omega)
     have hpd := hdt _ (List.getElem_mem hlt2)
     clear hdt
     have hok9 := ho.pcs
     have hlo : (putsP out ((e.ps.map pcOf).take i)).length = outN s (csz, secs, rest) := by rw [putsP_len]; exact hfd.1
     refine wp_skip (then_n (wp_seq (wp_block (wp_seq (wp_region_lit ?_)))))
     refine s_v hf (x_indexAddr sl125 (hf.eval rfl) (hf.eval rfl) (by omega) (by omega)) ?_; clear hf a; intro a hf
     refine s_r hf (x_loadS (f := pcF) ag127 (fun _ => rfl) hrd (hf.eval rfl) (by simp; omega)) ?_; clear hf a; intro a hf
     replace hf := hf.now (k := 82) (v' := .agg (pcF e.ps[i]).toArray) rfl (by rw [← hltk]; rfl)
     refine s_do hf rfl (y_alloc hs Tryz.zeroValue127 ?_); clear hf hs a; intro b7 w hs a hf
     change St _ _ (cb b7 127 [.int .i64 0, .slice none 0 0] :: _) at hs
     refine s_do0 hf rfl (y_storeAgg (cs := pcF e.ps[i]) hs (n := 2) (by kernel_rfl) (hf.eval rfl) (hf.eval rfl) (pcF_one hpd) rfl rfl .k0 ?_); clear hf hs a; intro w hs a hf
     refine s_nil (then_n (wp_seq (wp_region_lit ?_)))
     refine s_v hf (x_fieldAddr fo127_0 (hf.eval rfl)) ?_; clear hf a; intro a hf
     refine s_r hf (x_load sc3 (hf.eval rfl) (by apply hs.cell <;> repeat constructor)) ?_; clear hf a; intro a hf
     refine s_m hf rfl ?_; clear hf a; intro a hf
     refine s_v hf (x_bin (hf.eval rfl) (hf.eval rfl) (r_lt _ _ _ _)) ?_; clear hf a; intro a hf
     refine s_nil (then_n ?_)
     refine c_cond hf rfl (fun hi5 => ?_) (fun hi5 => ?_)
     ·simp only [zd1, zd2, zd3, zd4, zd5, zd6, zd7] at hi5
      have hat5 : e.ps[i].1 < outN s (csz, secs, rest) := by omega
      refine c_draw hs (fun _ => True) [.held, .held, .read, .held, .held, .read, .fin] (by kernel_rfl) (by kernel_rfl) (fun _ _ _ => trivial) ?_
      clear hs; intro w hs hC hw
      refine m_held hf rfl (fun w' _ => x_move (hf.eval rfl) w') ?_; clear hf a; intro a hf
      refine m_held hf rfl (fun w' _ => x_fieldAddr fo127_0 (hf.eval rfl) w') ?_; clear hf a; intro a hf
      refine m_read hf rfl (x_load sc3 (hf.eval rfl) (by apply hs.cell <;> repeat constructor)) ?_; clear hf a; intro a hf
      refine m_held hf rfl (fun w' _ => x_slice_lo sl22 (hf.eval rfl) (hf.eval rfl)  (by omega) (by omega)  w') ?_; clear hf a; intro a hf
      replace hf := hf.now (k := 90) (v' := .slice (some ⟨fb, e.ps[i].1, none⟩) (outN s (csz, secs, rest) - e.ps[i].1) (outN s (csz, secs, rest) - e.ps[i].1)) rfl (by rw [Int.toNat_natCast, subA_at hat5])
      refine m_held hf rfl (fun w' _ => x_fieldAddr fo127_1 (hf.eval rfl) w') ?_; clear hf a; intro a hf
      refine m_read hf rfl (x_load sc22 (hf.eval rfl) (by apply hs.cell <;> repeat constructor)) ?_; clear hf a; intro a hf
      refine m_fin hf rfl (y_copyB (o := e.ps[i].1) (cur' := putP (putsP out ((e.ps.map pcOf).take i)) (pcOf e.ps[i])) hs sl22 (hf.eval rfl) (hf.eval rfl) (fun _ => rfl) ((hs.ents .k8 he).2.2 _ (List.getElem_mem hlt2)) rfl .k2 (by rw [putP_in (p := pcOf e.ps[i]) (by rw [hlo]; exact hat5), hlo]; rfl) (by rw [hlo]; omega) ?_); clear hf hs a; intro w hs; intro a hf
      have hs9 := hs.drop
      refine blk_n (then_n (wp_region_lit ?_))
      refine s_v hf (x_bin (hf.eval rfl) (hf.eval rfl) (r_addi _ (by omega) (by omega))) ?_; clear hf a; intro a hf
      refine s_m hf rfl ?_; clear hf a; intro a hf
      refine s_nil ?_
      exact ⟨_, _, ⟨i + 1, rfl, rfl, by omega, by rw [putsP_take hlm, List.getElem_map]; exact hs9⟩, by omega, hf.sub ⟨rfl, rfl, rfl, rfl, rfl, rfl, rfl, rfl, rfl, rfl, rfl, rfl, rfl, rfl, rfl, rfl, rfl, rfl, rfl, rfl, rfl, rfl, rfl, rfl, rfl, rfl, rfl, rfl, rfl, rfl, rfl, rfl, rfl, rfl, rfl, trivial⟩⟩
     simp only [zd1, zd2, zd3, zd4, zd5, zd6, zd7] at hi5
     have hs9 : St σ w (blk r (.mapIter (some mp) clk (seen.push e.born) clk) :: bb fb 5 (putP (putsP out ((e.ps.map pcOf).take i)) (pcOf e.ps[i])) :: cb cb0 64 [.int .i64 csz, .slice ac secs.length cc, .int .i64 rest] :: dcell 85 p (kilS s) ⟨.slice a1 s.now.length c1, .slice a2 s.dur.length c2, mp, .slice a4 s.sizes.length c4, es, clk⟩ :: slB 5 (.slice a1 s.now.length c1) s.now :: slB 5 (.slice a2 s.dur.length c2) s.dur :: mapA mp es clk :: entsA 127 5 es :: sl 3 1 (.slice a4 s.sizes.length c4) s.sizes.length (szC s.sizes) :: R) := by rw [putP_out (p := pcOf e.ps[i]) (by rw [hlo]; show outN s (csz, secs, rest) ≤ e.ps[i].1; omega)]; exact hs.drop
     refine wp_skip (blk_n (then_n (wp_region_lit ?_)))
     refine s_v hf (x_bin (hf.eval rfl) (hf.eval rfl) (r_addi _ (by omega) (by omega))) ?_; clear hf a; intro a hf
     refine s_m hf rfl ?_; clear hf a; intro a hf
     refine s_nil ?_
     exact ⟨_, _, ⟨i + 1, rfl, rfl, by omega, by rw [putsP_take hlm, List.getElem_map]; exact hs9⟩, by omega, hf.sub ⟨rfl, rfl, rfl, rfl, rfl, rfl, rfl, rfl, rfl, rfl, rfl, rfl, rfl, rfl, rfl, rfl, rfl, rfl, rfl, rfl, rfl, rfl, rfl, rfl, rfl, rfl, rfl, rfl, rfl, rfl, rfl, rfl, rfl, rfl, rfl, trivial⟩⟩
    simp only [zd1, zd2, zd3, zd4, zd5, zd6, zd7] at hi4
    have hN9 : N = i := by omega
    refine wp_exit (then_x (then_x (blk_x (blk_n ?_))))
    obtain rfl : i = N := by omega
    have hfd2 := fnd_step ho hm hfd he hns
    exact ⟨_, _, ⟨seen.push e.born, putsP out (keptP s (csz, secs, rest) e.sec), rfl, rfl, by simpa using hfd2, by rw [hkp, ← hN9]; exact hs⟩, unseen_lt he hns, hf.sub ⟨rfl, rfl, rfl, rfl, rfl, rfl, rfl, trivial⟩⟩
   simp only [zd1, zd2, zd3, zd4, zd5, zd6, zd7] at hi3
   replace hf := hf.now (k := 11) (v' := .int .i64 (keepOf (csz, secs, rest) e.sec)) rfl (by rw [keepOf_out (by simp only; omega)])
   refine wp_skip (then_n (wp_seq (wp_region_lit ?_)))
   refine s_m hf rfl ?_; clear hf a; intro a hf
   refine s_m hf rfl ?_; clear hf a; intro a hf
   refine s_m hf rfl ?_; clear hf a; intro a hf
   refine s_v hf (x_len Tryz.underlying125 (hf.eval rfl)) ?_; clear hf a; intro a hf
   refine s_do hf rfl (y_call (hf.eval rfl) (hf.evals rfl) Tryz.call72 ((upTo_spec _ (keepOf (csz, secs, rest) e.sec) e.ps.length).mono ?_))
   rintro e w1 ⟨rfl, rfl⟩
   obtain ⟨N, hN⟩ : ∃ N : Nat, (N : Int) = max 0 (min (keepOf (csz, secs, rest) e.sec) (e.ps.length : Int)) := ⟨(max 0 (min (keepOf (csz, secs, rest) e.sec) (e.ps.length : Int))).toNat, by omega⟩
   rw [← hN]
   have hNl : N ≤ e.ps.length := by omega
   have hpl9 := ps_len hm hg he
   have hkp : keptP s (csz, secs, rest) e.sec = (e.ps.map pcOf).take N := by rw [kept_eq hm hg he, show N = min (e.ps.map pcOf).length (keepOf (csz, secs, rest) e.sec).toNat by rw [List.length_map]; omega, take_min]
   refine ⟨_, rfl, ?_⟩; clear hf a; intro a hf
   refine s_v hf (x_slice_hi sl125 (hf.eval rfl) (hf.eval rfl)  (by omega) (by omega) ) ?_; clear hf a; intro a hf
   replace hf := hf.now (k := 77) (v' := .slice ea N ec) rfl (rfl)
   refine s_v hf (x_len Tryz.underlying125 (hf.eval rfl)) ?_; clear hf a; intro a hf
   refine s_m hf rfl ?_; clear hf a; intro a hf
   refine s_nil (then_n (wp_block ?_))
   refine c_loop (L0 := [(0, _), (3, _), (4, _), (5, _), (6, _), (8, _), (9, _), (10, _), (11, _), (54, _), (55, _), (56, _), (57, _), (58, _), (59, _), (60, _), (61, _), (62, _), (63, _), (64, _), (65, _), (66, _), (72, _), (73, _), (74, _), (75, _), (76, _), (77, _), (78, _)]) (fun M w m => ∃ (i : Nat), M = [(79, .int .i64 (i : Int))] ∧ N - i = m ∧ i ≤ N ∧ St σ w (blk r (.mapIter (some mp) clk (seen.push e.born) clk) :: bb fb 5 (putsP out ((e.ps.map pcOf).take i)) :: cb cb0 64 [.int .i64 csz, .slice ac secs.length cc, .int .i64 rest] :: dcell 85 p (kilS s) ⟨.slice a1 s.now.length c1, .slice a2 s.dur.length c2, mp, .slice a4 s.sizes.length c4, es, clk⟩ :: slB 5 (.slice a1 s.now.length c1) s.now :: slB 5 (.slice a2 s.dur.length c2) s.dur :: mapA mp es clk :: entsA 127 5 es :: sl 3 1 (.slice a4 s.sizes.length c4) s.sizes.length (szC s.sizes) :: R)) (M0 := [(79, .int .i64 0)]) (⟨0, rfl, rfl, Nat.zero_le _, hs⟩) (hf.sub ⟨rfl, rfl, rfl, rfl, rfl, rfl, rfl, rfl, rfl, rfl, rfl, rfl, rfl, rfl, rfl, rfl, rfl, rfl, rfl, rfl, rfl, rfl, rfl, rfl, rfl, rfl, rfl, rfl, rfl, rfl, trivial⟩) ?_
   clear hf hs a
   rintro M m a w ⟨i, rfl, rfl, hi, hs⟩ hf
   refine wp_seq (wp_region_lit ?_)
   refine s_v hf (x_bin (hf.eval rfl) (hf.eval rfl) (r_lt _ _ _ _)) ?_; clear hf a; intro a hf
   refine s_nil (then_n (wp_seq ?_))
   refine c_cond hf rfl (fun hi4 => ?_) (fun hi4 => ?_)
   ·simp only [zd1, zd2, zd3, zd4, zd5, zd6, zd7] at hi4
    have hlt : i < N := by omega
    have hlt2 : i < e.ps.length := by omega
    have hlm : i < (e.ps.map pcOf).length := by rw [List.length_map]; omega
    obtain ⟨_, hrd, hdt⟩ := hs.ents .k7 he
    rw [hev] at hrd
    replace hrd := RdS.pre (f := pcF) (sz := 2) (fun _ => rfl) hrd hNl
    have hltk : (e.ps.take N)[i]'(by rw [List.length_take]; omega) = e.ps[i] := List.getElem_take ..
    obtain ⟨ea, rfl⟩ := hrd.some (by rw [List.length_take]; omega)
    have hpd := hdt _ (List.getElem_mem hlt2)
    clear hdt
    have hok9 := ho.pcs
    have hlo : (putsP out ((e.ps.map pcOf).take i)).length = outN s (csz, secs, rest) := by rw [putsP_len]; exact hfd.1
    refine wp_skip (then_n (wp_seq (wp_block (wp_seq (wp_region_lit ?_)))))
    refine s_v hf (x_indexAddr sl125 (hf.eval rfl) (hf.eval rfl) (by omega) (by omega)) ?_; clear hf a; intro a hf
    refine s_r hf (x_loadS (f := pcF) ag127 (fun _ => rfl) hrd (hf.eval rfl) (by simp; omega)) ?_; clear hf a; intro a hf
    replace hf := hf.now (k := 82) (v' := .agg (pcF e.ps[i]).toArray) rfl (by rw [← hltk]; rfl)
    refine s_do hf rfl (y_alloc hs Tryz.zeroValue127 ?_); clear hf hs a; intro b7 w hs a hf
    change St _ _ (cb b7 127 [.int .i64 0, .slice none 0 0] :: _) at hs
    refine s_do0 hf rfl (y_storeAgg (cs := pcF e.ps[i]) hs (n := 2) (by kernel_rfl) (hf.eval rfl) (hf.eval rfl) (pcF_one hpd) rfl rfl .k0 ?_); clear hf hs a; intro w hs a hf
    refine s_nil (then_n (wp_seq (wp_region_lit ?_)))
    refine s_v hf (x_fieldAddr fo127_0 (hf.eval rfl)) ?_; clear hf a; intro a hf
    refine s_r hf (x_load sc3 (hf.eval rfl) (by apply hs.cell <;> repeat constructor)) ?_; clear hf a; intro a hf
    refine s_m hf rfl ?_; clear hf a; intro a hf
    refine s_v hf (x_bin (hf.eval rfl) (hf.eval rfl) (r_lt _ _ _ _)) ?_; clear hf a; intro a hf
    refine s_nil (then_n ?_)
    refine c_cond hf rfl (fun hi5 => ?_) (fun hi5 => ?_)
    ·simp only [zd1, zd2, zd3, zd4, zd5, zd6, zd7] at hi5
     have hat5 : e.ps[i].1 < outN s (csz, secs, rest) := by omega
     refine c_draw hs (fun _ => True) [.held, .held, .read, .held, .held, .read, .fin] (by kernel_rfl) (by kernel_rfl) (fun _ _ _ => trivial) ?_
     clear hs; intro w hs hC hw
     refine m_held hf rfl (fun w' _ => x_move (hf.eval rfl) w') ?_; clear hf a; intro a hf
     refine m_held hf rfl (fun w' _ => x_fieldAddr fo127_0 (hf.eval rfl) w') ?_; clear hf a; intro a hf
     refine m_read hf rfl (x_load sc3 (hf.eval rfl) (by apply hs.cell <;> repeat constructor)) ?_; clear hf a; intro a hf
     refine m_held hf rfl (fun w' _ => x_slice_lo sl22 (hf.eval rfl) (hf.eval rfl)  (by omega) (by omega)  w') ?_; clear hf a; intro a hf
     replace hf := hf.now (k := 90) (v' := .slice (some ⟨fb, e.ps[i].1, none⟩) (outN s (csz, secs, rest) - e.ps[i].1) (outN s (csz, secs, rest) - e.ps[i].1)) rfl (by rw [Int.toNat_natCast, subA_at hat5])
     refine m_held hf rfl (fun w' _ => x_fieldAddr fo127_1 (hf.eval rfl) w') ?_; clear hf a; intro a hf
     refine m_read hf rfl (x_load sc22 (hf.eval rfl) (by apply hs.cell <;> repeat constructor)) ?_; clear hf a; intro a hf
     refine m_fin hf rfl (y_copyB (o := e.ps[i].1) (cur' := putP (putsP out ((e.ps.map pcOf).take i)) (pcOf e.ps[i])) hs sl22 (hf.eval rfl) (hf.eval rfl) (fun _ => rfl) ((hs.ents .k8 he).2.2 _ (List.getElem_mem hlt2)) rfl .k2 (by rw [putP_in (p := pcOf e.ps[i]) (by rw [hlo]; exact hat5), hlo]; rfl) (by rw [hlo]; omega) ?_); clear hf hs a; intro w hs; intro a hf
     have hs9 := hs.drop
     refine blk_n (then_n (wp_region_lit ?_))
     refine s_v hf (x_bin (hf.eval rfl) (hf.eval rfl) (r_addi _ (by omega) (by omega))) ?_; clear hf a; intro a hf
     refine s_m hf rfl ?_; clear hf a; intro a hf
     refine s_nil ?_
     exact ⟨_, _, ⟨i + 1, rfl, rfl, by omega, by rw [putsP_take hlm, List.getElem_map]; exact hs9⟩, by omega, hf.sub ⟨rfl, rfl, rfl, rfl, rfl, rfl, rfl, rfl, rfl, rfl, rfl, rfl, rfl, rfl, rfl, rfl, rfl, rfl, rfl, rfl, rfl, rfl, rfl, rfl, rfl, rfl, rfl, rfl, rfl, rfl, trivial⟩⟩
    simp only [zd1, zd2, zd3, zd4, zd5, zd6, zd7] at hi5
    have hs9 : St σ w (blk r (.mapIter (some mp) clk (seen.push e.born) clk) :: bb fb 5 (putP (putsP out ((e.ps.map pcOf).take i)) (pcOf e.ps[i])) :: cb cb0 64 [.int .i64 csz, .slice ac secs.length cc, .int .i64 rest] :: dcell 85 p (kilS s) ⟨.slice a1 s.now.length c1, .slice a2 s.dur.length c2, mp, .slice a4 s.sizes.length c4, es, clk⟩ :: slB 5 (.slice a1 s.now.length c1) s.now :: slB 5 (.slice a2 s.dur.length c2) s.dur :: mapA mp es clk :: entsA 127 5 es :: sl 3 1 (.slice a4 s.sizes.length c4) s.sizes.length (szC s.sizes) :: R) := by rw [putP_out (p := pcOf e.ps[i]) (by rw [hlo]; show outN s (csz, secs, rest) ≤ e.ps[i].1; omega)]; exact hs.drop
    refine wp_skip (blk_n (then_n (wp_region_lit ?_)))
    refine s_v hf (x_bin (hf.eval rfl) (hf.eval rfl) (r_addi _ (by omega) (by omega))) ?_; clear hf a; intro a hf
    refine s_m hf rfl ?_; clear hf a; intro a hf
    refine s_nil ?_
    exact ⟨_, _, ⟨i + 1, rfl, rfl, by omega, by rw [putsP_take hlm, List.getElem_map]; exact hs9⟩, by omega, hf.sub ⟨rfl, rfl, rfl, rfl, rfl, rfl, rfl, rfl, rfl, rfl, rfl, rfl, rfl, rfl, rfl, rfl, rfl, rfl, rfl, rfl, rfl, rfl, rfl, rfl, rfl, rfl, rfl, rfl, rfl, rfl, trivial⟩⟩
   simp only [zd1, zd2, zd3, zd4, zd5, zd6, zd7] at hi4
   have hN9 : N = i := by omega
   refine wp_exit (then_x (then_x (blk_x (blk_n ?_))))
   obtain rfl : i = N := by omega
   have hfd2 := fnd_step ho hm hfd he hns
   exact ⟨_, _, ⟨seen.push e.born, putsP out (keptP s (csz, secs, rest) e.sec), rfl, rfl, by simpa using hfd2, by rw [hkp, ← hN9]; exact hs⟩, unseen_lt he hns, hf.sub ⟨rfl, rfl, rfl, rfl, rfl, rfl, rfl, trivial⟩⟩
  have hall := hbf hi2
  subst hi2
  replace hs : St σ w (blk r (.mapIter (some mp) clk seen clk) :: bb fb 5 (out) :: cb cb0 64 [.int .i64 csz, .slice ac secs.length cc, .int .i64 rest] :: dcell 85 p (kilS s) ⟨.slice a1 s.now.length c1, .slice a2 s.dur.length c2, mp, .slice a4 s.sizes.length c4, es, clk⟩ :: slB 5 (.slice a1 s.now.length c1) s.now :: slB 5 (.slice a2 s.dur.length c2) s.dur :: mapA mp es clk :: entsA 127 5 es :: sl 3 1 (.slice a4 s.sizes.length c4) s.sizes.length (szC s.sizes) :: R) := hs
  clear hbt hbf
  obtain rfl := fnd_end hg hfd hall
  refine wp_exit (then_x (then_x (blk_x (then_n (wp_seq (wp_region_lit ?_))))))
  refine s_m hf rfl ?_; clear hf a; intro a hf
  replace hf := hf.now (k := 95) (v' := .slice (some ⟨fb, 0, none⟩) (outS s (csz, secs, rest)).length (outN s (csz, secs, rest))) rfl (by rw [outS_length])
  refine s_m hf rfl ?_; clear hf a; intro a hf
  refine s_v hf (x_nilCheck (hf.eval rfl)) ?_; clear hf a; intro a hf
  refine s_v hf (x_fieldAddr fo85_0 (hf.eval rfl)) ?_; clear hf a; intro a hf
  refine s_r hf (x_load sc3 (hf.eval rfl) (by apply hs.cell <;> repeat constructor)) ?_; clear hf a; intro a hf
  refine s_do hf rfl (y_call (hf.eval rfl) (hf.evals rfl) Tryz.call7 ((dNew_in _ _ _ (outS s (csz, secs, rest)) (hs.rdB .k1 (fun h hb => by have h9 := rdB_of_bb hb (Nat.le_refl (outS s (csz, secs, rest)).length) (c := outN s (csz, secs, rest)) (by rw [outS_length]; exact Nat.le_refl _); rwa [List.take_length] at h9)) (by rw [outS_length]; omega) s.room hroom0 hroom1 (by rw [outS_length]; exact hoN)).mono ?_))
  rintro e w1 ⟨p2, rfl, hj⟩
  replace hs := hs.join hj
  simp only [List.cons_append, List.nil_append] at hs
  refine ⟨_, rfl, ?_⟩; clear hf a; intro a hf
  refine s_v hf (x_extract (hf.eval rfl) rfl) ?_; clear hf a; intro a hf
  refine s_v hf (x_extract (hf.eval rfl) rfl) ?_; clear hf a; intro a hf
  refine s_a hf rfl ?_; clear hf a; intro a hf
  refine s_a hf rfl ?_; clear hf a; intro a hf
  refine s_nil (then_n ?_)
  refine wp_ret ?_
  refine r_2 hf Tryz.results33 rfl rfl ?_
  refine ⟨p2, rfl, ?_⟩
  replace hs := St.give (L := _) (((hs.lose .k1).lose .k1).lose .k1) .k6
  exact (diskA_close (s := kilS s) (x := ⟨.slice a1 s.now.length c1, .slice a2 s.dur.length c2, mp, .slice a4 s.sizes.length c4, es, clk⟩) hm hg hs).take .k1
 simp only [zd1, zd2, zd3, zd4, zd5, zd6, zd7] at hi1
 have hix : ¬ 0 < szIx s (csz, secs, rest) := by omega
 replace hf := hf.now (k := 6) (v' := .int .i64 (outN s (csz, secs, rest) : Int)) rfl (by rw [outN_none hix])
 refine wp_skip (then_n (wp_seq (wp_region_lit ?_)))
 refine s_m hf rfl ?_; clear hf a; intro a hf
 have hoN := outN_le ho (csz, secs, rest)
 refine s_do hf rfl (y_makeB (m := outN s (csz, secs, rest)) (c := outN s (csz, secs, rest)) hs sl22 (hf.eval rfl) (hf.eval rfl) rfl rfl (Nat.le_refl _) (by omega) ?_); clear hf hs a; intro fb w hs a hf
 refine s_a hf rfl ?_; clear hf a; intro a hf
 refine s_nil (then_n (wp_seq (wp_region_lit ?_)))
 refine s_m hf rfl ?_; clear hf a; intro a hf
 refine s_m hf rfl ?_; clear hf a; intro a hf
 refine s_v hf (x_nilCheck (hf.eval rfl)) ?_; clear hf a; intro a hf
 refine s_v hf (x_fieldAddr fo85_2 (hf.eval rfl)) ?_; clear hf a; intro a hf
 refine s_r hf (x_load sc22 (hf.eval rfl) (by apply hs.cell <;> repeat constructor)) ?_; clear hf a; intro a hf
 refine s_do hf rfl (y_copyB (o := 0) (cur' := spl (List.replicate (outN s (csz, secs, rest)) 0) 0 (s.dur.take (min s.dur.length (outN s (csz, secs, rest))))) hs sl22 (hf.eval rfl) (hf.eval rfl) (fun _ => rfl) (hs.rdB .k4 fun h => slB_rd) rfl .k0 rfl (by simp) ?_); clear hf hs a; intro w hs a hf
 obtain ⟨out0, ho0⟩ : ∃ o, o = spl (List.replicate (outN s (csz, secs, rest)) 0) 0 (s.dur.take (min s.dur.length (outN s (csz, secs, rest)))) := ⟨_, rfl⟩
 rw [← ho0] at hs
 obtain ⟨hd1, hd2⟩ := dur_start s _ ho0
 refine s_nil (then_n (wp_seq (wp_seq (wp_region_lit ?_))))
 refine s_m hf rfl ?_; clear hf a; intro a hf
 refine s_v hf (x_nilCheck (hf.eval rfl)) ?_; clear hf a; intro a hf
 refine s_v hf (x_fieldAddr fo85_3 (hf.eval rfl)) ?_; clear hf a; intro a hf
 refine s_r hf (x_load sc83 (hf.eval rfl) (by apply hs.cell <;> repeat constructor)) ?_; clear hf a; intro a hf
 refine s_do hf rfl (y_range hs Tryz.underlying83 (hf.eval rfl) .k5 ?_); clear hf hs a; intro r w hs a hf
 refine s_nil (then_n (wp_block ?_))
 refine c_loop (L0 := [(0, _), (3, _), (4, _), (5, _), (6, _), (8, _), (54, _)]) (fun M w m => ∃ (seen : Array Nat) (out : List UInt8), M = [] ∧ (es.filter fun x => decide (x.born ∉ seen.toList)).length = m ∧ Fnd s (csz, secs, rest) es seen.toList out ∧ St σ w (blk r (.mapIter (some mp) clk seen clk) :: bb fb 5 (out) :: cb cb0 64 [.int .i64 csz, .slice ac secs.length cc, .int .i64 rest] :: dcell 85 p (kilS s) ⟨.slice a1 s.now.length c1, .slice a2 s.dur.length c2, mp, .slice a4 s.sizes.length c4, es, clk⟩ :: slB 5 (.slice a1 s.now.length c1) s.now :: slB 5 (.slice a2 s.dur.length c2) s.dur :: mapA mp es clk :: entsA 127 5 es :: sl 3 1 (.slice a4 s.sizes.length c4) s.sizes.length (szC s.sizes) :: R)) (M0 := _) (⟨#[], out0, rfl, rfl, fnd_start s (csz, secs, rest) es hd1 hd2, hs⟩) (hf.sub ⟨rfl, rfl, rfl, rfl, rfl, rfl, rfl, trivial⟩) ?_
 clear hf hs a
 rintro M m a w ⟨seen, out, rfl, rfl, hfd, hs⟩ hf
 clear hd1 hd2
 refine wp_seq (wp_region_lit ?_)
 refine s_do hf rfl (y_nextB hs (hf.eval rfl) .k5 hm ?_); clear hf hs a; intro b e w hs hbt hbf a hf
 refine s_v hf (x_extract (hf.eval rfl) (nxt_0 b e)) ?_; clear hf a; intro a hf
 refine s_nil (then_n (wp_seq ?_))
 refine c_cond hf rfl (fun hi2 => ?_) (fun hi2 => ?_)
 ·obtain ⟨he, hns⟩ := hbt hi2
  subst hi2
  replace hs : St σ w (blk r (.mapIter (some mp) clk (seen.push e.born) clk) :: bb fb 5 (out) :: cb cb0 64 [.int .i64 csz, .slice ac secs.length cc, .int .i64 rest] :: dcell 85 p (kilS s) ⟨.slice a1 s.now.length c1, .slice a2 s.dur.length c2, mp, .slice a4 s.sizes.length c4, es, clk⟩ :: slB 5 (.slice a1 s.now.length c1) s.now :: slB 5 (.slice a2 s.dur.length c2) s.dur :: mapA mp es clk :: entsA 127 5 es :: sl 3 1 (.slice a4 s.sizes.length c4) s.sizes.length (szC s.sizes) :: R) := hs
  clear hbt hbf
  obtain ⟨⟨ea, ec, hev⟩, hrd0, _⟩ := hs.ents .k7 he
  rw [hev] at hrd0
  have hec := RdC.cap hrd0
  clear hrd0
  refine wp_skip (then_n (wp_block (wp_seq (wp_region_lit ?_))))
  refine s_r hf (x_entry (hf.eval rfl) hs.head (hs.blk_at .k6) he hm) ?_; clear hf a; intro a hf
  replace hf := hf.now (k := 57) (v' := .tuple #[.int .i64 (e.sec : Int), .slice ea e.ps.length ec]) rfl (by rw [hev])
  refine s_v hf (x_extract (hf.eval rfl) rfl) ?_; clear hf a; intro a hf
  refine s_v hf (x_extract (hf.eval rfl) rfl) ?_; clear hf a; intro a hf
  refine s_a hf rfl ?_; clear hf a; intro a hf
  refine s_a hf rfl ?_; clear hf a; intro a hf
  refine s_nil (then_n (wp_seq (wp_region_lit ?_)))
  refine s_v hf (x_fieldAddr fo64_2 (hf.eval rfl)) ?_; clear hf a; intro a hf
  refine s_r hf (x_load sc3 (hf.eval rfl) (by apply hs.cell <;> repeat constructor)) ?_; clear hf a; intro a hf
  refine s_a hf rfl ?_; clear hf a; intro a hf
  refine s_nil (then_n (wp_seq (wp_seq (wp_region_lit ?_))))
  refine s_m hf rfl ?_; clear hf a; intro a hf
  refine s_v hf (x_fieldAddr fo64_1 (hf.eval rfl)) ?_; clear hf a; intro a hf
  refine s_r hf (x_load sc62 (hf.eval rfl) (by apply hs.cell <;> repeat constructor)) ?_; clear hf a; intro a hf
  refine s_v hf (x_len Tryz.underlying62 (hf.eval rfl)) ?_; clear hf a; intro a hf
  refine s_v hf (x_bin (hf.eval rfl) (hf.eval rfl) (r_lt _ _ _ _)) ?_; clear hf a; intro a hf
  refine s_nil (then_n ?_)
  refine c_cond hf rfl (fun hi3 => ?_) (fun hi3 => ?_)
  ·simp only [zd1, zd2, zd3, zd4, zd5, zd6, zd7] at hi3
   have hsl : e.sec < secs.length := by omega
   have hrd := hrc _ [_, _, _, _, _, _, _, _, _] hs
   obtain ⟨ac, rfl⟩ := hrd.some (by omega)
   clear hrd
   refine wp_region_lit ?_
   refine s_v hf (x_fieldAddr fo64_1 (hf.eval rfl)) ?_; clear hf a; intro a hf
   refine s_r hf (x_load sc62 (hf.eval rfl) (by apply hs.cell <;> repeat constructor)) ?_; clear hf a; intro a hf
   refine s_m hf rfl ?_; clear hf a; intro a hf
   refine s_v hf (x_indexAddr sl62 (hf.eval rfl) (hf.eval rfl) (by omega) (by omega)) ?_; clear hf a; intro a hf
   refine s_r hf (x_loadI sc3 (hrc _ [_, _, _, _, _, _, _, _, _] hs) rfl (hf.eval rfl) (by simpa using hsl)) ?_; clear hf a; intro a hf
   refine s_a hf rfl ?_; clear hf a; intro a hf
   replace hf := hf.now (k := 11) (v' := .int .i64 (keepOf (csz, secs, rest) e.sec)) rfl (by rw [keepOf_in (c := (csz, secs, rest)) hsl]; rfl)
   refine s_nil (then_n (wp_seq (wp_region_lit ?_)))
   refine s_m hf rfl ?_; clear hf a; intro a hf
   refine s_m hf rfl ?_; clear hf a; intro a hf
   refine s_m hf rfl ?_; clear hf a; intro a hf
   refine s_v hf (x_len Tryz.underlying125 (hf.eval rfl)) ?_; clear hf a; intro a hf
   refine s_do hf rfl (y_call (hf.eval rfl) (hf.evals rfl) Tryz.call72 ((upTo_spec _ (keepOf (csz, secs, rest) e.sec) e.ps.length).mono ?_))
   rintro e w1 ⟨rfl, rfl⟩
   obtain ⟨N, hN⟩ : ∃ N : Nat, (N : Int) = max 0 (min (keepOf (csz, secs, rest) e.sec) (e.ps.length : Int)) := ⟨(max 0 (min (keepOf (csz, secs, rest) e.sec) (e.ps.length : Int))).toNat, by omega⟩
   rw [← hN]
   have hNl : N ≤ e.ps.length := by omega
   have hpl9 := ps_len hm hg he
   have hkp : keptP s (csz, secs, rest) e.sec = (e.ps.map pcOf).take N := by rw [kept_eq hm hg he, show N = min (e.ps.map pcOf).length (keepOf (csz, secs, rest) e.sec).toNat by rw [List.length_map]; omega, take_min]
   refine ⟨_, rfl, ?_⟩; clear hf a; intro a hf
   refine s_v hf (x_slice_hi sl125 (hf.eval rfl) (hf.eval rfl)  (by omega) (by omega) ) ?_; clear hf a; intro a hf
   replace hf := hf.now (k := 77) (v' := .slice ea N ec) rfl (rfl)
   refine s_v hf (x_len Tryz.underlying125 (hf.eval rfl)) ?_; clear hf a; intro a hf
   refine s_m hf rfl ?_; clear hf a; intro a hf
   refine s_nil (then_n (wp_block ?_))
   refine c_loop (L0 := [(0, _), (3, _), (4, _), (5, _), (6, _), (8, _), (9, _), (10, _), (11, _), (54, _), (55, _), (56, _), (57, _), (58, _), (59, _), (60, _), (61, _), (62, _), (63, _), (64, _), (65, _), (66, _), (67, _), (68, _), (69, _), (70, _), (71, _), (72, _), (73, _), (74, _), (75, _), (76, _), (77, _), (78, _)]) (fun M w m => ∃ (i : Nat), M = [(79, .int .i64 (i : Int))] ∧ N - i = m ∧ i ≤ N ∧ St σ w (blk r (.mapIter (some mp) clk (seen.push e.born) clk) :: bb fb 5 (putsP out ((e.ps.map pcOf).take i)) :: cb cb0 64 [.int .i64 csz, .slice ac secs.length cc, .int .i64 rest] :: dcell 85 p (kilS s) ⟨.slice a1 s.now.length c1, .slice a2 s.dur.length c2, mp, .slice a4 s.sizes.length c4, es, clk⟩ :: slB 5 (.slice a1 s.now.length c1) s.now :: slB 5 (.slice a2 s.dur.length c2) s.dur :: mapA mp es clk :: entsA 127 5 es :: sl 3 1 (.slice a4 s.sizes.length c4) s.sizes.length (szC s.sizes) :: R)) (M0 := [(79, .int .i64 0)]) (⟨0, rfl, rfl, Nat.zero_le _, hs⟩) (hf.sub ⟨rfl, rfl, rfl, rfl, rfl, rfl, rfl, rfl, rfl, rfl, rfl, rfl, rfl, rfl, rfl, rfl, rfl, rfl, rfl, rfl, rfl, rfl, rfl, rfl, rfl, rfl, rfl, rfl, rfl, rfl, rfl, rfl, rfl, rfl, rfl, trivial⟩) ?_
   clear hf hs a
   rintro M m a w ⟨i, rfl, rfl, hi, hs⟩ hf
   refine wp_seq (wp_region_lit ?_)
   refine s_v hf (x_bin (hf.eval rfl) (hf.eval rfl) (r_lt _ _ _ _)) ?_; clear hf a; intro a hf
   refine s_nil (then_n (wp_seq ?_))
   refine c_cond hf rfl (fun hi4 => ?_) (fun hi4 => ?_)
   ·simp only [zd1, zd2, zd3, zd4, zd5, zd6, zd7] at hi4
    have hlt : i < N := by omega
    have hlt2 : i < e.ps.length := by omega
    have hlm : i < (e.ps.map pcOf).length := by rw [List.length_map]; omega
    obtain ⟨_, hrd, hdt⟩ := hs.ents .k7 he
    rw [hev] at hrd
    replace hrd := RdS.pre (f := pcF) (sz := 2) (fun _ => rfl) hrd hNl
    have hltk : (e.ps.take N)[i]'(by rw [List.length_take]; omega) = e.ps[i] := List.getElem_take ..
    obtain ⟨ea, rfl⟩ := hrd.some (by rw [List.length_take]; omega)
    have hpd := hdt _ (List.getElem_mem hlt2)
    clear hdt
    have hok9 := ho.pcs
    have hlo : (putsP out ((e.ps.map pcOf).take i)).length = outN s (csz, secs, rest) := by rw [putsP_len]; exact hfd.1
    refine wp_skip (then_n (wp_seq (wp_block (wp_seq (wp_region_lit ?_)))))
    refine s_v hf (x_indexAddr sl125 (hf.eval rfl) (hf.eval rfl) (by omega) (by omega)) ?_; clear hf a; intro a hf
    refine s_r hf (x_loadS (f := pcF) ag127 (fun _ => rfl) hrd (hf.eval rfl) (by simp; omega)) ?_; clear hf a; intro a hf
    replace hf := hf.now (k := 82) (v' := .agg (pcF e.ps[i]).toArray) rfl (by rw [← hltk]; rfl)
    refine s_do hf rfl (y_alloc hs Tryz.zeroValue127 ?_); clear hf hs a; intro b7 w hs a hf
    change St _ _ (cb b7 127 [.int .i64 0, .slice none 0 0] :: _) at hs
    refine s_do0 hf rfl (y_storeAgg (cs := pcF e.ps[i]) hs (n := 2) (by kernel_rfl) (hf.eval rfl) (hf.eval rfl) (pcF_one hpd) rfl rfl .k0 ?_); clear hf hs a; intro w hs a hf
    refine s_nil (then_n (wp_seq (wp_region_lit ?_)))
    refine s_v hf (x_fieldAddr fo127_0 (hf.eval rfl)) ?_; clear hf a; intro a hf
    refine s_r hf (x_load sc3 (hf.eval rfl) (by apply hs.cell <;> repeat constructor)) ?_; clear hf a; intro a hf
    refine s_m hf rfl ?_; clear hf a; intro a hf
    refine s_v hf (x_bin (hf.eval rfl) (hf.eval rfl) (r_lt _ _ _ _)) ?_; clear hf a; intro a hf
    refine s_nil (then_n ?_)
    refine c_cond hf rfl (fun hi5 => ?_) (fun hi5 => ?_)
    ·simp only [zd1, zd2, zd3, zd4, zd5, zd6, zd7] at hi5
     have hat5 : e.ps[i].1 < outN s (csz, secs, rest) := by omega
     refine c_draw hs (fun _ => True) [.held, .held, .read, .held, .held, .read, .fin] (by kernel_rfl) (by kernel_rfl) (fun _ _ _ => trivial) ?_
     clear hs; intro w hs hC hw
     refine m_held hf rfl (fun w' _ => x_move (hf.eval rfl) w') ?_; clear hf a; intro a hf
     refine m_held hf rfl (fun w' _ => x_fieldAddr fo127_0 (hf.eval rfl) w') ?_; clear hf a; intro a hf
     refine m_read hf rfl (x_load sc3 (hf.eval rfl) (by apply hs.cell <;> repeat constructor)) ?_; clear hf a; intro a hf
     refine m_held hf rfl (fun w' _ => x_slice_lo sl22 (hf.eval rfl) (hf.eval rfl)  (by omega) (by omega)  w') ?_; clear hf a; intro a hf
     replace hf := hf.now (k := 90) (v' := .slice (some ⟨fb, e.ps[i].1, none⟩) (outN s (csz, secs, rest) - e.ps[i].1) (outN s (csz, secs, rest) - e.ps[i].1)) rfl (by rw [Int.toNat_natCast, subA_at hat5])
     refine m_held hf rfl (fun w' _ => x_fieldAddr fo127_1 (hf.eval rfl) w') ?_; clear hf a; intro a hf
     refine m_read hf rfl (x_load sc22 (hf.eval rfl) (by apply hs.cell <;> repeat constructor)) ?_; clear hf a; intro a hf
     refine m_fin hf rfl (y_copyB (o := e.ps[i].1) (cur' := putP (putsP out ((e.ps.map pcOf).take i)) (pcOf e.ps[i])) hs sl22 (hf.eval rfl) (hf.eval rfl) (fun _ => rfl) ((hs.ents .k8 he).2.2 _ (List.getElem_mem hlt2)) rfl .k2 (by rw [putP_in (p := pcOf e.ps[i]) (by rw [hlo]; exact hat5), hlo]; rfl) (by rw [hlo]; omega) ?_); clear hf hs a; intro w hs; intro a hf
     have hs9 := hs.drop
     refine blk_n (then_n (wp_region_lit ?_))
     refine s_v hf (x_bin (hf.eval rfl) (hf.eval rfl) (r_addi _ (by omega) (by omega))) ?_; clear hf a; intro a hf
     refine s_m hf rfl ?_; clear hf a; intro a hf
     refine s_nil ?_
     exact ⟨_, _, ⟨i + 1, rfl, rfl, by omega, by rw [putsP_take hlm, List.getElem_map]; exact hs9⟩, by omega, hf.sub ⟨rfl, rfl, rfl, rfl, rfl, rfl, rfl, rfl, rfl, rfl, rfl, rfl, rfl, rfl, rfl, rfl, rfl, rfl, rfl, rfl, rfl, rfl, rfl, rfl, rfl, rfl, rfl, rfl, rfl, rfl, rfl, rfl, rfl, rfl, rfl, trivial⟩⟩
    simp only [zd1, zd2, zd3, zd4, zd5, zd6, zd7] at hi5
    have hs9 : St σ w (blk r (.mapIter (some mp) clk (seen.push e.born) clk) :: bb fb 5 (putP (putsP out ((e.ps.map pcOf).take i)) (pcOf e.ps[i])) :: cb cb0 64 [.int .i64 csz, .slice ac secs.length cc, .int .i64 rest] :: dcell 85 p (kilS s) ⟨.slice a1 s.now.length c1, .slice a2 s.dur.length c2, mp, .slice a4 s.sizes.length c4, es, clk⟩ :: slB 5 (.slice a1 s.now.length c1) s.now :: slB 5 (.slice a2 s.dur.length c2) s.dur :: mapA mp es clk :: entsA 127 5 es :: sl 3 1 (.slice a4 s.sizes.length c4) s.sizes.length (szC s.sizes) :: R) := by rw [putP_out (p := pcOf e.ps[i]) (by rw [hlo]; show outN s (csz, secs, rest) ≤ e.ps[i].1; omega)]; exact hs.drop
    refine wp_skip (blk_n (then_n (wp_region_lit ?_)))
    refine s_v hf (x_bin (hf.eval rfl) (hf.eval rfl) (r_addi _ (by omega) (by omega))) ?_; clear hf a; intro a hf
    refine s_m hf rfl ?_; clear hf a; intro a hf
    refine s_nil ?_
    exact ⟨_, _, ⟨i + 1, rfl, rfl, by omega, by rw [putsP_take hlm, List.getElem_map]; exact hs9⟩, by omega, hf.sub ⟨rfl, rfl, rfl, rfl, rfl, rfl, rfl, rfl, rfl, rfl, rfl, rfl, rfl, rfl, rfl, rfl, rfl, rfl, rfl, rfl, rfl, rfl, rfl, rfl, rfl, rfl, rfl, rfl, rfl, rfl, rfl, rfl, rfl, rfl, rfl, trivial⟩⟩
   simp only [zd1, zd2, zd3, zd4, zd5, zd6, zd7] at hi4
   have hN9 : N = i := by omega
   refine wp_exit (then_x (then_x (blk_x (blk_n ?_))))
   obtain rfl : i = N := by omega
   have hfd2 := fnd_step ho hm hfd he hns
   exact ⟨_, _, ⟨seen.push e.born, putsP out (keptP s (csz, secs, rest) e.sec), rfl, rfl, by simpa using hfd2, by rw [hkp, ← hN9]; exact hs⟩, unseen_lt he hns, hf.sub ⟨rfl, rfl, rfl, rfl, rfl, rfl, rfl, trivial⟩⟩
  simp only [zd1, zd2, zd3, zd4, zd5, zd6, zd7] at hi3
  replace hf := hf.now (k := 11) (v' := .int .i64 (keepOf (csz, secs, rest) e.sec)) rfl (by rw [keepOf_out (by simp only; omega)])
  refine wp_skip (then_n (wp_seq (wp_region_lit ?_)))
  refine s_m hf rfl ?_; clear hf a; intro a hf
  refine s_m hf rfl ?_; clear hf a; intro a hf
  refine s_m hf rfl ?_; clear hf a; intro a hf
  refine s_v hf (x_len Tryz.underlying125 (hf.eval rfl)) ?_; clear hf a; intro a hf
  refine s_do hf rfl (y_call (hf.eval rfl) (hf.evals rfl) Tryz.call72 ((upTo_spec _ (keepOf (csz, secs, rest) e.sec) e.ps.length).mono ?_))
  rintro e w1 ⟨rfl, rfl⟩
  obtain ⟨N, hN⟩ : ∃ N : Nat, (N : Int) = max 0 (min (keepOf (csz, secs, rest) e.sec) (e.ps.length : Int)) := ⟨(max 0 (min (keepOf (csz, secs, rest) e.sec) (e.ps.length : Int))).toNat, by omega⟩
  rw [← hN]
  have hNl : N ≤ e.ps.length := by omega
  have hpl9 := ps_len hm hg he
  have hkp : keptP s (csz, secs, rest) e.sec = (e.ps.map pcOf).take N := by rw [kept_eq hm hg he, show N = min (e.ps.map pcOf).length (keepOf (csz, secs, rest) e.sec).toNat by rw [List.length_map]; omega, take_min]
  refine ⟨_, rfl, ?_⟩; clear hf a; intro a hf
  refine s_v hf (x_slice_hi sl125 (hf.eval rfl) (hf.eval rfl)  (by omega) (by omega) ) ?_; clear hf a; intro a hf
  replace hf := hf.now (k := 77) (v' := .slice ea N ec) rfl (rfl)
  refine s_v hf (x_len Tryz.underlying125 (hf.eval rfl)) ?_; clear hf a; intro a hf
  refine s_m hf rfl ?_; clear hf a; intro a hf
  refine s_nil (then_n (wp_block ?_))
  refine c_loop (L0 := [(0, _), (3, _), (4, _), (5, _), (6, _), (8, _), (9, _), (10, _), (11, _), (54, _), (55, _), (56, _), (57, _), (58, _), (59, _), (60, _), (61, _), (62, _), (63, _), (64, _), (65, _), (66, _), (72, _), (73, _), (74, _), (75, _), (76, _), (77, _), (78, _)]) (fun M w m => ∃ (i : Nat), M = [(79, .int .i64 (i : Int))] ∧ N - i = m ∧ i ≤ N ∧ St σ w (blk r (.mapIter (some mp) clk (seen.push e.born) clk) :: bb fb 5 (putsP out ((e.ps.map pcOf).take i)) :: cb cb0 64 [.int .i64 csz, .slice ac secs.length cc, .int .i64 rest] :: dcell 85 p (kilS s) ⟨.slice a1 s.now.length c1, .slice a2 s.dur.length c2, mp, .slice a4 s.sizes.length c4, es, clk⟩ :: slB 5 (.slice a1 s.now.length c1) s.now :: slB 5 (.slice a2 s.dur.length c2) s.dur :: mapA mp es clk :: entsA 127 5 es :: sl 3 1 (.slice a4 s.sizes.length c4) s.sizes.length (szC s.sizes) :: R)) (M0 := [(79, .int .i64 0)]) (⟨0, rfl, rfl, Nat.zero_le _, hs⟩) (hf.sub ⟨rfl, rfl, rfl, rfl, rfl, rfl, rfl, rfl, rfl, rfl, rfl, rfl, rfl, rfl, rfl, rfl, rfl, rfl, rfl, rfl, rfl, rfl, rfl, rfl, rfl, rfl, rfl, rfl, rfl, rfl, trivial⟩) ?_
  clear hf hs a
  rintro M m a w ⟨i, rfl, rfl, hi, hs⟩ hf
  refine wp_seq (wp_region_lit ?_)
  refine s_v hf (x_bin (hf.eval rfl) (hf.eval rfl) (r_lt _ _ _ _)) ?_; clear hf a; intro a hf
  refine s_nil (then_n (wp_seq ?_))
  refine c_cond hf rfl (fun hi4 => ?_) (fun hi4 => ?_)
  ·simp only [zd1, zd2, zd3, zd4, zd5, zd6, zd7] at hi4
   have hlt : i < N := by omega
   have hlt2 : i < e.ps.length := by omega
   have hlm : i < (e.ps.map pcOf).length := by rw [List.length_map]; omega
   obtain ⟨_, hrd, hdt⟩ := hs.ents .k7 he
   rw [hev] at hrd
   replace hrd := RdS.pre (f := pcF) (sz := 2) (fun _ => rfl) hrd hNl
   have hltk : (e.ps.take N)[i]'(by rw [List.length_take]; omega) = e.ps[i] := List.getElem_take ..
   obtain ⟨ea, rfl⟩ := hrd.some (by rw [List.length_take]; omega)
   have hpd := hdt _ (List.getElem_mem hlt2)
   clear hdt
   have hok9 := ho.pcs
   have hlo : (putsP out ((e.ps.map pcOf).take i)).length = outN s (csz, secs, rest) := by rw [putsP_len]; exact hfd.1
   refine wp_skip (then_n (wp_seq (wp_block (wp_seq (wp_region_lit ?_)))))
   refine s_v hf (x_indexAddr sl125 (hf.eval rfl) (hf.eval rfl) (by omega) (by omega)) ?_; clear hf a; intro a hf
   refine s_r hf (x_loadS (f := pcF) ag127 (fun _ => rfl) hrd (hf.eval rfl) (by simp; omega)) ?_; clear hf a; intro a hf
   replace hf := hf.now (k := 82) (v' := .agg (pcF e.ps[i]).toArray) rfl (by rw [← hltk]; rfl)
   refine s_do hf rfl (y_alloc hs Tryz.zeroValue127 ?_); clear hf hs a; intro b7 w hs a hf
   change St _ _ (cb b7 127 [.int .i64 0, .slice none 0 0] :: _) at hs
   refine s_do0 hf rfl (y_storeAgg (cs := pcF e.ps[i]) hs (n := 2) (by kernel_rfl) (hf.eval rfl) (hf.eval rfl) (pcF_one hpd) rfl rfl .k0 ?_); clear hf hs a; intro w hs a hf
   refine s_nil (then_n (wp_seq (wp_region_lit ?_)))
   refine s_v hf (x_fieldAddr fo127_0 (hf.eval rfl)) ?_; clear hf a; intro a hf
   refine s_r hf (x_load sc3 (hf.eval rfl) (by apply hs.cell <;> repeat constructor)) ?_; clear hf a; intro a hf
   refine s_m hf rfl ?_; clear hf a; intro a hf
   refine s_v hf (x_bin (hf.eval rfl) (hf.eval rfl) (r_lt _ _ _ _)) ?_; clear hf a; intro a hf
   refine s_nil (then_n ?_)
   refine c_cond hf rfl (fun hi5 => ?_) (fun hi5 => ?_)
   ·simp only [zd1, zd2, zd3, zd4, zd5, zd6, zd7] at hi5
    have hat5 : e.ps[i].1 < outN s (csz, secs, rest) := by omega
    refine c_draw hs (fun _ => True) [.held, .held, .read, .held, .held, .read, .fin] (by kernel_rfl) (by kernel_rfl) (fun _ _ _ => trivial) ?_
    clear hs; intro w hs hC hw
    refine m_held hf rfl (fun w' _ => x_move (hf.eval rfl) w') ?_; clear hf a; intro a hf
    refine m_held hf rfl (fun w' _ => x_fieldAddr fo127_0 (hf.eval rfl) w') ?_; clear hf a; intro a hf
    refine m_read hf rfl (x_load sc3 (hf.eval rfl) (by apply hs.cell <;> repeat constructor)) ?_; clear hf a; intro a hf
    refine m_held hf rfl (fun w' _ => x_slice_lo sl22 (hf.eval rfl) (hf.eval rfl)  (by omega) (by omega)  w') ?_; clear hf a; intro a hf
    replace hf := hf.now (k := 90) (v' := .slice (some ⟨fb, e.ps[i].1, none⟩) (outN s (csz, secs, rest) - e.ps[i].1) (outN s (csz, secs, rest) - e.ps[i].1)) rfl (by rw [Int.toNat_natCast, subA_at hat5])
    refine m_held hf rfl (fun w' _ => x_fieldAddr fo127_1 (hf.eval rfl) w') ?_; clear hf a; intro a hf
    refine m_read hf rfl (x_load sc22 (hf.eval rfl) (by apply hs.cell <;> repeat constructor)) ?_; clear hf a; intro a hf
    refine m_fin hf rfl (y_copyB (o := e.ps[i].1) (cur' := putP (putsP out ((e.ps.map pcOf).take i)) (pcOf e.ps[i])) hs sl22 (hf.eval rfl) (hf.eval rfl) (fun _ => rfl) ((hs.ents .k8 he).2.2 _ (List.getElem_mem hlt2)) rfl .k2 (by rw [putP_in (p := pcOf e.ps[i]) (by rw [hlo]; exact hat5), hlo]; rfl) (by rw [hlo]; omega) ?_); clear hf hs a; intro w hs; intro a hf
    have hs9 := hs.drop
    refine blk_n (then_n (wp_region_lit ?_))
    refine s_v hf (x_bin (hf.eval rfl) (hf.eval rfl) (r_addi _ (by omega) (by omega))) ?_; clear hf a; intro a hf
    refine s_m hf rfl ?_; clear hf a; intro a hf
    refine s_nil ?_
    exact ⟨_, _, ⟨i + 1, rfl, rfl, by omega, by rw [putsP_take hlm, List.getElem_map]; exact hs9⟩, by omega, hf.sub ⟨rfl, rfl, rfl, rfl, rfl, rfl, rfl, rfl, rfl, rfl, rfl, rfl, rfl, rfl, rfl, rfl, rfl, rfl, rfl, rfl, rfl, rfl, rfl, rfl, rfl, rfl, rfl, rfl, rfl, rfl, trivial⟩⟩
   simp only [zd1, zd2, zd3, zd4, zd5, zd6, zd7] at hi5
   have hs9 : St σ w (blk r (.mapIter (some mp) clk (seen.push e.born) clk) :: bb fb 5 (putP (putsP out ((e.ps.map pcOf).take i)) (pcOf e.ps[i])) :: cb cb0 64 [.int .i64 csz, .slice ac secs.length cc, .int .i64 rest] :: dcell 85 p (kilS s) ⟨.slice a1 s.now.length c1, .slice a2 s.dur.length c2, mp, .slice a4 s.sizes.length c4, es, clk⟩ :: slB 5 (.slice a1 s.now.length c1) s.now :: slB 5 (.slice a2 s.dur.length c2) s.dur :: mapA mp es clk :: entsA 127 5 es :: sl 3 1 (.slice a4 s.sizes.length c4) s.sizes.length (szC s.sizes) :: R) := by rw [putP_out (p := pcOf e.ps[i]) (by rw [hlo]; show outN s (csz, secs, rest) ≤ e.ps[i].1; omega)]; exact hs.drop
   refine wp_skip (blk_n (then_n (wp_region_lit ?_)))
   refine s_v hf (x_bin (hf.eval rfl) (hf.eval rfl) (r_addi _ (by omega) (by omega))) ?_; clear hf a; intro a hf
   refine s_m hf rfl ?_; clear hf a; intro a hf
   refine s_nil ?_
   exact ⟨_, _, ⟨i + 1, rfl, rfl, by omega, by rw [putsP_take hlm, List.getElem_map]; exact hs9⟩, by omega, hf.sub ⟨rfl, rfl, rfl, rfl, rfl, rfl, rfl, rfl, rfl, rfl, rfl, rfl, rfl, rfl, rfl, rfl, rfl, rfl, rfl, rfl, rfl, rfl, rfl, rfl, rfl, rfl, rfl, rfl, rfl, rfl, trivial⟩⟩
  simp only [zd1, zd2, zd3, zd4, zd5, zd6, zd7] at hi4
  have hN9 : N = i := by omega
  refine wp_exit (then_x (then_x (blk_x (blk_n ?_))))
  obtain rfl : i = N := by omega
  have hfd2 := fnd_step ho hm hfd he hns
  exact ⟨_, _, ⟨seen.push e.born, putsP out (keptP s (csz, secs, rest) e.sec), rfl, rfl, by simpa using hfd2, by rw [hkp, ← hN9]; exact hs⟩, unseen_lt he hns, hf.sub ⟨rfl, rfl, rfl, rfl, rfl, rfl, rfl, trivial⟩⟩
 have hall := hbf hi2
 subst hi2
 replace hs : St σ w (blk r (.mapIter (some mp) clk seen clk) :: bb fb 5 (out) :: cb cb0 64 [.int .i64 csz, .slice ac secs.length cc, .int .i64 rest] :: dcell 85 p (kilS s) ⟨.slice a1 s.now.length c1, .slice a2 s.dur.length c2, mp, .slice a4 s.sizes.length c4, es, clk⟩ :: slB 5 (.slice a1 s.now.length c1) s.now :: slB 5 (.slice a2 s.dur.length c2) s.dur :: mapA mp es clk :: entsA 127 5 es :: sl 3 1 (.slice a4 s.sizes.length c4) s.sizes.length (szC s.sizes) :: R) := hs
 clear hbt hbf
 obtain rfl := fnd_end hg hfd hall
 refine wp_exit (then_x (then_x (blk_x (then_n (wp_seq (wp_region_lit ?_))))))
 refine s_m hf rfl ?_; clear hf a; intro a hf
 replace hf := hf.now (k := 95) (v' := .slice (some ⟨fb, 0, none⟩) (outS s (csz, secs, rest)).length (outN s (csz, secs, rest))) rfl (by rw [outS_length])
 refine s_m hf rfl ?_; clear hf a; intro a hf
 refine s_v hf (x_nilCheck (hf.eval rfl)) ?_; clear hf a; intro a hf
 refine s_v hf (x_fieldAddr fo85_0 (hf.eval rfl)) ?_; clear hf a; intro a hf
 refine s_r hf (x_load sc3 (hf.eval rfl) (by apply hs.cell <;> repeat constructor)) ?_; clear hf a; intro a hf
 refine s_do hf rfl (y_call (hf.eval rfl) (hf.evals rfl) Tryz.call7 ((dNew_in _ _ _ (outS s (csz, secs, rest)) (hs.rdB .k1 (fun h hb => by have h9 := rdB_of_bb hb (Nat.le_refl (outS s (csz, secs, rest)).length) (c := outN s (csz, secs, rest)) (by rw [outS_length]; exact Nat.le_refl _); rwa [List.take_length] at h9)) (by rw [outS_length]; omega) s.room hroom0 hroom1 (by rw [outS_length]; exact hoN)).mono ?_))
 rintro e w1 ⟨p2, rfl, hj⟩
 replace hs := hs.join hj
 simp only [List.cons_append, List.nil_append] at hs
 refine ⟨_, rfl, ?_⟩; clear hf a; intro a hf
 refine s_v hf (x_extract (hf.eval rfl) rfl) ?_; clear hf a; intro a hf
 refine s_v hf (x_extract (hf.eval rfl) rfl) ?_; clear hf a; intro a hf
 refine s_a hf rfl ?_; clear hf a; intro a hf
 refine s_a hf rfl ?_; clear hf a; intro a hf
 refine s_nil (then_n ?_)
 refine wp_ret ?_
 refine r_2 hf Tryz.results33 rfl rfl ?_
 refine ⟨p2, rfl, ?_⟩
 replace hs := St.give (L := _) (((hs.lose .k1).lose .k1).lose .k1) .k6
 exact (diskA_close (s := kilS s) (x := ⟨.slice a1 s.now.length c1, .slice a2 s.dur.length c2, mp, .slice a4 s.sizes.length c4, es, clk⟩) hm hg hs).take .k1
end Go.Proofs.YtehakfbfjpolfaaGreatDoor

namespace Go.Proofs.YtehakfbfjpolfaaGreatDoor
open Go Vw
attribute [local irreducible] Vw.sl Vw.lkV Vw.runS Vw.opsU Vw.opsR Vw.aplR Vw.aplE Vw.updR recV recS Vw.zt
end Go.Proofs.YtehakfbfjpolfaaGreatDoor
