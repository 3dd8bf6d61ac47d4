/- Texts 15 of 16 that the law rests on: the small library, contracts of functions, printed by a program. -/
import Derived.Test.YtehakfbfjpolfaaGreatDoorProg
import Derived.Test.YtehakfbfjpolfaaGreatDoorSc1
import Derived.Test.YtehakfbfjpolfaaGreatDoorSc2
import Derived.Test.YtehakfbfjpolfaaGreatDoorSc3
import Derived.Test.YtehakfbfjpolfaaGreatDoorSc4
import Derived.Test.YtehakfbfjpolfaaGreatDoorSc5
import Derived.Test.YtehakfbfjpolfaaGreatDoorSc6
import Derived.Test.YtehakfbfjpolfaaGreatDoorSc7
import Derived.Test.YtehakfbfjpolfaaGreatDoorSc8
import Derived.Test.YtehakfbfjpolfaaGreatDoorSc9
import Derived.Test.YtehakfbfjpolfaaGreatDoorSc10
import Derived.Test.YtehakfbfjpolfaaGreatDoorSc11
import Derived.Test.YtehakfbfjpolfaaGreatDoorSc12
import Derived.Test.YtehakfbfjpolfaaGreatDoorSc13
import Derived.Test.YtehakfbfjpolfaaGreatDoorSc14
set_option maxRecDepth 100000
set_option linter.all false
namespace Go.Proofs.YtehakfbfjpolfaaGreatDoor
open Go Vw
theorem inSize_spec (w : World) (n : Int) : Calls Tryz.prog 85 #[.int .i64 n] w fun e w' => e = .returned (.bool (decide (0 ≤ n ∧ n ≤ 16777216))) ∧ w' = w := by
 refine c_enter (N := 9) Tryz.func85 rfl Tryz.ntmps85 (by simp) ?_
 intro a hf
 refine wp_seq ?_
 refine wp_region_lit ?_
 refine s_a hf rfl ?_; clear hf a; intro a hf
 refine s_nil ?_
 refine then_n ?_
 refine wp_seq ?_
 refine wp_region_lit ?_
 refine s_m hf rfl ?_; clear hf a; intro a hf
 refine s_v hf (x_bin (hf.eval rfl) (hf.eval rfl) (r_ge _ _ _ _)) ?_; clear hf a; intro a hf
 refine s_m hf rfl ?_; clear hf a; intro a hf
 refine s_bool hf (k := 5) rfl (fun hg1_2 hf' => ?_) (fun hg1_2 hf' => ?_)
 ·clear hf
  have hf := hf'
  clear hf'
  simp only [zd1, zd2, zd3, zd4, zd5, zd6, zd7] at hg1_2
  refine s_do hf (wanted_of hf rfl rfl rfl) (.value (x_move (hf.eval rfl) _) ?_); clear hf a; intro a hf
  refine s_do hf (wanted_of hf rfl rfl rfl) (.value (x_bin (hf.eval rfl) (hf.eval rfl) (r_le _ _ _ _) _) ?_); clear hf a; intro a hf
  refine s_v hf (x_pick_t (hf.eval rfl) (hf.eval rfl)) ?_; clear hf a; intro a hf
  refine s_a hf rfl ?_; clear hf a; intro a hf
  refine s_nil ?_
  refine then_n ?_
  refine wp_ret ?_
  refine r_1 hf Tryz.results85 rfl ?_
  exact ⟨by congr 2; simp; omega, rfl⟩
 clear hf
 have hf := hf'
 clear hf'
 simp only [zd1, zd2, zd3, zd4, zd5, zd6, zd7] at hg1_2
 refine s_pass hf rfl rfl ?_; clear hf a; intro a hf
 refine s_pass hf rfl rfl ?_; clear hf a; intro a hf
 refine s_v hf (x_pick_f (hf.eval rfl) (hf.eval rfl)) ?_; clear hf a; intro a hf
 refine s_a hf rfl ?_; clear hf a; intro a hf
 refine s_nil ?_
 refine then_n ?_
 refine wp_ret ?_
 refine r_1 hf Tryz.results85 rfl ?_
 exact ⟨by congr 2; simp; omega, rfl⟩
theorem rright_spec (w0 : World) (size : Int) (hz : 0 ≤ size) (hz2 : size ≤ 16777216) (aw : Option Addr) (cw : Nat) (ws : List Wr) (hrw : RdS wF 2 (hp w0) (.slice aw ws.length cw) ws) (hlw : ws.length ≤ 1048576) : Calls Tryz.prog 99 #[.int .i64 size, .slice aw ws.length cw] w0 fun e w' => e = .returned (.bool (rgt size ws 0)) ∧ Kept w0 w' None_ := by
 have hs := St.start w0 None_
 refine c_enter (N := 50) Tryz.func99 rfl Tryz.ntmps99 (by simp) ?_
 intro a hf
 refine wp_seq ?_
 refine wp_region_lit ?_
 refine s_a hf rfl ?_; clear hf a; intro a hf
 refine s_nil ?_
 refine then_n ?_
 refine wp_seq ?_
 refine wp_region_lit ?_
 refine s_a hf rfl ?_; clear hf a; intro a hf
 refine s_nil ?_
 refine then_n ?_
 refine wp_seq ?_
 refine wp_seq ?_
 refine wp_region_lit ?_
 refine s_a hf rfl ?_; clear hf a; intro a hf
 refine s_nil ?_
 refine then_n ?_
 refine wp_block ?_
 refine c_loop (L0 := [(0, _), (1, _)]) (fun M w m => ∃ (i : Nat) (en : Int), M = [(5, .int .i64 en), (6, .int .i64 (i : Int))] ∧ ws.length - i = m ∧ i ≤ ws.length ∧ rgt size ws 0 = rgt size (ws.drop i) en ∧ 0 ≤ en ∧ en ≤ 16777216 ∧ St ⟨w0, None_⟩ w []) (M0 := [(5, .int .i64 0), (6, .int .i64 0)]) (⟨0, 0, rfl, rfl, Nat.zero_le _, rfl, by omega, by omega, hs⟩) (hf.sub ⟨rfl, rfl, rfl, rfl, trivial⟩) ?_
 clear hf hs a
 rintro M m a w ⟨i, en, rfl, rfl, hi, hinv, he0, he1, hs⟩ hf
 refine wp_seq ?_
 refine wp_seq ?_
 refine wp_region_lit ?_
 refine s_m hf rfl ?_; clear hf a; intro a hf
 refine s_m hf rfl ?_; clear hf a; intro a hf
 refine s_v hf (x_len Tryz.underlying23 (hf.eval rfl)) ?_; clear hf a; intro a hf
 refine s_v hf (x_bin (hf.eval rfl) (hf.eval rfl) (r_lt _ _ _ _)) ?_; clear hf a; intro a hf
 refine s_nil ?_
 refine then_n ?_
 refine c_cond hf rfl (fun hi0 => ?_) (fun hi0 => ?_)
 ·simp only [zd1, zd2, zd3, zd4, zd5, zd6, zd7] at hi0
  have hlt : i < ws.length := by omega
  obtain ⟨aw, rfl⟩ := hrw.some (by omega)
  refine wp_skip ?_
  refine then_n ?_
  refine wp_seq ?_
  refine wp_block ?_
  refine wp_seq ?_
  refine wp_region_lit ?_
  refine s_m hf rfl ?_; clear hf a; intro a hf
  refine s_m hf rfl ?_; clear hf a; intro a hf
  refine s_v hf (x_indexAddr sl23 (hf.eval rfl) (hf.eval rfl) (by omega) (by omega)) ?_; clear hf a; intro a hf
  refine s_r hf (x_loadS (f := wF) ag54 (fun _ => rfl) (hs.old hrw) (hf.eval rfl) (by simpa using hlt)) ?_; clear hf a; intro a hf
  refine s_do hf rfl (y_alloc hs Tryz.zeroValue54 ?_); clear hf hs a; intro b7 w hs a hf
  change St _ _ (cb b7 54 [.int .i64 0, .slice none 0 0] :: _) at hs
  refine s_do0 hf rfl (y_storeAgg (cs := wF ws[i]) hs (n := 2) (by kernel_rfl) (hf.eval rfl) (hf.eval rfl) (by simp [Value.oneCell', wF]) rfl rfl .k0 ?_); clear hf hs a; intro w hs a hf
  have hwl : wL ws[i] = (ws[i].2.2.2.length : Int) := rfl
  refine s_nil ?_
  refine then_n ?_
  refine wp_seq ?_
  refine wp_seq ?_
  refine wp_region_lit ?_
  refine s_v hf (x_fieldAddr fo54_1 (hf.eval rfl)) ?_; clear hf a; intro a hf
  refine s_r hf (x_load sc22 (hf.eval rfl) (by apply hs.cell <;> repeat constructor)) ?_; clear hf a; intro a hf
  refine s_v hf (x_len Tryz.underlying22 (hf.eval rfl)) ?_; clear hf a; intro a hf
  refine s_v hf (x_bin (hf.eval rfl) (hf.eval rfl) (r_eq _ _ _ _)) ?_; clear hf a; intro a hf
  refine s_m hf rfl ?_; clear hf a; intro a hf
  refine s_bool hf (k := 22) rfl (fun hg6_4 hf' => ?_) (fun hg6_4 hf' => ?_)
  ·clear hf
   have hf := hf'
   clear hf'
   simp only [zd1, zd2, zd3, zd4, zd5, zd6, zd7] at hg6_4
   refine s_pass hf rfl rfl ?_; clear hf a; intro a hf
   refine s_pass hf rfl rfl ?_; clear hf a; intro a hf
   refine s_pass hf rfl rfl ?_; clear hf a; intro a hf
   refine s_pass hf rfl rfl ?_; clear hf a; intro a hf
   refine s_v hf (x_pick_t (hf.eval rfl) (hf.eval rfl)) ?_; clear hf a; intro a hf
   refine s_m hf rfl ?_; clear hf a; intro a hf
   refine s_pass hf rfl rfl ?_; clear hf a; intro a hf
   refine s_pass hf rfl rfl ?_; clear hf a; intro a hf
   refine s_pass hf rfl rfl ?_; clear hf a; intro a hf
   refine s_pass hf rfl rfl ?_; clear hf a; intro a hf
   refine s_v hf (x_pick_t (hf.eval rfl) (hf.eval rfl)) ?_; clear hf a; intro a hf
   refine s_m hf rfl ?_; clear hf a; intro a hf
   refine s_pass hf rfl rfl ?_; clear hf a; intro a hf
   refine s_pass hf rfl rfl ?_; clear hf a; intro a hf
   refine s_pass hf rfl rfl ?_; clear hf a; intro a hf
   refine s_pass hf rfl rfl ?_; clear hf a; intro a hf
   refine s_pass hf rfl rfl ?_; clear hf a; intro a hf
   refine s_pass hf rfl rfl ?_; clear hf a; intro a hf
   refine s_pass hf rfl rfl ?_; clear hf a; intro a hf
   refine s_pass hf rfl rfl ?_; clear hf a; intro a hf
   refine s_v hf (x_pick_t (hf.eval rfl) (hf.eval rfl)) ?_; clear hf a; intro a hf
   refine s_nil ?_
   refine then_n ?_
   refine c_cond_t hf rfl rfl ?_
   refine wp_seq ?_
   refine wp_region_lit ?_
   refine s_a hf rfl ?_; clear hf a; intro a hf
   refine s_nil ?_
   refine then_n ?_
   refine wp_ret ?_
   refine then_r (blk_r (then_r (then_r (blk_r (then_r ?_)))))
   refine r_1 hf Tryz.results99 rfl ?_
   exact ⟨by rw [hinv, rgt_step size _ hlt, if_pos (by omega)], hs.kept⟩
  clear hf
  have hf := hf'
  clear hf'
  simp only [zd1, zd2, zd3, zd4, zd5, zd6, zd7] at hg6_4
  refine s_do hf (wanted_of hf rfl rfl rfl) (.value (x_fieldAddr fo54_0 (hf.eval rfl) _) ?_); clear hf a; intro a hf
  refine s_do hf (wanted_of hf rfl rfl rfl) (.value (x_load sc3 (hf.eval rfl) (by apply hs.cell <;> repeat constructor)) ?_); clear hf a; intro a hf
  refine s_do hf (wanted_of hf rfl rfl rfl) (.value (x_move (hf.eval rfl) _) ?_); clear hf a; intro a hf
  refine s_do hf (wanted_of hf rfl rfl rfl) (.value (x_bin (hf.eval rfl) (hf.eval rfl) (r_lt _ _ _ _) _) ?_); clear hf a; intro a hf
  refine s_v hf (x_pick_f (hf.eval rfl) (hf.eval rfl)) ?_; clear hf a; intro a hf
  refine s_m hf rfl ?_; clear hf a; intro a hf
  refine s_bool hf (k := 28) rfl (fun hg6_10 hf' => ?_) (fun hg6_10 hf' => ?_)
  ·clear hf
   have hf := hf'
   clear hf'
   simp only [zd1, zd2, zd3, zd4, zd5, zd6, zd7] at hg6_10
   refine s_pass hf rfl rfl ?_; clear hf a; intro a hf
   refine s_pass hf rfl rfl ?_; clear hf a; intro a hf
   refine s_pass hf rfl rfl ?_; clear hf a; intro a hf
   refine s_pass hf rfl rfl ?_; clear hf a; intro a hf
   refine s_v hf (x_pick_t (hf.eval rfl) (hf.eval rfl)) ?_; clear hf a; intro a hf
   refine s_m hf rfl ?_; clear hf a; intro a hf
   refine s_pass hf rfl rfl ?_; clear hf a; intro a hf
   refine s_pass hf rfl rfl ?_; clear hf a; intro a hf
   refine s_pass hf rfl rfl ?_; clear hf a; intro a hf
   refine s_pass hf rfl rfl ?_; clear hf a; intro a hf
   refine s_pass hf rfl rfl ?_; clear hf a; intro a hf
   refine s_pass hf rfl rfl ?_; clear hf a; intro a hf
   refine s_pass hf rfl rfl ?_; clear hf a; intro a hf
   refine s_pass hf rfl rfl ?_; clear hf a; intro a hf
   refine s_v hf (x_pick_t (hf.eval rfl) (hf.eval rfl)) ?_; clear hf a; intro a hf
   refine s_nil ?_
   refine then_n ?_
   refine c_cond_t hf rfl rfl ?_
   refine wp_seq ?_
   refine wp_region_lit ?_
   refine s_a hf rfl ?_; clear hf a; intro a hf
   refine s_nil ?_
   refine then_n ?_
   refine wp_ret ?_
   refine then_r (blk_r (then_r (then_r (blk_r (then_r ?_)))))
   refine r_1 hf Tryz.results99 rfl ?_
   exact ⟨by rw [hinv, rgt_step size _ hlt, if_pos (by omega)], hs.kept⟩
  clear hf
  have hf := hf'
  clear hf'
  simp only [zd1, zd2, zd3, zd4, zd5, zd6, zd7] at hg6_10
  refine s_do hf (wanted_of hf rfl rfl rfl) (.value (x_fieldAddr fo54_0 (hf.eval rfl) _) ?_); clear hf a; intro a hf
  refine s_do hf (wanted_of hf rfl rfl rfl) (.value (x_load sc3 (hf.eval rfl) (by apply hs.cell <;> repeat constructor)) ?_); clear hf a; intro a hf
  refine s_do hf (wanted_of hf rfl rfl rfl) (.value (x_move (hf.eval rfl) _) ?_); clear hf a; intro a hf
  refine s_do hf (wanted_of hf rfl rfl rfl) (.value (x_bin (hf.eval rfl) (hf.eval rfl) (r_gt _ _ _ _) _) ?_); clear hf a; intro a hf
  refine s_v hf (x_pick_f (hf.eval rfl) (hf.eval rfl)) ?_; clear hf a; intro a hf
  refine s_m hf rfl ?_; clear hf a; intro a hf
  refine s_bool hf (k := 34) rfl (fun hg6_16 hf' => ?_) (fun hg6_16 hf' => ?_)
  ·clear hf
   have hf := hf'
   clear hf'
   simp only [zd1, zd2, zd3, zd4, zd5, zd6, zd7] at hg6_16
   refine s_pass hf rfl rfl ?_; clear hf a; intro a hf
   refine s_pass hf rfl rfl ?_; clear hf a; intro a hf
   refine s_pass hf rfl rfl ?_; clear hf a; intro a hf
   refine s_pass hf rfl rfl ?_; clear hf a; intro a hf
   refine s_pass hf rfl rfl ?_; clear hf a; intro a hf
   refine s_pass hf rfl rfl ?_; clear hf a; intro a hf
   refine s_pass hf rfl rfl ?_; clear hf a; intro a hf
   refine s_pass hf rfl rfl ?_; clear hf a; intro a hf
   refine s_v hf (x_pick_t (hf.eval rfl) (hf.eval rfl)) ?_; clear hf a; intro a hf
   refine s_nil ?_
   refine then_n ?_
   refine c_cond_t hf rfl rfl ?_
   refine wp_seq ?_
   refine wp_region_lit ?_
   refine s_a hf rfl ?_; clear hf a; intro a hf
   refine s_nil ?_
   refine then_n ?_
   refine wp_ret ?_
   refine then_r (blk_r (then_r (then_r (blk_r (then_r ?_)))))
   refine r_1 hf Tryz.results99 rfl ?_
   exact ⟨by rw [hinv, rgt_step size _ hlt, if_pos (by omega)], hs.kept⟩
  clear hf
  have hf := hf'
  clear hf'
  simp only [zd1, zd2, zd3, zd4, zd5, zd6, zd7] at hg6_16
  refine s_do hf (wanted_of hf rfl rfl rfl) (.value (x_fieldAddr fo54_1 (hf.eval rfl) _) ?_); clear hf a; intro a hf
  refine s_do hf (wanted_of hf rfl rfl rfl) (.value (x_load sc22 (hf.eval rfl) (by apply hs.cell <;> repeat constructor)) ?_); clear hf a; intro a hf
  refine s_do hf (wanted_of hf rfl rfl rfl) (.value (x_len Tryz.underlying22 (hf.eval rfl) _) ?_); clear hf a; intro a hf
  refine s_do hf (wanted_of hf rfl rfl rfl) (.value (x_move (hf.eval rfl) _) ?_); clear hf a; intro a hf
  refine s_do hf (wanted_of hf rfl rfl rfl) (.value (x_fieldAddr fo54_0 (hf.eval rfl) _) ?_); clear hf a; intro a hf
  refine s_do hf (wanted_of hf rfl rfl rfl) (.value (x_load sc3 (hf.eval rfl) (by apply hs.cell <;> repeat constructor)) ?_); clear hf a; intro a hf
  refine s_do hf (wanted_of hf rfl rfl rfl) (.value (x_bin (hf.eval rfl) (hf.eval rfl) (r_subi _ (by omega) (by omega)) _) ?_); clear hf a; intro a hf
  refine s_do hf (wanted_of hf rfl rfl rfl) (.value (x_bin (hf.eval rfl) (hf.eval rfl) (r_gt _ _ _ _) _) ?_); clear hf a; intro a hf
  refine s_v hf (x_pick_f (hf.eval rfl) (hf.eval rfl)) ?_; clear hf a; intro a hf
  refine s_nil ?_
  refine then_n ?_
  refine c_cond hf rfl (fun hi1 => ?_) (fun hi1 => ?_)
  ·simp only [zd1, zd2, zd3, zd4, zd5, zd6, zd7] at hi1
   refine wp_seq ?_
   refine wp_region_lit ?_
   refine s_a hf rfl ?_; clear hf a; intro a hf
   refine s_nil ?_
   refine then_n ?_
   refine wp_ret ?_
   refine then_r (blk_r (then_r (then_r (blk_r (then_r ?_)))))
   refine r_1 hf Tryz.results99 rfl ?_
   exact ⟨by rw [hinv, rgt_step size _ hlt, if_pos (by omega)], hs.kept⟩
  simp only [zd1, zd2, zd3, zd4, zd5, zd6, zd7] at hi1
  refine wp_skip ?_
  refine then_n ?_
  refine wp_region_lit ?_
  refine s_v hf (x_fieldAddr fo54_0 (hf.eval rfl)) ?_; clear hf a; intro a hf
  refine s_r hf (x_load sc3 (hf.eval rfl) (by apply hs.cell <;> repeat constructor)) ?_; clear hf a; intro a hf
  refine s_v hf (x_fieldAddr fo54_1 (hf.eval rfl)) ?_; clear hf a; intro a hf
  refine s_r hf (x_load sc22 (hf.eval rfl) (by apply hs.cell <;> repeat constructor)) ?_; clear hf a; intro a hf
  refine s_v hf (x_len Tryz.underlying22 (hf.eval rfl)) ?_; clear hf a; intro a hf
  refine s_v hf (x_bin (hf.eval rfl) (hf.eval rfl) (r_addi _ (by omega) (by omega))) ?_; clear hf a; intro a hf
  refine s_a hf rfl ?_; clear hf a; intro a hf
  refine s_nil ?_
  refine blk_n ?_
  refine then_n ?_
  refine wp_region_lit ?_
  refine s_m hf rfl ?_; clear hf a; intro a hf
  refine s_v hf (x_bin (hf.eval rfl) (hf.eval rfl) (r_addi _ (by omega) (by omega))) ?_; clear hf a; intro a hf
  refine s_a hf rfl ?_; clear hf a; intro a hf
  refine s_nil ?_
  replace hinv : rgt size ws 0 = rgt size (ws.drop (i + 1)) (ws[i].1 + wL ws[i]) := by rw [hinv, rgt_step size _ hlt, if_neg (by omega)]
  exact ⟨_, _, ⟨i + 1, _, rfl, rfl, by omega, hinv, by omega, by omega, hs.drop⟩, by omega, hf.sub ⟨rfl, rfl, rfl, rfl, trivial⟩⟩
 simp only [zd1, zd2, zd3, zd4, zd5, zd6, zd7] at hi0
 refine wp_exit ?_
 refine then_x ?_
 refine then_x ?_
 refine blk_x ?_
 refine then_n ?_
 refine wp_seq ?_
 refine wp_region_lit ?_
 refine s_a hf rfl ?_; clear hf a; intro a hf
 refine s_nil ?_
 refine then_n ?_
 refine wp_ret ?_
 refine r_1 hf Tryz.results99 rfl ?_
 exact ⟨by rw [hinv, List.drop_of_length_le (by omega)]; rfl, hs.kept⟩
theorem spans_spec (w0 : World) (old : Int) (ho : 0 ≤ old) (ho2 : old ≤ 16777216) (aw : Option Addr) (cw : Nat) (ws : List Wr) (hrw : RdS wF 2 (hp w0) (.slice aw ws.length cw) ws) (hlw : ws.length ≤ 1048576) (hok : ∀ z ∈ ws, 0 ≤ z.1 ∧ z.1 + wL z ≤ 16777216) : Calls Tryz.prog 32 #[.int .i64 old, .slice aw ws.length cw] w0 fun e w' => ∃ v, e = .returned v ∧ St ⟨w0, None_⟩ w' [sl 119 2 v (savL old ws).length ((savL old ws).flatMap spF)] := by
 have hs := (St.start w0 None_).emp (A := sl 119 2 (.slice none 0 0) 0 []) (fun h => ⟨rfl, .inl ⟨rfl, rfl⟩⟩)
 refine c_enter (N := 48) Tryz.func32 rfl Tryz.ntmps32 (by simp) ?_
 intro a hf
 refine wp_seq ?_
 refine wp_region_lit ?_
 refine s_a hf rfl ?_; clear hf a; intro a hf
 refine s_nil ?_
 refine then_n ?_
 refine wp_seq ?_
 refine wp_region_lit ?_
 refine s_a hf rfl ?_; clear hf a; intro a hf
 refine s_nil ?_
 refine then_n ?_
 refine wp_seq ?_
 refine wp_seq ?_
 refine wp_region_lit ?_
 refine s_a hf rfl ?_; clear hf a; intro a hf
 refine s_nil ?_
 refine then_n ?_
 refine wp_block ?_
 refine c_loop (L0 := [(0, _), (1, _), (4, _)]) (fun M w m => ∃ (i : Nat) (v : Value), M = [(5, v), (6, .int .i64 (i : Int))] ∧ ws.length - i = m ∧ i ≤ ws.length ∧ (savL old (ws.take i)).length ≤ i ∧ St ⟨w0, None_⟩ w [sl 119 2 v (savL old (ws.take i)).length ((savL old (ws.take i)).flatMap spF)]) (M0 := [(5, .slice none 0 0), (6, .int .i64 0)]) (⟨0, _, rfl, rfl, Nat.zero_le _, Nat.le_refl _, hs⟩) (hf.sub ⟨rfl, rfl, rfl, rfl, rfl, trivial⟩) ?_
 clear hf hs a
 rintro M m a w ⟨i, v, rfl, rfl, hi, hln, hs⟩ hf
 refine wp_seq ?_
 refine wp_seq ?_
 refine wp_region_lit ?_
 refine s_m hf rfl ?_; clear hf a; intro a hf
 refine s_m hf rfl ?_; clear hf a; intro a hf
 refine s_v hf (x_len Tryz.underlying23 (hf.eval rfl)) ?_; clear hf a; intro a hf
 refine s_v hf (x_bin (hf.eval rfl) (hf.eval rfl) (r_lt _ _ _ _)) ?_; clear hf a; intro a hf
 refine s_nil ?_
 refine then_n ?_
 refine c_cond hf rfl (fun hi0 => ?_) (fun hi0 => ?_)
 ·simp only [zd1, zd2, zd3, zd4, zd5, zd6, zd7] at hi0
  have hlt : i < ws.length := by omega
  obtain ⟨aw, rfl⟩ := hrw.some (by omega)
  obtain ⟨ab, ao2, rfl⟩ := rdS_plain (sz := 2) (fun _ => rfl) (by decide) hrw (by omega)
  have hb := hok _ (List.getElem_mem hlt)
  have hwl : wL ws[i] = (ws[i].2.2.2.length : Int) := rfl
  refine wp_skip ?_
  refine then_n ?_
  refine wp_seq ?_
  refine wp_block ?_
  refine wp_seq ?_
  refine c_draw hs (fun _ => True) [.held, .held, .held, .held, .read, .held, .held, .held, .held, .read, .held, .held, .held] (by kernel_rfl) (by kernel_rfl) (fun _ _ _ => trivial) ?_
  clear hs; intro w hs hC hw
  refine m_held hf rfl (fun w' _ => x_move (hf.eval rfl) w') ?_; clear hf a; intro a hf
  refine m_held hf rfl (fun w' _ => x_move (hf.eval rfl) w') ?_; clear hf a; intro a hf
  refine m_held hf rfl (fun w' _ => x_indexAddr sl23 (hf.eval rfl) (hf.eval rfl) (by omega) (by omega) w') ?_; clear hf a; intro a hf
  replace hf := hf.now (k := 16) (v' := .pointer (some ⟨ab, ao2 + i * 2, none⟩)) rfl (by rw [addr_add]; rfl)
  refine m_held hf rfl (fun w' _ => x_fieldAddr fo54_0 (hf.eval rfl) w') ?_; clear hf a; intro a hf
  refine m_read hf rfl (x_load sc3 (hf.eval rfl) (rdS_cellAt (f := wF) (sz := 2) (fun _ => rfl) (hs.old hrw) (k := 0) hlt rfl)) ?_; clear hf a; intro a hf
  refine m_held hf rfl (fun w' _ => x_move (hf.eval rfl) w') ?_; clear hf a; intro a hf
  refine m_held hf rfl (fun w' _ => x_move (hf.eval rfl) w') ?_; clear hf a; intro a hf
  refine m_held hf rfl (fun w' _ => x_indexAddr sl23 (hf.eval rfl) (hf.eval rfl) (by omega) (by omega) w') ?_; clear hf a; intro a hf
  replace hf := hf.now (k := 21) (v' := .pointer (some ⟨ab, ao2 + i * 2, none⟩)) rfl (by rw [addr_add]; rfl)
  refine m_held hf rfl (fun w' _ => x_fieldAddr fo54_1 (hf.eval rfl) w') ?_; clear hf a; intro a hf
  refine m_read hf rfl (x_load sc22 (hf.eval rfl) (rdS_cellAt (f := wF) (sz := 2) (fun _ => rfl) (hs.old hrw) (k := 1) hlt rfl)) ?_; clear hf a; intro a hf
  refine m_held hf rfl (fun w' _ => x_len Tryz.underlying22 (hf.eval rfl) w') ?_; clear hf a; intro a hf
  refine m_held hf rfl (fun w' _ => x_bin (hf.eval rfl) (hf.eval rfl) (r_addi _ (by omega) (by omega)) w') ?_; clear hf a; intro a hf
  refine m_held hf rfl (fun w' _ => x_assign (hf.eval rfl) w') ?_; clear hf a; intro a hf
  refine m_nil ?_
  refine then_n ?_
  refine wp_seq ?_
  refine wp_seq ?_
  refine wp_region_lit ?_
  refine s_m hf rfl ?_; clear hf a; intro a hf
  refine s_m hf rfl ?_; clear hf a; intro a hf
  refine s_v hf (x_bin (hf.eval rfl) (hf.eval rfl) (r_gt _ _ _ _)) ?_; clear hf a; intro a hf
  refine s_nil ?_
  refine then_n ?_
  refine c_cond hf rfl (fun hi1 => ?_) (fun hi1 => ?_)
  ·simp only [zd1, zd2, zd3, zd4, zd5, zd6, zd7] at hi1
   refine wp_region_lit ?_
   refine s_m hf rfl ?_; clear hf a; intro a hf
   refine s_a hf rfl ?_; clear hf a; intro a hf
   refine s_nil ?_
   refine then_n ?_
   refine wp_seq ?_
   refine wp_region_lit ?_
   replace hf := hf.now (k := 7) (v' := .int .i64 (min old (ws[i].1 + wL ws[i]))) rfl (by congr 1; omega)
   refine s_m hf rfl ?_; clear hf a; intro a hf
   refine s_m hf rfl ?_; clear hf a; intro a hf
   refine s_v hf (x_indexAddr sl23 (hf.eval rfl) (hf.eval rfl) (by omega) (by omega)) ?_; clear hf a; intro a hf
   replace hf := hf.now (k := 32) (v' := .pointer (some ⟨ab, ao2 + i * 2, none⟩)) rfl (by rw [addr_add]; rfl)
   refine s_v hf (x_fieldAddr fo54_0 (hf.eval rfl)) ?_; clear hf a; intro a hf
   refine s_r hf (x_load sc3 (hf.eval rfl) (rdS_cellAt (f := wF) (sz := 2) (fun _ => rfl) (hs.old hrw) (k := 0) hlt rfl)) ?_; clear hf a; intro a hf
   refine s_m hf rfl ?_; clear hf a; intro a hf
   refine s_v hf (x_bin (hf.eval rfl) (hf.eval rfl) (r_lt _ _ _ _)) ?_; clear hf a; intro a hf
   refine s_nil ?_
   refine then_n ?_
   refine c_cond hf rfl (fun hi2 => ?_) (fun hi2 => ?_)
   ·simp only [decide_eq_true_eq, decide_eq_false_iff_not] at hi2
    refine wp_region_lit ?_
    refine s_m hf rfl ?_; clear hf a; intro a hf
    refine s_m hf rfl ?_; clear hf a; intro a hf
    refine s_m hf rfl ?_; clear hf a; intro a hf
    refine s_v hf (x_indexAddr sl23 (hf.eval rfl) (hf.eval rfl) (by omega) (by omega)) ?_; clear hf a; intro a hf
    replace hf := hf.now (k := 40) (v' := .pointer (some ⟨ab, ao2 + i * 2, none⟩)) rfl (by rw [addr_add]; rfl)
    refine s_v hf (x_fieldAddr fo54_0 (hf.eval rfl)) ?_; clear hf a; intro a hf
    refine s_r hf (x_load sc3 (hf.eval rfl) (rdS_cellAt (f := wF) (sz := 2) (fun _ => rfl) (hs.old hrw) (k := 0) hlt rfl)) ?_; clear hf a; intro a hf
    refine s_m hf rfl ?_; clear hf a; intro a hf
    refine s_r hf (x_build (v := .agg #[.int .i64 ws[i].1, .int .i64 (min old (ws[i].1 + wL ws[i]))]) (hf.parts rfl) (fun w => by kernel_rfl) _) ?_; clear hf a; intro a hf
    refine s_do hf rfl (y_lit (xs := [.tmp 44]) hs sl68 (hf.evals rfl) rfl (by simp [Value.cells]) (by decide) ?_); clear hf hs a; intro b2 w hs a hf
    refine s_do hf rfl (y_append (n := (savL old (ws.take i)).length) (m := 1) (ys := [.int .i64 ws[i].1, .int .i64 (min old (ws[i].1 + wL ws[i]))]) hs sl68 (hf.eval rfl) (hf.eval rfl) .k1 (hs.rd .k0 fun h hb => rd_rows hb rfl) (by simp [Value.oneCell']) (by omega) (by rw [maxLen_eq]; omega) ?_); clear hf hs a; intro v2 w hs hv a hf
    have hsv := savL_succ old hlt
    rw [if_pos hi2] at hsv
    have hln2 : (savL old (ws.take (i + 1))).length ≤ i + 1 := by rw [hsv]; simp; omega
    have hs2 : St ⟨w0, None_⟩ w [sl 119 2 v2 (savL old (ws.take (i + 1))).length ((savL old (ws.take (i + 1))).flatMap spF)] := by
      rw [hsv, List.length_append, List.flatMap_append]
      exact hs.lose .k1
    refine s_a hf rfl ?_; clear hf a; intro a hf
    refine s_nil ?_
    refine blk_n ?_
    refine then_n ?_
    refine wp_region_lit ?_
    refine s_m hf rfl ?_; clear hf a; intro a hf
    refine s_v hf (x_bin (hf.eval rfl) (hf.eval rfl) (r_addi _ (by omega) (by omega))) ?_; clear hf a; intro a hf
    refine s_a hf rfl ?_; clear hf a; intro a hf
    refine s_nil ?_
    exact ⟨_, _, ⟨i + 1, _, rfl, rfl, by omega, by first | exact hln2 | (rw [savL_succ old hlt, if_neg hi2]; simp; omega), by first | exact hs2 | (rw [savL_succ old hlt, if_neg hi2, List.append_nil]; exact hs)⟩, by omega, hf.sub ⟨rfl, rfl, rfl, rfl, rfl, trivial⟩⟩
   simp only [decide_eq_true_eq, decide_eq_false_iff_not] at hi2
   refine wp_skip ?_
   refine blk_n ?_
   refine then_n ?_
   refine wp_region_lit ?_
   refine s_m hf rfl ?_; clear hf a; intro a hf
   refine s_v hf (x_bin (hf.eval rfl) (hf.eval rfl) (r_addi _ (by omega) (by omega))) ?_; clear hf a; intro a hf
   refine s_a hf rfl ?_; clear hf a; intro a hf
   refine s_nil ?_
   exact ⟨_, _, ⟨i + 1, _, rfl, rfl, by omega, by first | exact hln2 | (rw [savL_succ old hlt, if_neg hi2]; simp; omega), by first | exact hs2 | (rw [savL_succ old hlt, if_neg hi2, List.append_nil]; exact hs)⟩, by omega, hf.sub ⟨rfl, rfl, rfl, rfl, rfl, trivial⟩⟩
  simp only [zd1, zd2, zd3, zd4, zd5, zd6, zd7] at hi1
  refine wp_skip ?_
  refine then_n ?_
  refine wp_seq ?_
  refine wp_region_lit ?_
  replace hf := hf.now (k := 7) (v' := .int .i64 (min old (ws[i].1 + wL ws[i]))) rfl (by congr 1; omega)
  refine s_m hf rfl ?_; clear hf a; intro a hf
  refine s_m hf rfl ?_; clear hf a; intro a hf
  refine s_v hf (x_indexAddr sl23 (hf.eval rfl) (hf.eval rfl) (by omega) (by omega)) ?_; clear hf a; intro a hf
  replace hf := hf.now (k := 32) (v' := .pointer (some ⟨ab, ao2 + i * 2, none⟩)) rfl (by rw [addr_add]; rfl)
  refine s_v hf (x_fieldAddr fo54_0 (hf.eval rfl)) ?_; clear hf a; intro a hf
  refine s_r hf (x_load sc3 (hf.eval rfl) (rdS_cellAt (f := wF) (sz := 2) (fun _ => rfl) (hs.old hrw) (k := 0) hlt rfl)) ?_; clear hf a; intro a hf
  refine s_m hf rfl ?_; clear hf a; intro a hf
  refine s_v hf (x_bin (hf.eval rfl) (hf.eval rfl) (r_lt _ _ _ _)) ?_; clear hf a; intro a hf
  refine s_nil ?_
  refine then_n ?_
  refine c_cond hf rfl (fun hi2 => ?_) (fun hi2 => ?_)
  ·simp only [decide_eq_true_eq, decide_eq_false_iff_not] at hi2
   refine wp_region_lit ?_
   refine s_m hf rfl ?_; clear hf a; intro a hf
   refine s_m hf rfl ?_; clear hf a; intro a hf
   refine s_m hf rfl ?_; clear hf a; intro a hf
   refine s_v hf (x_indexAddr sl23 (hf.eval rfl) (hf.eval rfl) (by omega) (by omega)) ?_; clear hf a; intro a hf
   replace hf := hf.now (k := 40) (v' := .pointer (some ⟨ab, ao2 + i * 2, none⟩)) rfl (by rw [addr_add]; rfl)
   refine s_v hf (x_fieldAddr fo54_0 (hf.eval rfl)) ?_; clear hf a; intro a hf
   refine s_r hf (x_load sc3 (hf.eval rfl) (rdS_cellAt (f := wF) (sz := 2) (fun _ => rfl) (hs.old hrw) (k := 0) hlt rfl)) ?_; clear hf a; intro a hf
   refine s_m hf rfl ?_; clear hf a; intro a hf
   refine s_r hf (x_build (v := .agg #[.int .i64 ws[i].1, .int .i64 (min old (ws[i].1 + wL ws[i]))]) (hf.parts rfl) (fun w => by kernel_rfl) _) ?_; clear hf a; intro a hf
   refine s_do hf rfl (y_lit (xs := [.tmp 44]) hs sl68 (hf.evals rfl) rfl (by simp [Value.cells]) (by decide) ?_); clear hf hs a; intro b2 w hs a hf
   refine s_do hf rfl (y_append (n := (savL old (ws.take i)).length) (m := 1) (ys := [.int .i64 ws[i].1, .int .i64 (min old (ws[i].1 + wL ws[i]))]) hs sl68 (hf.eval rfl) (hf.eval rfl) .k1 (hs.rd .k0 fun h hb => rd_rows hb rfl) (by simp [Value.oneCell']) (by omega) (by rw [maxLen_eq]; omega) ?_); clear hf hs a; intro v2 w hs hv a hf
   have hsv := savL_succ old hlt
   rw [if_pos hi2] at hsv
   have hln2 : (savL old (ws.take (i + 1))).length ≤ i + 1 := by rw [hsv]; simp; omega
   have hs2 : St ⟨w0, None_⟩ w [sl 119 2 v2 (savL old (ws.take (i + 1))).length ((savL old (ws.take (i + 1))).flatMap spF)] := by
     rw [hsv, List.length_append, List.flatMap_append]
     exact hs.lose .k1
   refine s_a hf rfl ?_; clear hf a; intro a hf
   refine s_nil ?_
   refine blk_n ?_
   refine then_n ?_
   refine wp_region_lit ?_
   refine s_m hf rfl ?_; clear hf a; intro a hf
   refine s_v hf (x_bin (hf.eval rfl) (hf.eval rfl) (r_addi _ (by omega) (by omega))) ?_; clear hf a; intro a hf
   refine s_a hf rfl ?_; clear hf a; intro a hf
   refine s_nil ?_
   exact ⟨_, _, ⟨i + 1, _, rfl, rfl, by omega, by first | exact hln2 | (rw [savL_succ old hlt, if_neg hi2]; simp; omega), by first | exact hs2 | (rw [savL_succ old hlt, if_neg hi2, List.append_nil]; exact hs)⟩, by omega, hf.sub ⟨rfl, rfl, rfl, rfl, rfl, trivial⟩⟩
  simp only [decide_eq_true_eq, decide_eq_false_iff_not] at hi2
  refine wp_skip ?_
  refine blk_n ?_
  refine then_n ?_
  refine wp_region_lit ?_
  refine s_m hf rfl ?_; clear hf a; intro a hf
  refine s_v hf (x_bin (hf.eval rfl) (hf.eval rfl) (r_addi _ (by omega) (by omega))) ?_; clear hf a; intro a hf
  refine s_a hf rfl ?_; clear hf a; intro a hf
  refine s_nil ?_
  exact ⟨_, _, ⟨i + 1, _, rfl, rfl, by omega, by first | exact hln2 | (rw [savL_succ old hlt, if_neg hi2]; simp; omega), by first | exact hs2 | (rw [savL_succ old hlt, if_neg hi2, List.append_nil]; exact hs)⟩, by omega, hf.sub ⟨rfl, rfl, rfl, rfl, rfl, trivial⟩⟩
 simp only [zd1, zd2, zd3, zd4, zd5, zd6, zd7] at hi0
 refine wp_exit ?_
 refine then_x ?_
 refine then_x ?_
 refine blk_x ?_
 refine then_n ?_
 refine wp_seq ?_
 refine wp_region_lit ?_
 refine s_m hf rfl ?_; clear hf a; intro a hf
 refine s_a hf rfl ?_; clear hf a; intro a hf
 refine s_nil ?_
 refine then_n ?_
 refine wp_ret ?_
 refine r_1 hf Tryz.results32 rfl ?_
 have hi9 : i = ws.length := by omega
 subst hi9
 rw [List.take_length] at hs
 exact ⟨_, rfl, hs⟩
theorem savL_len (old : Int) : ∀ l : List Wr, (savL old l).length ≤ l.length
  | [] => Nat.le_refl _
  | z :: l => by
    have := savL_len old l
    unfold savL at this ⊢
    simp only [List.flatMap_cons, List.length_append, List.length_cons]
    have h1 : (if z.1 < min old (z.1 + wL z) then [(z.1, min old (z.1 + wL z))] else []).length ≤ 1 := by split <;> simp
    omega
theorem savL_ok (old : Int) (ho2 : old ≤ 16777216) : ∀ l : List Wr, (∀ z ∈ l, 0 ≤ z.1 ∧ z.1 + wL z ≤ 16777216) → ∀ s ∈ savL old l, 0 ≤ s.1 ∧ s.1 ≤ s.2 ∧ s.2 ≤ 16777216
  | [], _, s, hs => absurd hs (by simp [savL])
  | z :: l, hok, s, hs => by
    have hz := hok z (by simp)
    unfold savL at hs
    simp only [List.flatMap_cons, List.mem_append] at hs
    rcases hs with hs | hs
    · split at hs
      · rename_i h
        simp only [List.mem_singleton] at hs
        subst hs
        simp only
        omega
      · cases hs
    · exact savL_ok old ho2 l (fun y hy => hok y (by simp [hy])) s hs
theorem rneed_b1 (w0 : World) (old size : Int) (aw : Option Addr) (cw : Nat) (ws : List Wr) (hrw : RdS wF 2 (hp w0) (.slice aw ws.length cw) ws) (hlw : ws.length ≤ 1048576) (hb : ¬ ((0 ≤ old ∧ old ≤ 16777216) ∧ (0 ≤ size ∧ size ≤ 16777216))) : Calls Tryz.prog 70 #[.int .i64 old, .int .i64 size, .slice aw ws.length cw] w0 fun e w' => e = .returned (.tuple #[.int .i64 (0), .int .i64 1]) ∧ Kept w0 w' None_ := by
 have hs := St.start w0 None_
 refine c_enter (N := 54) Tryz.func70 rfl Tryz.ntmps70 (by simp) ?_
 intro a hf
 refine wp_seq ?_
 refine wp_region_lit ?_
 refine s_a hf rfl ?_; clear hf a; intro a hf
 refine s_a hf rfl ?_; clear hf a; intro a hf
 refine s_nil ?_
 refine then_n ?_
 refine wp_seq ?_
 refine wp_seq ?_
 refine wp_region_lit ?_
 refine s_m hf rfl ?_; clear hf a; intro a hf
 refine s_do hf rfl (y_call (hf.eval rfl) (hf.evals rfl) Tryz.call85 ((inSize_spec _ _).mono ?_))
 rintro e w1 ⟨rfl, hw⟩
 replace hs : St ⟨w0, None_⟩ w1 [] := by rw [hw]; exact hs
 refine ⟨_, rfl, ?_⟩; clear hf a; intro a hf
 refine s_v hf (x_not (hf.eval rfl)) ?_; clear hf a; intro a hf
 refine s_m hf rfl ?_; clear hf a; intro a hf
 refine s_bool hf (k := 16) rfl (fun hg1_3 hf' => ?_) (fun hg1_3 hf' => ?_)
 ·clear hf
  have hf := hf'
  clear hf'
  simp only [Bool.not_eq_true', Bool.not_eq_false', decide_eq_true_eq, decide_eq_false_iff_not] at hg1_3
  refine s_pass hf rfl rfl ?_; clear hf a; intro a hf
  refine s_pass hf rfl rfl ?_; clear hf a; intro a hf
  refine s_pass hf rfl rfl ?_; clear hf a; intro a hf
  refine s_v hf (x_pick_t (hf.eval rfl) (hf.eval rfl)) ?_; clear hf a; intro a hf
  refine s_nil ?_
  refine then_n ?_
  refine c_cond_t hf rfl (by first | rfl | (simp; omega)) ?_
  refine wp_seq ?_
  refine wp_region_lit ?_
  refine s_a hf rfl ?_; clear hf a; intro a hf
  refine s_a hf rfl ?_; clear hf a; intro a hf
  refine s_nil ?_
  refine then_n ?_
  refine wp_ret ?_
  refine then_r ?_
  refine r_2 hf Tryz.results70 rfl rfl ?_
  exact ⟨rfl, hs.kept⟩
 clear hf
 have hf := hf'
 clear hf'
 simp only [Bool.not_eq_true', Bool.not_eq_false', decide_eq_true_eq, decide_eq_false_iff_not] at hg1_3
 refine s_do hf (wanted_of hf rfl rfl rfl) (.value (x_move (hf.eval rfl) _) ?_); clear hf a; intro a hf
 refine s_do hf (wanted_of hf rfl rfl rfl) (y_call (hf.eval rfl) (hf.evals rfl) Tryz.call85 ((inSize_spec _ _).mono ?_))
 rintro e w1 ⟨rfl, hw⟩
 replace hs : St ⟨w0, None_⟩ w1 [] := by rw [hw]; exact hs
 refine ⟨_, rfl, ?_⟩; clear hf a; intro a hf
 refine s_do hf (wanted_of hf rfl rfl rfl) (.value (x_not (hf.eval rfl) _) ?_); clear hf a; intro a hf
 refine s_v hf (x_pick_f (hf.eval rfl) (hf.eval rfl)) ?_; clear hf a; intro a hf
 refine s_nil ?_
 refine then_n ?_
 refine c_cond_t hf rfl (by first | rfl | (simp; omega)) ?_
 refine wp_seq ?_
 refine wp_region_lit ?_
 refine s_a hf rfl ?_; clear hf a; intro a hf
 refine s_a hf rfl ?_; clear hf a; intro a hf
 refine s_nil ?_
 refine then_n ?_
 refine wp_ret ?_
 refine then_r ?_
 refine r_2 hf Tryz.results70 rfl rfl ?_
 exact ⟨rfl, hs.kept⟩
theorem rneed_b2 (w0 : World) (old size : Int) (aw : Option Addr) (cw : Nat) (ws : List Wr) (hrw : RdS wF 2 (hp w0) (.slice aw ws.length cw) ws) (hlw : ws.length ≤ 1048576) (h1 : 0 ≤ old ∧ old ≤ 16777216) (h2 : 0 ≤ size ∧ size ≤ 16777216) (hr : rgt size ws 0 = false) : Calls Tryz.prog 70 #[.int .i64 old, .int .i64 size, .slice aw ws.length cw] w0 fun e w' => e = .returned (.tuple #[.int .i64 (0), .int .i64 143]) ∧ Kept w0 w' None_ := by
 have hs := St.start w0 None_
 refine c_enter (N := 54) Tryz.func70 rfl Tryz.ntmps70 (by simp) ?_
 intro a hf
 refine wp_seq ?_
 refine wp_region_lit ?_
 refine s_a hf rfl ?_; clear hf a; intro a hf
 refine s_a hf rfl ?_; clear hf a; intro a hf
 refine s_nil ?_
 refine then_n ?_
 refine wp_seq ?_
 refine wp_seq ?_
 refine wp_region_lit ?_
 refine s_m hf rfl ?_; clear hf a; intro a hf
 refine s_do hf rfl (y_call (hf.eval rfl) (hf.evals rfl) Tryz.call85 ((inSize_spec _ _).mono ?_))
 rintro e w1 ⟨rfl, hw⟩
 replace hs : St ⟨w0, None_⟩ w1 [] := by rw [hw]; exact hs
 refine ⟨_, rfl, ?_⟩; clear hf a; intro a hf
 refine s_v hf (x_not (hf.eval rfl)) ?_; clear hf a; intro a hf
 refine s_m hf rfl ?_; clear hf a; intro a hf
 replace hf := hf.now (k := 16) (v' := .bool false) rfl (congrArg Value.bool (by simp; omega))
 refine s_do hf (wanted_of hf rfl rfl rfl) (.value (x_move (hf.eval rfl) _) ?_); clear hf a; intro a hf
 refine s_do hf (wanted_of hf rfl rfl rfl) (y_call (hf.eval rfl) (hf.evals rfl) Tryz.call85 ((inSize_spec _ _).mono ?_))
 rintro e w1 ⟨rfl, hw⟩
 replace hs : St ⟨w0, None_⟩ w1 [] := by rw [hw]; exact hs
 refine ⟨_, rfl, ?_⟩; clear hf a; intro a hf
 refine s_do hf (wanted_of hf rfl rfl rfl) (.value (x_not (hf.eval rfl) _) ?_); clear hf a; intro a hf
 refine s_v hf (x_pick_f (hf.eval rfl) (hf.eval rfl)) ?_; clear hf a; intro a hf
 refine s_nil ?_
 refine then_n ?_
 refine c_cond_f hf rfl (by simp; omega) ?_
 refine wp_skip ?_
 refine then_n ?_
 refine wp_seq ?_
 refine wp_region_lit ?_
 refine s_m hf rfl ?_; clear hf a; intro a hf
 refine s_m hf rfl ?_; clear hf a; intro a hf
 refine s_do hf rfl (y_call (hf.eval rfl) (hf.evals rfl) Tryz.call99 ((rright_spec _ size h2.1 h2.2 _ _ ws (hs.old hrw) hlw).mono ?_))
 rintro e w1 ⟨rfl, hk⟩
 replace hs := hs.ext hk
 refine ⟨_, rfl, ?_⟩; clear hf a; intro a hf
 refine s_a hf rfl ?_; clear hf a; intro a hf
 refine s_nil ?_
 refine then_n ?_
 refine wp_seq ?_
 refine wp_seq ?_
 refine wp_region_lit ?_
 refine s_m hf rfl ?_; clear hf a; intro a hf
 refine s_v hf (x_not (hf.eval rfl)) ?_; clear hf a; intro a hf
 refine s_nil ?_
 refine then_n ?_
 refine c_cond_t hf rfl (by rw [hr]; rfl) ?_
 refine wp_seq ?_
 refine wp_region_lit ?_
 refine s_a hf rfl ?_; clear hf a; intro a hf
 refine s_a hf rfl ?_; clear hf a; intro a hf
 refine s_nil ?_
 refine then_n ?_
 refine wp_ret ?_
 refine then_r ?_
 refine r_2 hf Tryz.results70 rfl rfl ?_
 exact ⟨rfl, hs.kept⟩
theorem rneed_ok (w0 : World) (old size : Int) (aw : Option Addr) (cw : Nat) (ws : List Wr) (hrw : RdS wF 2 (hp w0) (.slice aw ws.length cw) ws) (hlw : ws.length ≤ 1048576) (h1 : 0 ≤ old ∧ old ≤ 16777216) (h2 : 0 ≤ size ∧ size ≤ 16777216) (hr : rgt size ws 0 = true) : Calls Tryz.prog 70 #[.int .i64 old, .int .i64 size, .slice aw ws.length cw] w0 fun e w' => e = .returned (.tuple #[.int .i64 (filZ old size (lonZ (savL old ws))), .int .i64 0]) ∧ Kept w0 w' None_ := by
 have hs := St.start w0 None_
 have hok : ∀ z ∈ ws, 0 ≤ z.1 ∧ z.1 + wL z ≤ 16777216 := fun z hz => by have := rgt_all size ws 0 (by omega) hr z hz; omega
 refine c_enter (N := 54) Tryz.func70 rfl Tryz.ntmps70 (by simp) ?_
 intro a hf
 refine wp_seq ?_
 refine wp_region_lit ?_
 refine s_a hf rfl ?_; clear hf a; intro a hf
 refine s_a hf rfl ?_; clear hf a; intro a hf
 refine s_nil ?_
 refine then_n ?_
 refine wp_seq ?_
 refine wp_seq ?_
 refine wp_region_lit ?_
 refine s_m hf rfl ?_; clear hf a; intro a hf
 refine s_do hf rfl (y_call (hf.eval rfl) (hf.evals rfl) Tryz.call85 ((inSize_spec _ _).mono ?_))
 rintro e w1 ⟨rfl, hw⟩
 replace hs : St ⟨w0, None_⟩ w1 [] := by rw [hw]; exact hs
 refine ⟨_, rfl, ?_⟩; clear hf a; intro a hf
 refine s_v hf (x_not (hf.eval rfl)) ?_; clear hf a; intro a hf
 refine s_m hf rfl ?_; clear hf a; intro a hf
 replace hf := hf.now (k := 16) (v' := .bool false) rfl (congrArg Value.bool (by simp; omega))
 refine s_do hf (wanted_of hf rfl rfl rfl) (.value (x_move (hf.eval rfl) _) ?_); clear hf a; intro a hf
 refine s_do hf (wanted_of hf rfl rfl rfl) (y_call (hf.eval rfl) (hf.evals rfl) Tryz.call85 ((inSize_spec _ _).mono ?_))
 rintro e w1 ⟨rfl, hw⟩
 replace hs : St ⟨w0, None_⟩ w1 [] := by rw [hw]; exact hs
 refine ⟨_, rfl, ?_⟩; clear hf a; intro a hf
 refine s_do hf (wanted_of hf rfl rfl rfl) (.value (x_not (hf.eval rfl) _) ?_); clear hf a; intro a hf
 refine s_v hf (x_pick_f (hf.eval rfl) (hf.eval rfl)) ?_; clear hf a; intro a hf
 refine s_nil ?_
 refine then_n ?_
 refine c_cond_f hf rfl (by simp; omega) ?_
 refine wp_skip ?_
 refine then_n ?_
 refine wp_seq ?_
 refine wp_region_lit ?_
 refine s_m hf rfl ?_; clear hf a; intro a hf
 refine s_m hf rfl ?_; clear hf a; intro a hf
 refine s_do hf rfl (y_call (hf.eval rfl) (hf.evals rfl) Tryz.call99 ((rright_spec _ size h2.1 h2.2 _ _ ws (hs.old hrw) hlw).mono ?_))
 rintro e w1 ⟨rfl, hk⟩
 replace hs := hs.ext hk
 refine ⟨_, rfl, ?_⟩; clear hf a; intro a hf
 refine s_a hf rfl ?_; clear hf a; intro a hf
 refine s_nil ?_
 refine then_n ?_
 refine wp_seq ?_
 refine wp_seq ?_
 refine wp_region_lit ?_
 refine s_m hf rfl ?_; clear hf a; intro a hf
 refine s_v hf (x_not (hf.eval rfl)) ?_; clear hf a; intro a hf
 refine s_nil ?_
 refine then_n ?_
 refine c_cond_f hf rfl (by rw [hr]; rfl) ?_
 refine wp_skip ?_
 refine then_n ?_
 refine wp_seq ?_
 refine wp_region_lit ?_
 refine s_a hf rfl ?_; clear hf a; intro a hf
 refine s_nil ?_
 refine then_n ?_
 refine wp_seq ?_
 refine wp_region_lit ?_
 refine s_m hf rfl ?_; clear hf a; intro a hf
 refine s_m hf rfl ?_; clear hf a; intro a hf
 refine s_do hf rfl (y_call (hf.eval rfl) (hf.evals rfl) Tryz.call32 ((spans_spec _ old h1.1 h1.2 _ _ ws (hs.old hrw) hlw hok).mono ?_))
 rintro e w1 ⟨v4, rfl, hj⟩
 replace hs := hs.join hj
 simp only [List.cons_append, List.nil_append] at hs
 obtain ⟨a4, c4, rfl⟩ := sl_shape hs
 have hsl4 := savL_len old ws
 refine ⟨_, rfl, ?_⟩; clear hf a; intro a hf
 refine s_a hf rfl ?_; clear hf a; intro a hf
 refine s_nil ?_
 refine then_n ?_
 refine wp_seq ?_
 refine wp_seq ?_
 refine wp_region_lit ?_
 refine s_a hf rfl ?_; clear hf a; intro a hf
 refine s_nil ?_
 refine then_n ?_
 refine wp_block ?_
 refine c_loop (L0 := [(0, _), (1, _), (6, _), (7, _), (10, _)]) (fun M w m => ∃ i : Nat, M = [(9, .int .i64 (lonZ ((savL old ws).take i))), (11, .int .i64 (i : Int))] ∧ (savL old ws).length - i = m ∧ i ≤ (savL old ws).length ∧ 0 ≤ lonZ ((savL old ws).take i) ∧ lonZ ((savL old ws).take i) ≤ 16777224 * i ∧ St ⟨w0, None_⟩ w [sl 119 2 (.slice a4 (savL old ws).length c4) (savL old ws).length ((savL old ws).flatMap spF)]) (M0 := [(9, .int .i64 0), (11, .int .i64 0)]) (⟨0, rfl, rfl, Nat.zero_le _, by simp [lonZ], by simp [lonZ], hs⟩) (hf.sub ⟨rfl, rfl, rfl, rfl, rfl, rfl, rfl, trivial⟩) ?_
 clear hf hs a
 rintro M m a w ⟨i, rfl, rfl, hi, hn0, hn1, hs⟩ hf
 refine wp_seq ?_
 refine wp_seq ?_
 refine wp_region_lit ?_
 refine s_m hf rfl ?_; clear hf a; intro a hf
 refine s_m hf rfl ?_; clear hf a; intro a hf
 refine s_v hf (x_len Tryz.underlying68 (hf.eval rfl)) ?_; clear hf a; intro a hf
 refine s_v hf (x_bin (hf.eval rfl) (hf.eval rfl) (r_lt _ _ _ _)) ?_; clear hf a; intro a hf
 refine s_nil ?_
 refine then_n ?_
 refine c_cond hf rfl (fun hi2 => ?_) (fun hi2 => ?_)
 ·simp only [zd1, zd2, zd3, zd4, zd5, zd6, zd7] at hi2
  have hlt : i < (savL old ws).length := by omega
  have hrd : RdS spF 2 (hp w) (.slice a4 (savL old ws).length c4) (savL old ws) := hs.rd .k0 fun h hh => sl_rd hh
  obtain ⟨a4, rfl⟩ := hrd.some (by omega)
  obtain ⟨ab, ao2, rfl⟩ := rdS_plain (sz := 2) (fun _ => rfl) (by decide) hrd (by omega)
  clear hrd
  have hb := savL_ok old h1.2 ws hok _ (List.getElem_mem hlt)
  refine wp_skip ?_
  refine then_n ?_
  refine wp_seq ?_
  refine wp_block ?_
  refine c_draw hs (fun _ => True) [.held, .held, .held, .held, .held, .held, .read, .held, .held, .held, .held, .held, .read, .held, .held] (by kernel_rfl) (by kernel_rfl) (fun _ _ _ => trivial) ?_
  clear hs; intro w hs hC hw
  have hrd : RdS spF 2 (hp w) (.slice (some ⟨ab, ao2, none⟩) (savL old ws).length c4) (savL old ws) := hs.rd .k0 fun h hh => sl_rd hh
  refine m_held hf rfl (fun w' _ => x_move (hf.eval rfl) w') ?_; clear hf a; intro a hf
  refine m_held hf rfl (fun w' _ => x_bin (hf.eval rfl) (hf.eval rfl) (r_addi _ (by omega) (by omega)) w') ?_; clear hf a; intro a hf
  refine m_held hf rfl (fun w' _ => x_move (hf.eval rfl) w') ?_; clear hf a; intro a hf
  refine m_held hf rfl (fun w' _ => x_move (hf.eval rfl) w') ?_; clear hf a; intro a hf
  refine m_held hf rfl (fun w' _ => x_indexAddr sl68 (hf.eval rfl) (hf.eval rfl) (by omega) (by omega) w') ?_; clear hf a; intro a hf
  replace hf := hf.now (k := 39) (v' := .pointer (some ⟨ab, ao2 + i * 2, none⟩)) rfl (by rw [addr_add]; rfl)
  refine m_held hf rfl (fun w' _ => x_fieldAddr fo119_1 (hf.eval rfl) w') ?_; clear hf a; intro a hf
  refine m_read hf rfl (x_load sc3 (hf.eval rfl) (rdS_cellAt (f := spF) (sz := 2) (fun _ => rfl) hrd (k := 1) hlt rfl)) ?_; clear hf a; intro a hf
  refine m_held hf rfl (fun w' _ => x_bin (hf.eval rfl) (hf.eval rfl) (r_addi _ (by omega) (by omega)) w') ?_; clear hf a; intro a hf
  refine m_held hf rfl (fun w' _ => x_move (hf.eval rfl) w') ?_; clear hf a; intro a hf
  refine m_held hf rfl (fun w' _ => x_move (hf.eval rfl) w') ?_; clear hf a; intro a hf
  refine m_held hf rfl (fun w' _ => x_indexAddr sl68 (hf.eval rfl) (hf.eval rfl) (by omega) (by omega) w') ?_; clear hf a; intro a hf
  replace hf := hf.now (k := 45) (v' := .pointer (some ⟨ab, ao2 + i * 2, none⟩)) rfl (by rw [addr_add]; rfl)
  refine m_held hf rfl (fun w' _ => x_fieldAddr fo119_0 (hf.eval rfl) w') ?_; clear hf a; intro a hf
  refine m_read hf rfl (x_load sc3 (hf.eval rfl) (rdS_cellAt (f := spF) (sz := 2) (fun _ => rfl) hrd (k := 0) hlt rfl)) ?_; clear hf a; intro a hf
  refine m_held hf rfl (fun w' _ => x_bin (hf.eval rfl) (hf.eval rfl) (r_subi _ (by omega) (by omega)) w') ?_; clear hf a; intro a hf
  refine m_held hf rfl (fun w' _ => x_assign (hf.eval rfl) w') ?_; clear hf a; intro a hf
  refine m_nil ?_
  refine blk_n ?_
  refine then_n ?_
  refine wp_region_lit ?_
  refine s_m hf rfl ?_; clear hf a; intro a hf
  refine s_v hf (x_bin (hf.eval rfl) (hf.eval rfl) (r_addi _ (by omega) (by omega))) ?_; clear hf a; intro a hf
  refine s_a hf rfl ?_; clear hf a; intro a hf
  refine s_nil ?_
  have hlz := lonZ_succ hlt
  replace hf := hf.now (k := 9) (v' := .int .i64 (lonZ ((savL old ws).take (i + 1)))) rfl (by rw [hlz]; congr 1; omega)
  exact ⟨_, _, ⟨i + 1, rfl, rfl, by omega, by omega, by omega, hs⟩, by omega, hf.sub ⟨rfl, rfl, rfl, rfl, rfl, rfl, rfl, trivial⟩⟩
 simp only [zd1, zd2, zd3, zd4, zd5, zd6, zd7] at hi2
 refine wp_exit ?_
 refine then_x ?_
 refine then_x ?_
 refine blk_x ?_
 refine then_n ?_
 refine wp_seq ?_
 refine wp_region_lit ?_
 refine s_m hf rfl ?_; clear hf a; intro a hf
 refine s_m hf rfl ?_; clear hf a; intro a hf
 refine s_m hf rfl ?_; clear hf a; intro a hf
 have hi9 : i = (savL old ws).length := by omega
 subst hi9
 rw [List.take_length] at hf hn0 hn1
 refine s_do hf rfl (y_call (hf.eval rfl) (hf.evals rfl) Tryz.call51 ((file_spec _ old size _ h1.1 h1.2 h2.1 h2.2 hn0 (by omega)).mono ?_))
 rintro e w1 ⟨rfl, hk⟩
 replace hs := hs.ext hk
 refine ⟨_, rfl, ?_⟩; clear hf a; intro a hf
 refine s_a hf rfl ?_; clear hf a; intro a hf
 refine s_nil ?_
 refine then_n ?_
 refine wp_seq ?_
 refine wp_region_lit ?_
 refine s_m hf rfl ?_; clear hf a; intro a hf
 refine s_a hf rfl ?_; clear hf a; intro a hf
 refine s_a hf rfl ?_; clear hf a; intro a hf
 refine s_nil ?_
 refine then_n ?_
 refine wp_ret ?_
 refine r_2 hf Tryz.results70 rfl rfl ?_
 exact ⟨rfl, hs.kept⟩
theorem rapply_spec (w0 : World) (a1 : Option Addr) (c1 : Nat) (content : List UInt8) (hr1 : RdB (hp w0) (.slice a1 content.length c1) content) (hl1 : content.length ≤ 140737488351232) (size : Int) (aw : Option Addr) (cw : Nat) (ws : List Wr) (hrw : RdS wF 2 (hp w0) (.slice aw ws.length cw) ws) (hlw : ws.length ≤ 1048576) (hgd : ∀ z ∈ ws, RdB (hp w0) (.slice z.2.1 z.2.2.2.length z.2.2.1) z.2.2.2 ∧ z.2.2.2.length ≤ 1048576) (V : List UInt8) (hV : V = aplR content size ws) (E : Int) (hE : E = aplE content.length size ws) : Calls Tryz.prog 69 #[.slice a1 content.length c1, .int .i64 size, .slice aw ws.length cw] w0 fun e w' => ∃ a c, e = .returned (.tuple #[.slice a V.length c, .int .i64 E]) ∧ St ⟨w0, None_⟩ w' [slB 5 (.slice a V.length c) V] := by
 have hs := St.start w0 None_
 refine c_enter (N := 80) Tryz.func69 rfl Tryz.ntmps69 (by simp) ?_
 intro a hf
 refine wp_seq ?_
 refine wp_region_lit ?_
 refine s_a hf rfl ?_; clear hf a; intro a hf
 refine s_a hf rfl ?_; clear hf a; intro a hf
 refine s_nil ?_
 refine then_n ?_
 refine wp_seq ?_
 refine wp_seq ?_
 refine wp_region_lit ?_
 refine s_m hf rfl ?_; clear hf a; intro a hf
 refine s_v hf (x_len Tryz.underlying22 (hf.eval rfl)) ?_; clear hf a; intro a hf
 refine s_v hf (x_bin (hf.eval rfl) (hf.eval rfl) (r_gt _ _ _ _)) ?_; clear hf a; intro a hf
 refine s_m hf rfl ?_; clear hf a; intro a hf
 refine s_bool hf (k := 16) rfl (fun hg1_3 hf' => ?_) (fun hg1_3 hf' => ?_)
 ·clear hf
  have hf := hf'
  clear hf'
  simp only [zd1, zd2, zd3, zd4] at hg1_3
  refine s_pass hf rfl rfl ?_; clear hf a; intro a hf
  refine s_pass hf rfl rfl ?_; clear hf a; intro a hf
  refine s_pass hf rfl rfl ?_; clear hf a; intro a hf
  refine s_v hf (x_pick_t (hf.eval rfl) (hf.eval rfl)) ?_; clear hf a; intro a hf
  refine s_nil ?_
  refine then_n ?_
  refine c_cond_t hf rfl rfl ?_
  refine wp_seq ?_
  refine wp_region_lit ?_
  refine s_a hf rfl ?_; clear hf a; intro a hf
  refine s_a hf rfl ?_; clear hf a; intro a hf
  refine s_nil ?_
  refine then_n ?_
  refine wp_ret ?_
  refine then_r ?_
  refine r_2 hf Tryz.results69 rfl rfl ?_
  have hE0 : E = 1 := by rw [hE]; unfold aplE; rw [if_pos (by omega)]
  have hV0 : V = [] := by rw [hV]; unfold aplR; rw [if_neg (by rw [← hE, hE0]; decide)]
  rw [hE0, hV0]
  exact ⟨none, 0, rfl, hs.emp (slB_nil _)⟩
 clear hf
 have hf := hf'
 clear hf'
 simp only [zd1, zd2, zd3, zd4] at hg1_3
 refine s_do hf (wanted_of hf rfl rfl rfl) (.value (x_move (hf.eval rfl) _) ?_); clear hf a; intro a hf
 refine s_do hf (wanted_of hf rfl rfl rfl) (y_call (hf.eval rfl) (hf.evals rfl) Tryz.call85 ((inSize_spec _ _).mono ?_))
 rintro e w1 ⟨rfl, hw9⟩
 rw [hw9]
 clear hw9 w1
 refine ⟨_, rfl, ?_⟩; clear hf a; intro a hf
 refine s_do hf (wanted_of hf rfl rfl rfl) (.value (x_not (hf.eval rfl) _) ?_); clear hf a; intro a hf
 refine s_v hf (x_pick_f (hf.eval rfl) (hf.eval rfl)) ?_; clear hf a; intro a hf
 refine s_nil ?_
 refine then_n ?_
 refine c_cond hf rfl (fun hi0 => ?_) (fun hi0 => ?_)
 ·first | simp only [zd1, zd2, zd3, zd4] at hi0 | skip
  refine wp_seq ?_
  refine wp_region_lit ?_
  refine s_a hf rfl ?_; clear hf a; intro a hf
  refine s_a hf rfl ?_; clear hf a; intro a hf
  refine s_nil ?_
  refine then_n ?_
  refine wp_ret ?_
  refine then_r ?_
  refine r_2 hf Tryz.results69 rfl rfl ?_
  have hE0 : E = 1 := by rw [hE]; unfold aplE; rw [if_pos (by omega)]
  have hV0 : V = [] := by rw [hV]; unfold aplR; rw [if_neg (by rw [← hE, hE0]; decide)]
  rw [hE0, hV0]
  exact ⟨none, 0, rfl, hs.emp (slB_nil _)⟩
 first | simp only [zd1, zd2, zd3, zd4] at hi0 | skip
 have hsz : 0 ≤ size ∧ size ≤ 16777216 := hi0
 refine wp_skip ?_
 refine then_n ?_
 refine wp_seq ?_
 refine wp_region_lit ?_
 refine s_m hf rfl ?_; clear hf a; intro a hf
 refine s_m hf rfl ?_; clear hf a; intro a hf
 refine s_do hf rfl (y_call (hf.eval rfl) (hf.evals rfl) Tryz.call99 ((rright_spec _ size hsz.1 hsz.2 _ _ ws (hs.old hrw) hlw).mono ?_))
 rintro e w1 ⟨rfl, hk⟩
 replace hs := hs.ext hk
 refine ⟨_, rfl, ?_⟩; clear hf a; intro a hf
 refine s_a hf rfl ?_; clear hf a; intro a hf
 refine s_nil ?_
 refine then_n ?_
 refine wp_seq ?_
 refine wp_seq ?_
 refine wp_region_lit ?_
 refine s_m hf rfl ?_; clear hf a; intro a hf
 refine s_v hf (x_not (hf.eval rfl)) ?_; clear hf a; intro a hf
 refine s_nil ?_
 refine then_n ?_
 refine c_cond hf rfl (fun hi1 => ?_) (fun hi1 => ?_)
 ·simp only [Bool.not_eq_true', Bool.not_eq_false'] at hi1
  refine wp_seq ?_
  refine wp_region_lit ?_
  refine s_a hf rfl ?_; clear hf a; intro a hf
  refine s_a hf rfl ?_; clear hf a; intro a hf
  refine s_nil ?_
  refine then_n ?_
  refine wp_ret ?_
  refine then_r ?_
  refine r_2 hf Tryz.results69 rfl rfl ?_
  have hE0 : E = 143 := by rw [hE]; unfold aplE; rw [if_neg (by omega), if_pos (by assumption)]
  have hV0 : V = [] := by rw [hV]; unfold aplR; rw [if_neg (by rw [← hE, hE0]; decide)]
  rw [hE0, hV0]
  exact ⟨none, 0, rfl, hs.emp (slB_nil _)⟩
 simp only [Bool.not_eq_true', Bool.not_eq_false'] at hi1
 have hrt : rgt size ws 0 = true := hi1
 obtain ⟨n, rfl⟩ := Int.eq_ofNat_of_zero_le (show 0 ≤ size by omega)
 have hok : ∀ z ∈ ws, 0 ≤ z.1 ∧ z.1 + wL z ≤ (n : Int) ∧ 0 < wL z := fun z hz => by have h8 := rgt_all (n : Int) ws 0 (by omega) hrt z hz; exact ⟨h8.1, h8.2, rgt_pos (n : Int) ws 0 hrt z hz⟩
 refine wp_skip ?_
 refine then_n ?_
 refine wp_seq ?_
 refine wp_region_lit ?_
 refine s_m hf rfl ?_; clear hf a; intro a hf
 refine s_do hf rfl (y_makeB (m := n) (c := n) hs sl22 (hf.eval rfl) (hf.eval rfl) rfl rfl (by omega) (by omega) ?_); clear hf hs a; intro b w hs a hf
 refine s_a hf rfl ?_; clear hf a; intro a hf
 refine s_nil ?_
 refine then_n ?_
 refine wp_seq ?_
 refine wp_seq ?_
 refine wp_region_lit ?_
 refine s_a hf rfl ?_; clear hf a; intro a hf
 refine s_nil ?_
 refine then_n ?_
 refine wp_block ?_
 refine c_loop (L0 := [(0, _), (1, _), (2, _), (6, _), (7, _), (9, _)]) (fun M w m => ∃ i : Nat, M = [(10, .int .i64 (i : Int))] ∧ n - i = m ∧ i ≤ n ∧ i ≤ content.length ∧ St ⟨w0, None_⟩ w [bb b 5 (content.take i ++ List.replicate (n - i) 0)]) (M0 := _) (⟨0, rfl, rfl, Nat.zero_le _, Nat.zero_le _, by simpa using hs⟩) (hf.sub ⟨rfl, rfl, rfl, rfl, rfl, rfl, rfl, trivial⟩) ?_
 clear hf hs a
 rintro M m a w ⟨i, rfl, rfl, hi, hi9, hs⟩ hf
 refine wp_seq ?_
 refine wp_seq ?_
 refine wp_region_lit ?_
 refine s_m hf rfl ?_; clear hf a; intro a hf
 refine s_m hf rfl ?_; clear hf a; intro a hf
 refine s_v hf (x_bin (hf.eval rfl) (hf.eval rfl) (r_lt _ _ _ _)) ?_; clear hf a; intro a hf
 refine s_m hf rfl ?_; clear hf a; intro a hf
 refine s_bool hf (k := 31) rfl (fun hg8_3 hf' => ?_) (fun hg8_3 hf' => ?_)
 ·clear hf
  have hf := hf'
  clear hf'
  simp only [zd1, zd2, zd3, zd4] at hg8_3
  refine s_do hf (wanted_of hf rfl rfl rfl) (.value (x_move (hf.eval rfl) _) ?_); clear hf a; intro a hf
  refine s_do hf (wanted_of hf rfl rfl rfl) (.value (x_move (hf.eval rfl) _) ?_); clear hf a; intro a hf
  refine s_do hf (wanted_of hf rfl rfl rfl) (.value (x_len Tryz.underlying22 (hf.eval rfl) _) ?_); clear hf a; intro a hf
  refine s_do hf (wanted_of hf rfl rfl rfl) (.value (x_bin (hf.eval rfl) (hf.eval rfl) (r_lt _ _ _ _) _) ?_); clear hf a; intro a hf
  refine s_v hf (x_pick_t (hf.eval rfl) (hf.eval rfl)) ?_; clear hf a; intro a hf
  refine s_nil ?_
  refine then_n ?_
  refine c_cond hf rfl (fun hi2 => ?_) (fun hi2 => ?_)
  ·first | simp only [decide_eq_true_eq, decide_eq_false_iff_not] at hi2 | skip
   have hlt : i < content.length := by omega
   obtain ⟨a1, rfl⟩ := hr1.some (by omega)
   refine wp_skip ?_
   refine then_n ?_
   refine wp_seq ?_
   refine wp_block ?_
   refine wp_region_lit ?_
   refine s_m hf rfl ?_; clear hf a; intro a hf
   refine s_m hf rfl ?_; clear hf a; intro a hf
   refine s_m hf rfl ?_; clear hf a; intro a hf
   refine s_m hf rfl ?_; clear hf a; intro a hf
   refine s_v hf (x_indexAddr sl22 (hf.eval rfl) (hf.eval rfl) (by omega) (by omega)) ?_; clear hf a; intro a hf
   refine s_r hf (x_loadB (i := (i : Int)) sc5 (hs.oldB hr1) (hf.eval rfl) (by simpa using hlt)) ?_; clear hf a; intro a hf
   replace hf := hf.now (k := 44) (v' := u8v content[i]) rfl (rfl)
   refine s_v hf (x_indexAddr sl22 (hf.eval rfl) (hf.eval rfl) (by omega) (by omega)) ?_; clear hf a; intro a hf
   replace hf := hf.now (k := 45) (v' := .pointer (some ⟨b, i, none⟩)) rfl (by rw [at_addN])
   refine s_do0 hf rfl (y_storeB (k := i) (u := content[i]) hs sc5 (hf.eval rfl) (hf.eval rfl) rfl .k0 (by simp; omega) ?_); clear hf hs a; intro w hs a hf
   rw [base_step (by omega) hlt] at hs
   refine s_nil ?_
   refine blk_n ?_
   refine then_n ?_
   refine wp_region_lit ?_
   refine s_m hf rfl ?_; clear hf a; intro a hf
   refine s_v hf (x_bin (hf.eval rfl) (hf.eval rfl) (r_addi _ (by omega) (by omega))) ?_; clear hf a; intro a hf
   refine s_a hf rfl ?_; clear hf a; intro a hf
   refine s_nil ?_
   exact ⟨_, _, ⟨i + 1, rfl, rfl, by omega, by omega, hs⟩, by omega, hf.sub ⟨rfl, rfl, rfl, rfl, rfl, rfl, rfl, trivial⟩⟩
  first | simp only [decide_eq_true_eq, decide_eq_false_iff_not] at hi2 | skip
  first | rw [base_end (n := n) (content := content) (i := i) (by omega) (by omega) (by omega)] at hs | skip
  refine wp_exit ?_
  refine then_x ?_
  refine then_x ?_
  refine blk_x ?_
  refine then_n ?_
  refine wp_seq ?_
  refine wp_seq ?_
  refine wp_region_lit ?_
  refine s_a hf rfl ?_; clear hf a; intro a hf
  refine s_nil ?_
  refine then_n ?_
  refine wp_block ?_
  refine c_loop (L0 := [(0, _), (1, _), (2, _), (6, _), (7, _), (9, _), (10, _), (28, _), (29, _), (30, _), (31, _), (32, _), (33, _), (34, _), (35, _), (36, _)]) (fun M w m => ∃ i : Nat, M = [(11, .int .i64 (i : Int))] ∧ ws.length - i = m ∧ i ≤ ws.length ∧ St ⟨w0, None_⟩ w [bb b 5 (appW (baseW content n) (ws.take i))]) (M0 := [(11, .int .i64 0)]) (⟨0, rfl, rfl, Nat.zero_le _, hs⟩) (hf.sub ⟨rfl, rfl, rfl, rfl, rfl, rfl, rfl, rfl, rfl, rfl, rfl, rfl, rfl, rfl, rfl, rfl, rfl, trivial⟩) ?_
  clear hf hs a
  rintro M m a w ⟨i, rfl, rfl, hi, hs⟩ hf
  refine wp_seq ?_
  refine wp_seq ?_
  refine wp_region_lit ?_
  refine s_m hf rfl ?_; clear hf a; intro a hf
  refine s_m hf rfl ?_; clear hf a; intro a hf
  refine s_v hf (x_len Tryz.underlying23 (hf.eval rfl)) ?_; clear hf a; intro a hf
  refine s_v hf (x_bin (hf.eval rfl) (hf.eval rfl) (r_lt _ _ _ _)) ?_; clear hf a; intro a hf
  refine s_nil ?_
  refine then_n ?_
  refine c_cond hf rfl (fun hi3 => ?_) (fun hi3 => ?_)
  ·simp only [zd1, zd2, zd3, zd4, zd5, zd6, zd7] at hi3
   have hlt : i < ws.length := by omega
   obtain ⟨aw, rfl⟩ := hrw.some (by omega)
   obtain ⟨ab, ao2, rfl⟩ := rdS_plain (sz := 2) (fun _ => rfl) (by decide) hrw (by omega)
   have hgi := hgd _ (List.getElem_mem hlt)
   obtain ⟨hzi1, hzi2, hzi3⟩ := hok _ (List.getElem_mem hlt)
   have hwl0 : wL ws[i] = (ws[i].2.2.2.length : Int) := rfl
   have hal : (appW (baseW content n) (ws.take i)).length = n := by rw [appW_len, baseW_len]
   refine wp_skip ?_
   refine then_n ?_
   refine wp_seq ?_
   refine wp_block ?_
   refine wp_seq ?_
   refine wp_region_lit ?_
   refine s_a hf rfl ?_; clear hf a; intro a hf
   refine s_nil ?_
   refine then_n ?_
   refine wp_block ?_
   refine c_loop (L0 := [(0, _), (1, _), (2, _), (6, _), (7, _), (9, _), (10, _), (11, _), (28, _), (29, _), (30, _), (31, _), (32, _), (33, _), (34, _), (35, _), (36, _), (46, _), (47, _), (48, _), (49, _)]) (fun M w m => ∃ k : Nat, M = [(12, .int .i64 (k : Int))] ∧ ws[i].2.2.2.length - k = m ∧ k ≤ ws[i].2.2.2.length ∧ St ⟨w0, None_⟩ w [bb b 5 (putP (appW (baseW content n) (ws.take i)) (ws[i].1.toNat, ws[i].2.2.2.take k))]) (M0 := [(12, .int .i64 0)]) (⟨0, rfl, rfl, Nat.zero_le _, by rw [putP_zero]; exact hs⟩) (hf.sub ⟨rfl, rfl, rfl, rfl, rfl, rfl, rfl, rfl, rfl, rfl, rfl, rfl, rfl, rfl, rfl, rfl, rfl, rfl, rfl, rfl, rfl, rfl, trivial⟩) ?_
   clear hf hs a
   rintro M m a w ⟨k, rfl, rfl, hk, hs⟩ hf
   refine wp_seq ?_
   refine wp_seq ?_
   refine wp_region_lit ?_
   refine s_m hf rfl ?_; clear hf a; intro a hf
   refine s_m hf rfl ?_; clear hf a; intro a hf
   refine s_m hf rfl ?_; clear hf a; intro a hf
   refine s_v hf (x_indexAddr sl23 (hf.eval rfl) (hf.eval rfl) (by omega) (by omega)) ?_; clear hf a; intro a hf
   replace hf := hf.now (k := 55) (v' := .pointer (some ⟨ab, ao2 + i * 2, none⟩)) rfl (by rw [addr_add]; rfl)
   refine s_v hf (x_fieldAddr fo54_1 (hf.eval rfl)) ?_; clear hf a; intro a hf
   refine s_r hf (x_load sc22 (hf.eval rfl) (rdS_cellAt (f := wF) (sz := 2) (fun _ => rfl) (hs.old hrw) (k := 1) hlt rfl)) ?_; clear hf a; intro a hf
   refine s_v hf (x_len Tryz.underlying22 (hf.eval rfl)) ?_; clear hf a; intro a hf
   refine s_v hf (x_bin (hf.eval rfl) (hf.eval rfl) (r_lt _ _ _ _)) ?_; clear hf a; intro a hf
   refine s_nil ?_
   refine then_n ?_
   refine c_cond hf rfl (fun hi4 => ?_) (fun hi4 => ?_)
   ·simp only [zd1, zd2, zd3, zd4, zd5, zd6, zd7] at hi4
    have hkl : k < ws[i].2.2.2.length := by omega
    obtain ⟨da, hda⟩ : ∃ x, ws[i].2.1 = some x := by
      rcases hgi.1.2 with ⟨c9, e9, hn9⟩ | ⟨x9, c9, e9, _⟩
      · omega
      · injection e9 with e9; exact ⟨x9, e9⟩
    have hgk : RdB (hp w0) (.slice (some da) ws[i].2.2.2.length ws[i].2.2.1) ws[i].2.2.2 := by rw [← hda]; exact hgi.1
    refine wp_skip ?_
    refine then_n ?_
    refine wp_seq ?_
    refine wp_block ?_
    refine c_draw hs (fun _ => True) [.held, .held, .held, .held, .held, .read, .held, .held, .held, .held, .held, .held, .read, .held, .held, .read, .held, .fin] (by kernel_rfl) (by kernel_rfl) (fun _ _ _ => trivial) ?_
    clear hs; intro w hs hC hw
    refine m_held hf rfl (fun w' _ => x_move (hf.eval rfl) w') ?_; clear hf a; intro a hf
    refine m_held hf rfl (fun w' _ => x_move (hf.eval rfl) w') ?_; clear hf a; intro a hf
    refine m_held hf rfl (fun w' _ => x_move (hf.eval rfl) w') ?_; clear hf a; intro a hf
    refine m_held hf rfl (fun w' _ => x_indexAddr sl23 (hf.eval rfl) (hf.eval rfl) (by omega) (by omega) w') ?_; clear hf a; intro a hf
    replace hf := hf.now (k := 65) (v' := .pointer (some ⟨ab, ao2 + i * 2, none⟩)) rfl (by rw [addr_add]; rfl)
    refine m_held hf rfl (fun w' _ => x_fieldAddr fo54_0 (hf.eval rfl) w') ?_; clear hf a; intro a hf
    refine m_read hf rfl (x_load sc3 (hf.eval rfl) (rdS_cellAt (f := wF) (sz := 2) (fun _ => rfl) (hs.old hrw) (k := 0) hlt rfl)) ?_; clear hf a; intro a hf
    refine m_held hf rfl (fun w' _ => x_move (hf.eval rfl) w') ?_; clear hf a; intro a hf
    refine m_held hf rfl (fun w' _ => x_bin (hf.eval rfl) (hf.eval rfl) (r_addi _ (by omega) (by omega)) w') ?_; clear hf a; intro a hf
    replace hf := hf.now (k := 69) (v' := .int .i64 ((ws[i].1.toNat + k : Nat) : Int)) rfl (by congr 1; omega)
    refine m_held hf rfl (fun w' _ => x_move (hf.eval rfl) w') ?_; clear hf a; intro a hf
    refine m_held hf rfl (fun w' _ => x_move (hf.eval rfl) w') ?_; clear hf a; intro a hf
    refine m_held hf rfl (fun w' _ => x_indexAddr sl23 (hf.eval rfl) (hf.eval rfl) (by omega) (by omega) w') ?_; clear hf a; intro a hf
    replace hf := hf.now (k := 72) (v' := .pointer (some ⟨ab, ao2 + i * 2, none⟩)) rfl (by rw [addr_add]; rfl)
    refine m_held hf rfl (fun w' _ => x_fieldAddr fo54_1 (hf.eval rfl) w') ?_; clear hf a; intro a hf
    refine m_read hf rfl (x_load sc22 (hf.eval rfl) (rdS_cellAt (f := wF) (sz := 2) (fun _ => rfl) (hs.old hrw) (k := 1) hlt rfl)) ?_; clear hf a; intro a hf
    replace hf := hf.now (k := 74) (v' := .slice (some da) ws[i].2.2.2.length ws[i].2.2.1) rfl (by rw [← hda])
    refine m_held hf rfl (fun w' _ => x_move (hf.eval rfl) w') ?_; clear hf a; intro a hf
    refine m_held hf rfl (fun w' _ => x_indexAddr sl22 (hf.eval rfl) (hf.eval rfl) (by omega) (by omega) w') ?_; clear hf a; intro a hf
    refine m_read hf rfl (x_loadB (i := (k : Int)) sc5 (hs.oldB hgk) (hf.eval rfl) (by simpa using hkl)) ?_; clear hf a; intro a hf
    replace hf := hf.now (k := 77) (v' := u8v ws[i].2.2.2[k]) rfl (rfl)
    refine m_held hf rfl (fun w' _ => x_indexAddr sl22 (hf.eval rfl) (hf.eval rfl) (by omega) (by omega) w') ?_; clear hf a; intro a hf
    replace hf := hf.now (k := 78) (v' := .pointer (some ⟨b, ws[i].1.toNat + k, none⟩)) rfl (by rw [at_addN])
    refine m_fin0 hf rfl (y_storeB (k := ws[i].1.toNat + k) (u := ws[i].2.2.2[k]) hs sc5 (hf.eval rfl) (hf.eval rfl) rfl .k0 (by rw [putP_len, hal]; omega) ?_); clear hf hs a; intro w hs; intro a hf
    rw [putP_step (by rw [hal]; omega) hkl] at hs
    refine blk_n ?_
    refine then_n ?_
    refine wp_region_lit ?_
    refine s_m hf rfl ?_; clear hf a; intro a hf
    refine s_v hf (x_bin (hf.eval rfl) (hf.eval rfl) (r_addi _ (by omega) (by omega))) ?_; clear hf a; intro a hf
    refine s_a hf rfl ?_; clear hf a; intro a hf
    refine s_nil ?_
    exact ⟨_, _, ⟨k + 1, rfl, rfl, by omega, hs⟩, by omega, hf.sub ⟨rfl, rfl, rfl, rfl, rfl, rfl, rfl, rfl, rfl, rfl, rfl, rfl, rfl, rfl, rfl, rfl, rfl, rfl, rfl, rfl, rfl, rfl, trivial⟩⟩
   simp only [zd1, zd2, zd3, zd4, zd5, zd6, zd7] at hi4
   rw [show List.take k ws[i].2.2.2 = ws[i].2.2.2 from List.take_of_length_le (by omega), ← appW_succ hlt] at hs
   refine wp_exit ?_
   refine then_x ?_
   refine then_x ?_
   refine blk_x ?_
   refine blk_n ?_
   refine then_n ?_
   refine wp_region_lit ?_
   refine s_m hf rfl ?_; clear hf a; intro a hf
   refine s_v hf (x_bin (hf.eval rfl) (hf.eval rfl) (r_addi _ (by omega) (by omega))) ?_; clear hf a; intro a hf
   refine s_a hf rfl ?_; clear hf a; intro a hf
   refine s_nil ?_
   exact ⟨_, _, ⟨i + 1, rfl, rfl, by omega, hs⟩, by omega, hf.sub ⟨rfl, rfl, rfl, rfl, rfl, rfl, rfl, rfl, rfl, rfl, rfl, rfl, rfl, rfl, rfl, rfl, rfl, trivial⟩⟩
  simp only [zd1, zd2, zd3, zd4, zd5, zd6, zd7] at hi3
  refine wp_exit ?_
  refine then_x ?_
  refine then_x ?_
  refine blk_x ?_
  refine then_n ?_
  refine wp_seq ?_
  refine wp_region_lit ?_
  refine s_m hf rfl ?_; clear hf a; intro a hf
  refine s_a hf rfl ?_; clear hf a; intro a hf
  refine s_a hf rfl ?_; clear hf a; intro a hf
  refine s_nil ?_
  refine then_n ?_
  refine wp_ret ?_
  refine r_2 hf Tryz.results69 rfl rfl ?_
  obtain rfl : i = ws.length := by omega
  rw [List.take_length] at hs
  have hE0 : E = 0 := by rw [hE]; unfold aplE; rw [if_neg (by omega), if_neg (by rw [hrt]; simp)]
  have hV0 : V = appW (baseW content n) ws := by rw [hV]; unfold aplR; rw [if_pos (by rw [← hE, hE0]), Int.toNat_natCast]
  have hVl : V.length = n := by rw [hV0, appW_len, baseW_len]
  rw [hE0, hVl]
  rw [← hV0] at hs
  exact ⟨_, _, rfl, St.ofBb hs hVl (by omega)⟩
 clear hf
 have hf := hf'
 clear hf'
 simp only [zd1, zd2, zd3, zd4] at hg8_3
 rw [base_end (n := n) (content := content) (i := i) (by omega) (by omega) (by omega)] at hs
 refine s_pass hf rfl rfl ?_; clear hf a; intro a hf
 refine s_pass hf rfl rfl ?_; clear hf a; intro a hf
 refine s_pass hf rfl rfl ?_; clear hf a; intro a hf
 refine s_pass hf rfl rfl ?_; clear hf a; intro a hf
 refine s_v hf (x_pick_f (hf.eval rfl) (hf.eval rfl)) ?_; clear hf a; intro a hf
 refine s_nil ?_
 refine then_n ?_
 refine c_cond_f hf rfl rfl ?_
 first | rw [base_end (n := n) (content := content) (i := i) (by omega) (by omega) (by omega)] at hs | skip
 refine wp_exit ?_
 refine then_x ?_
 refine then_x ?_
 refine blk_x ?_
 refine then_n ?_
 refine wp_seq ?_
 refine wp_seq ?_
 refine wp_region_lit ?_
 refine s_a hf rfl ?_; clear hf a; intro a hf
 refine s_nil ?_
 refine then_n ?_
 refine wp_block ?_
 refine c_loop (L0 := [(0, _), (1, _), (2, _), (6, _), (7, _), (9, _), (10, _), (28, _), (29, _), (30, _), (31, _), (32, _), (33, _), (34, _), (35, _), (36, _)]) (fun M w m => ∃ i : Nat, M = [(11, .int .i64 (i : Int))] ∧ ws.length - i = m ∧ i ≤ ws.length ∧ St ⟨w0, None_⟩ w [bb b 5 (appW (baseW content n) (ws.take i))]) (M0 := [(11, .int .i64 0)]) (⟨0, rfl, rfl, Nat.zero_le _, hs⟩) (hf.sub ⟨rfl, rfl, rfl, rfl, rfl, rfl, rfl, rfl, rfl, rfl, rfl, rfl, rfl, rfl, rfl, rfl, rfl, trivial⟩) ?_
 clear hf hs a
 rintro M m a w ⟨i, rfl, rfl, hi, hs⟩ hf
 refine wp_seq ?_
 refine wp_seq ?_
 refine wp_region_lit ?_
 refine s_m hf rfl ?_; clear hf a; intro a hf
 refine s_m hf rfl ?_; clear hf a; intro a hf
 refine s_v hf (x_len Tryz.underlying23 (hf.eval rfl)) ?_; clear hf a; intro a hf
 refine s_v hf (x_bin (hf.eval rfl) (hf.eval rfl) (r_lt _ _ _ _)) ?_; clear hf a; intro a hf
 refine s_nil ?_
 refine then_n ?_
 refine c_cond hf rfl (fun hi3 => ?_) (fun hi3 => ?_)
 ·simp only [zd1, zd2, zd3, zd4, zd5, zd6, zd7] at hi3
  have hlt : i < ws.length := by omega
  obtain ⟨aw, rfl⟩ := hrw.some (by omega)
  obtain ⟨ab, ao2, rfl⟩ := rdS_plain (sz := 2) (fun _ => rfl) (by decide) hrw (by omega)
  have hgi := hgd _ (List.getElem_mem hlt)
  obtain ⟨hzi1, hzi2, hzi3⟩ := hok _ (List.getElem_mem hlt)
  have hwl0 : wL ws[i] = (ws[i].2.2.2.length : Int) := rfl
  have hal : (appW (baseW content n) (ws.take i)).length = n := by rw [appW_len, baseW_len]
  refine wp_skip ?_
  refine then_n ?_
  refine wp_seq ?_
  refine wp_block ?_
  refine wp_seq ?_
  refine wp_region_lit ?_
  refine s_a hf rfl ?_; clear hf a; intro a hf
  refine s_nil ?_
  refine then_n ?_
  refine wp_block ?_
  refine c_loop (L0 := [(0, _), (1, _), (2, _), (6, _), (7, _), (9, _), (10, _), (11, _), (28, _), (29, _), (30, _), (31, _), (32, _), (33, _), (34, _), (35, _), (36, _), (46, _), (47, _), (48, _), (49, _)]) (fun M w m => ∃ k : Nat, M = [(12, .int .i64 (k : Int))] ∧ ws[i].2.2.2.length - k = m ∧ k ≤ ws[i].2.2.2.length ∧ St ⟨w0, None_⟩ w [bb b 5 (putP (appW (baseW content n) (ws.take i)) (ws[i].1.toNat, ws[i].2.2.2.take k))]) (M0 := [(12, .int .i64 0)]) (⟨0, rfl, rfl, Nat.zero_le _, by rw [putP_zero]; exact hs⟩) (hf.sub ⟨rfl, rfl, rfl, rfl, rfl, rfl, rfl, rfl, rfl, rfl, rfl, rfl, rfl, rfl, rfl, rfl, rfl, rfl, rfl, rfl, rfl, rfl, trivial⟩) ?_
  clear hf hs a
  rintro M m a w ⟨k, rfl, rfl, hk, hs⟩ hf
  refine wp_seq ?_
  refine wp_seq ?_
  refine wp_region_lit ?_
  refine s_m hf rfl ?_; clear hf a; intro a hf
  refine s_m hf rfl ?_; clear hf a; intro a hf
  refine s_m hf rfl ?_; clear hf a; intro a hf
  refine s_v hf (x_indexAddr sl23 (hf.eval rfl) (hf.eval rfl) (by omega) (by omega)) ?_; clear hf a; intro a hf
  replace hf := hf.now (k := 55) (v' := .pointer (some ⟨ab, ao2 + i * 2, none⟩)) rfl (by rw [addr_add]; rfl)
  refine s_v hf (x_fieldAddr fo54_1 (hf.eval rfl)) ?_; clear hf a; intro a hf
  refine s_r hf (x_load sc22 (hf.eval rfl) (rdS_cellAt (f := wF) (sz := 2) (fun _ => rfl) (hs.old hrw) (k := 1) hlt rfl)) ?_; clear hf a; intro a hf
  refine s_v hf (x_len Tryz.underlying22 (hf.eval rfl)) ?_; clear hf a; intro a hf
  refine s_v hf (x_bin (hf.eval rfl) (hf.eval rfl) (r_lt _ _ _ _)) ?_; clear hf a; intro a hf
  refine s_nil ?_
  refine then_n ?_
  refine c_cond hf rfl (fun hi4 => ?_) (fun hi4 => ?_)
  ·simp only [zd1, zd2, zd3, zd4, zd5, zd6, zd7] at hi4
   have hkl : k < ws[i].2.2.2.length := by omega
   obtain ⟨da, hda⟩ : ∃ x, ws[i].2.1 = some x := by
     rcases hgi.1.2 with ⟨c9, e9, hn9⟩ | ⟨x9, c9, e9, _⟩
     · omega
     · injection e9 with e9; exact ⟨x9, e9⟩
   have hgk : RdB (hp w0) (.slice (some da) ws[i].2.2.2.length ws[i].2.2.1) ws[i].2.2.2 := by rw [← hda]; exact hgi.1
   refine wp_skip ?_
   refine then_n ?_
   refine wp_seq ?_
   refine wp_block ?_
   refine c_draw hs (fun _ => True) [.held, .held, .held, .held, .held, .read, .held, .held, .held, .held, .held, .held, .read, .held, .held, .read, .held, .fin] (by kernel_rfl) (by kernel_rfl) (fun _ _ _ => trivial) ?_
   clear hs; intro w hs hC hw
   refine m_held hf rfl (fun w' _ => x_move (hf.eval rfl) w') ?_; clear hf a; intro a hf
   refine m_held hf rfl (fun w' _ => x_move (hf.eval rfl) w') ?_; clear hf a; intro a hf
   refine m_held hf rfl (fun w' _ => x_move (hf.eval rfl) w') ?_; clear hf a; intro a hf
   refine m_held hf rfl (fun w' _ => x_indexAddr sl23 (hf.eval rfl) (hf.eval rfl) (by omega) (by omega) w') ?_; clear hf a; intro a hf
   replace hf := hf.now (k := 65) (v' := .pointer (some ⟨ab, ao2 + i * 2, none⟩)) rfl (by rw [addr_add]; rfl)
   refine m_held hf rfl (fun w' _ => x_fieldAddr fo54_0 (hf.eval rfl) w') ?_; clear hf a; intro a hf
   refine m_read hf rfl (x_load sc3 (hf.eval rfl) (rdS_cellAt (f := wF) (sz := 2) (fun _ => rfl) (hs.old hrw) (k := 0) hlt rfl)) ?_; clear hf a; intro a hf
   refine m_held hf rfl (fun w' _ => x_move (hf.eval rfl) w') ?_; clear hf a; intro a hf
   refine m_held hf rfl (fun w' _ => x_bin (hf.eval rfl) (hf.eval rfl) (r_addi _ (by omega) (by omega)) w') ?_; clear hf a; intro a hf
   replace hf := hf.now (k := 69) (v' := .int .i64 ((ws[i].1.toNat + k : Nat) : Int)) rfl (by congr 1; omega)
   refine m_held hf rfl (fun w' _ => x_move (hf.eval rfl) w') ?_; clear hf a; intro a hf
   refine m_held hf rfl (fun w' _ => x_move (hf.eval rfl) w') ?_; clear hf a; intro a hf
   refine m_held hf rfl (fun w' _ => x_indexAddr sl23 (hf.eval rfl) (hf.eval rfl) (by omega) (by omega) w') ?_; clear hf a; intro a hf
   replace hf := hf.now (k := 72) (v' := .pointer (some ⟨ab, ao2 + i * 2, none⟩)) rfl (by rw [addr_add]; rfl)
   refine m_held hf rfl (fun w' _ => x_fieldAddr fo54_1 (hf.eval rfl) w') ?_; clear hf a; intro a hf
   refine m_read hf rfl (x_load sc22 (hf.eval rfl) (rdS_cellAt (f := wF) (sz := 2) (fun _ => rfl) (hs.old hrw) (k := 1) hlt rfl)) ?_; clear hf a; intro a hf
   replace hf := hf.now (k := 74) (v' := .slice (some da) ws[i].2.2.2.length ws[i].2.2.1) rfl (by rw [← hda])
   refine m_held hf rfl (fun w' _ => x_move (hf.eval rfl) w') ?_; clear hf a; intro a hf
   refine m_held hf rfl (fun w' _ => x_indexAddr sl22 (hf.eval rfl) (hf.eval rfl) (by omega) (by omega) w') ?_; clear hf a; intro a hf
   refine m_read hf rfl (x_loadB (i := (k : Int)) sc5 (hs.oldB hgk) (hf.eval rfl) (by simpa using hkl)) ?_; clear hf a; intro a hf
   replace hf := hf.now (k := 77) (v' := u8v ws[i].2.2.2[k]) rfl (rfl)
   refine m_held hf rfl (fun w' _ => x_indexAddr sl22 (hf.eval rfl) (hf.eval rfl) (by omega) (by omega) w') ?_; clear hf a; intro a hf
   replace hf := hf.now (k := 78) (v' := .pointer (some ⟨b, ws[i].1.toNat + k, none⟩)) rfl (by rw [at_addN])
   refine m_fin0 hf rfl (y_storeB (k := ws[i].1.toNat + k) (u := ws[i].2.2.2[k]) hs sc5 (hf.eval rfl) (hf.eval rfl) rfl .k0 (by rw [putP_len, hal]; omega) ?_); clear hf hs a; intro w hs; intro a hf
   rw [putP_step (by rw [hal]; omega) hkl] at hs
   refine blk_n ?_
   refine then_n ?_
   refine wp_region_lit ?_
   refine s_m hf rfl ?_; clear hf a; intro a hf
   refine s_v hf (x_bin (hf.eval rfl) (hf.eval rfl) (r_addi _ (by omega) (by omega))) ?_; clear hf a; intro a hf
   refine s_a hf rfl ?_; clear hf a; intro a hf
   refine s_nil ?_
   exact ⟨_, _, ⟨k + 1, rfl, rfl, by omega, hs⟩, by omega, hf.sub ⟨rfl, rfl, rfl, rfl, rfl, rfl, rfl, rfl, rfl, rfl, rfl, rfl, rfl, rfl, rfl, rfl, rfl, rfl, rfl, rfl, rfl, rfl, trivial⟩⟩
  simp only [zd1, zd2, zd3, zd4, zd5, zd6, zd7] at hi4
  rw [show List.take k ws[i].2.2.2 = ws[i].2.2.2 from List.take_of_length_le (by omega), ← appW_succ hlt] at hs
  refine wp_exit ?_
  refine then_x ?_
  refine then_x ?_
  refine blk_x ?_
  refine blk_n ?_
  refine then_n ?_
  refine wp_region_lit ?_
  refine s_m hf rfl ?_; clear hf a; intro a hf
  refine s_v hf (x_bin (hf.eval rfl) (hf.eval rfl) (r_addi _ (by omega) (by omega))) ?_; clear hf a; intro a hf
  refine s_a hf rfl ?_; clear hf a; intro a hf
  refine s_nil ?_
  exact ⟨_, _, ⟨i + 1, rfl, rfl, by omega, hs⟩, by omega, hf.sub ⟨rfl, rfl, rfl, rfl, rfl, rfl, rfl, rfl, rfl, rfl, rfl, rfl, rfl, rfl, rfl, rfl, rfl, trivial⟩⟩
 simp only [zd1, zd2, zd3, zd4, zd5, zd6, zd7] at hi3
 refine wp_exit ?_
 refine then_x ?_
 refine then_x ?_
 refine blk_x ?_
 refine then_n ?_
 refine wp_seq ?_
 refine wp_region_lit ?_
 refine s_m hf rfl ?_; clear hf a; intro a hf
 refine s_a hf rfl ?_; clear hf a; intro a hf
 refine s_a hf rfl ?_; clear hf a; intro a hf
 refine s_nil ?_
 refine then_n ?_
 refine wp_ret ?_
 refine r_2 hf Tryz.results69 rfl rfl ?_
 obtain rfl : i = ws.length := by omega
 rw [List.take_length] at hs
 have hE0 : E = 0 := by rw [hE]; unfold aplE; rw [if_neg (by omega), if_neg (by rw [hrt]; simp)]
 have hV0 : V = appW (baseW content n) ws := by rw [hV]; unfold aplR; rw [if_pos (by rw [← hE, hE0]), Int.toNat_natCast]
 have hVl : V.length = n := by rw [hV0, appW_len, baseW_len]
 rw [hE0, hVl]
 rw [← hV0] at hs
 exact ⟨_, _, rfl, St.ofBb hs hVl (by omega)⟩
theorem rneed_all (w0 : World) (cl : Nat) (size : Int) (aw : Option Addr) (cw : Nat) (ws : List Wr) (hrw : RdS wF 2 (hp w0) (.slice aw ws.length cw) ws) (hlw : ws.length ≤ 1048576) : Calls Tryz.prog 70 #[.int .i64 (cl : Int), .int .i64 size, .slice aw ws.length cw] w0 fun e w' => e = .returned (.tuple #[.int .i64 (if aplE cl size ws = 0 then filZ (cl : Int) size (lonZ (savL (cl : Int) ws)) else 0), .int .i64 (aplE cl size ws)]) ∧ Kept w0 w' None_ := by
  by_cases hb : ((cl : Int) ≤ 16777216 ∧ 0 ≤ size ∧ size ≤ 16777216)
  · cases hr : rgt size ws 0 with
    | false =>
      have e : aplE cl size ws = 143 := by unfold aplE; rw [if_neg (fun h => h hb), if_pos hr]
      rw [e, if_neg (by decide)]
      exact rneed_b2 w0 cl size aw cw ws hrw hlw ⟨by omega, hb.1⟩ hb.2 hr
    | true =>
      have e : aplE cl size ws = 0 := by unfold aplE; rw [if_neg (fun h => h hb), if_neg (by rw [hr]; simp)]
      rw [e, if_pos rfl]
      exact rneed_ok w0 cl size aw cw ws hrw hlw ⟨by omega, hb.1⟩ hb.2 hr
  · have e : aplE cl size ws = 1 := by unfold aplE; rw [if_pos hb]
    rw [e, if_neg (by decide)]
    exact rneed_b1 w0 cl size aw cw ws hrw hlw (by omega)
theorem fil_fil {c : List UInt8} {size : Int} {ws : List Wr} (h : rgt size ws 0 = true) : filZ (c.length : Int) size (lonZ (savL (c.length : Int) ws)) = filU c size ws := by
  have hs := sav_spc (old := (c.length : Int)) h
  have e1 := lonZ_eq hs
  have e2 := body_len hs
  unfold filU bodU
  rw [e1, e2]
def toP (z : Wr) : Pt := (z.1.toNat, .slice z.2.1 z.2.2.2.length z.2.2.1, z.2.2.2)
def dkY (z : Wr) : Int × List UInt8 := (z.1, z.2.2.2)
theorem dkY_key : ∀ {l m : List Wr}, l.map dkY = m.map dkY → l.length = m.length ∧ (∀ size e, rgt size l e = rgt size m e) ∧ (∀ old, savL old l = savL old m) ∧ ∀ x, appW x l = appW x m
  | [], [], _ => ⟨rfl, fun _ _ => rfl, fun _ => rfl, fun _ => rfl⟩
  | [], _ :: _, h => by simp at h
  | _ :: _, [], h => by simp at h
  | x :: l, y :: m, h => by
    simp only [List.map_cons, List.cons.injEq, dkY, Prod.mk.injEq] at h
    obtain ⟨⟨h1, h2⟩, h3⟩ := h
    obtain ⟨k1, k2, k3, k4⟩ := dkY_key h3
    have hw : wL x = wL y := by unfold wL; rw [h2]
    refine ⟨by simp [k1], fun size e => ?_, fun old => ?_, fun z => ?_⟩
    · unfold rgt; rw [h1, hw, k2]
    · have e1 : ∀ (z : Wr) (r : List Wr), savL old (z :: r) = (if z.1 < min old (z.1 + wL z) then [(z.1, min old (z.1 + wL z))] else []) ++ savL old r := fun _ _ => rfl
      rw [e1, e1, h1, hw, k3]
    · show appW (putP z (x.1.toNat, x.2.2.2)) l = appW (putP z (y.1.toNat, y.2.2.2)) m
      rw [h1, h2, k4]
theorem dkY_wrs : ∀ {l m : List Wr}, l.map dkY = m.map dkY → wrsU l = wrsU m := fun {l m} h => by
  have e : ∀ l : List Wr, wrsU l = (l.map dkY).map fun p => ((2 : Int), p.1, p.2) := fun l => by unfold wrsU; rw [List.map_map]; rfl
  rw [e, e, h]
theorem dkY_U {l m : List Wr} (h : l.map dkY = m.map dkY) (s : DS) (seq size : Int) : refE s seq size l = refE s seq size m ∧ opsU s.now seq size l = opsU s.now seq size m ∧ opsA s.now seq size l = opsA s.now seq size m ∧ aplR s.now size l = aplR s.now size m ∧ updR s seq size l = updR s seq size m := by
  obtain ⟨k1, k2, k3, k4⟩ := dkY_key h
  have e1 : ∀ cl, aplE cl size l = aplE cl size m := fun cl => by unfold aplE; rw [k2]
  have e2 : ∀ c, aplR c size l = aplR c size m := fun c => by unfold aplR; rw [e1, k4]
  have e3 : ∀ c, bodU c l = bodU c m := fun c => by unfold bodU; rw [k3]
  have e4 : ∀ c, filU c size l = filU c size m := fun c => by unfold filU; rw [e3]
  have e5 : ∀ c, seaU c size l = seaU c size m := fun c => by unfold seaU; rw [e4]
  have e6 : ∀ c st, slU st seq c size l = slU st seq c size m := fun c st => by unfold slU; rw [e3, k3]
  have e7 : opsA s.now seq size l = opsA s.now seq size m := by unfold opsA clmU savU armU; rw [e3, e4, e5, e6, e6, dkY_wrs h]
  have e8 : opsU s.now seq size l = opsU s.now seq size m := by unfold opsU armU; rw [e7, e5, e6]
  have e9 : refE s seq size l = refE s seq size m := by unfold refE; rw [e1, e2, e4]
  exact ⟨e9, e8, e7, e2 _, by unfold updR; rw [e9, e8]⟩
theorem datW_rdy {T : Nat} {σ : Sig} {R R' : List Asrt} {us : List Wr} (tk : Take (datA T (us.map toP)) R R') : ∀ z ∈ us, Rdy σ R (.slice z.2.1 z.2.2.2.length z.2.2.1) z.2.2.2 := fun z hz w L hs => by
  have := hs.dats (take_append tk L) (p := toP z) (List.mem_map_of_mem hz)
  exact this
theorem copiedWrites_own (w0 : World) (aw : Option Addr) (cw : Nat) (ws : List Wr) (hrw : RdS wF 2 (hp w0) (.slice aw ws.length cw) ws) (hlw : ws.length ≤ 1048576) (hgd : ∀ z ∈ ws, RdB (hp w0) (.slice z.2.1 z.2.2.2.length z.2.2.1) z.2.2.2 ∧ z.2.2.2.length ≤ 1048576) : Calls Tryz.prog 31 #[.slice aw ws.length cw] w0 fun e w' => ∃ (a : Option Addr) (c : Nat) (us : List Wr), e = .returned (.slice a us.length c) ∧ us.length = ws.length ∧ us.map dkY = ws.map dkY ∧ St ⟨w0, None_⟩ w' [sl 54 2 (.slice a us.length c) us.length (us.flatMap wF), datA 5 (us.map toP)] := by
 have hs := ((St.start w0 None_).emp (A := datA 5 (([] : List Wr).map toP)) (fun h => trivial)).emp (A := sl 54 2 (.slice none 0 0) 0 []) (fun h => ⟨rfl, .inl ⟨rfl, rfl⟩⟩)
 refine c_enter (N := 27) Tryz.func31 rfl Tryz.ntmps31 (by simp) ?_
 intro a hf
 refine wp_seq ?_
 refine wp_region_lit ?_
 refine s_a hf rfl ?_; clear hf a; intro a hf
 refine s_nil ?_
 refine then_n ?_
 refine wp_seq ?_
 refine wp_region_lit ?_
 refine s_a hf rfl ?_; clear hf a; intro a hf
 refine s_nil ?_
 refine then_n ?_
 refine wp_seq ?_
 refine wp_seq ?_
 refine wp_region_lit ?_
 refine s_a hf rfl ?_; clear hf a; intro a hf
 refine s_nil ?_
 refine then_n ?_
 refine wp_block ?_
 refine c_loop (L0 := [(0, _), (2, _)]) (fun M w m => ∃ (i : Nat) (v : Value) (us : List Wr), M = [(3, v), (4, .int .i64 (i : Int))] ∧ ws.length - i = m ∧ i ≤ ws.length ∧ us.length = i ∧ us.map dkY = (ws.take i).map dkY ∧ St ⟨w0, None_⟩ w [sl 54 2 v us.length (us.flatMap wF), datA 5 (us.map toP)]) (M0 := [(3, .slice none 0 0), (4, .int .i64 0)]) (⟨0, _, [], rfl, rfl, Nat.zero_le _, rfl, rfl, hs⟩) (hf.sub ⟨rfl, rfl, rfl, rfl, trivial⟩) ?_
 clear hf hs a
 rintro M m a w ⟨i, v, us, rfl, rfl, hi, hul, huk, hs⟩ hf
 refine wp_seq ?_
 refine wp_seq ?_
 refine wp_region_lit ?_
 refine s_m hf rfl ?_; clear hf a; intro a hf
 refine s_m hf rfl ?_; clear hf a; intro a hf
 refine s_v hf (x_len Tryz.underlying23 (hf.eval rfl)) ?_; clear hf a; intro a hf
 refine s_v hf (x_bin (hf.eval rfl) (hf.eval rfl) (r_lt _ _ _ _)) ?_; clear hf a; intro a hf
 refine s_nil ?_
 refine then_n ?_
 refine c_cond hf rfl (fun hi0 => ?_) (fun hi0 => ?_)
 ·simp only [zd1, zd2, zd3, zd4, zd5, zd6, zd7] at hi0
  have hlt : i < ws.length := by omega
  obtain ⟨aw, rfl⟩ := hrw.some (by omega)
  obtain ⟨ab, ao2, rfl⟩ := rdS_plain (sz := 2) (fun _ => rfl) (by decide) hrw (by omega)
  have hg := hgd _ (List.getElem_mem hlt)
  refine wp_skip ?_
  refine then_n ?_
  refine wp_seq ?_
  refine wp_block ?_
  refine c_draw hs (fun w' => Kept w0 w' None_) [.held, .held, .held, .held, .held, .held, .held, .held, .held, .held, .held, .eff, .held, .eff, .eff, .held] (by kernel_rfl) (by kernel_rfl) (fun w' _ hs => hs.kept) ?_
  clear hs; intro w hs hC hw
  refine m_held hf rfl (fun w' _ => x_move (hf.eval rfl) w') ?_; clear hf a; intro a hf
  refine m_held hf rfl (fun w' _ => x_move (hf.eval rfl) w') ?_; clear hf a; intro a hf
  refine m_held hf rfl (fun w' _ => x_move (hf.eval rfl) w') ?_; clear hf a; intro a hf
  refine m_held hf rfl (fun w' _ => x_indexAddr sl23 (hf.eval rfl) (hf.eval rfl) (by omega) (by omega) w') ?_; clear hf a; intro a hf
  replace hf := hf.now (k := 14) (v' := .pointer (some ⟨ab, ao2 + i * 2, none⟩)) rfl (by rw [addr_add]; rfl)
  refine m_held hf rfl (fun w' _ => x_fieldAddr fo54_0 (hf.eval rfl) w') ?_; clear hf a; intro a hf
  refine m_held hf rfl (fun w' hc => x_load sc3 (hf.eval rfl) (rdS_cellAt (f := wF) (sz := 2) (fun _ => rfl) (RdC.mono hc.hle hrw) (k := 0) hlt rfl)) ?_; clear hf a; intro a hf
  refine m_held hf rfl (fun w' _ => x_move (hf.eval rfl) w') ?_; clear hf a; intro a hf
  refine m_held hf rfl (fun w' _ => x_move (hf.eval rfl) w') ?_; clear hf a; intro a hf
  refine m_held hf rfl (fun w' _ => x_indexAddr sl23 (hf.eval rfl) (hf.eval rfl) (by omega) (by omega) w') ?_; clear hf a; intro a hf
  replace hf := hf.now (k := 19) (v' := .pointer (some ⟨ab, ao2 + i * 2, none⟩)) rfl (by rw [addr_add]; rfl)
  refine m_held hf rfl (fun w' _ => x_fieldAddr fo54_1 (hf.eval rfl) w') ?_; clear hf a; intro a hf
  refine m_held hf rfl (fun w' hc => x_load sc22 (hf.eval rfl) (rdS_cellAt (f := wF) (sz := 2) (fun _ => rfl) (RdC.mono hc.hle hrw) (k := 1) hlt rfl)) ?_; clear hf a; intro a hf
  refine m_eff hf rfl (y_call (hf.eval rfl) (hf.evals rfl) Tryz.call30 ((copied_spec _ _ _ ws[i].2.2.2 (hs.oldB hg.1) (by omega)).mono ?_))
  rintro e w1 ⟨e4, f4, rfl, hj⟩
  replace hs := hs.join hj
  simp only [List.cons_append, List.nil_append] at hs
  refine ⟨_, rfl, ⟨hs.kept, ?_⟩⟩; clear hf a; intro a hf
  refine m_held hf rfl (fun w' hc => x_build (v := .agg #[.int .i64 ws[i].1, .slice e4 ws[i].2.2.2.length f4]) (hf.parts rfl) (fun w => by kernel_rfl) _) ?_; clear hf a; intro a hf
  refine m_eff hf rfl (y_lit (xs := [.tmp 23]) hs sl23 (hf.evals rfl) rfl (by simp [Value.cells]) (by decide) ?_); clear hf hs a; intro b2 w hs; refine ⟨hs.kept, ?_⟩; intro a hf
  refine m_eff hf rfl (y_append (n := us.length) (m := 1) (ys := [.int .i64 ws[i].1, .slice e4 ws[i].2.2.2.length f4]) hs sl23 (hf.eval rfl) (hf.eval rfl) .k2 (hs.rd .k0 fun h hb => rd_rows hb rfl) (by simp [Value.oneCell']) (by omega) (by rw [maxLen_eq]; omega) ?_); clear hf hs a; intro v2 w hs hv; refine ⟨hs.kept, ?_⟩; intro a hf
  replace hs := hs.lose .k1
  replace hs := hs.take (A := slB 5 (.slice e4 ws[i].2.2.2.length f4) ws[i].2.2.2) (by repeat constructor)
  replace hs := hs.take (A := datA 5 (us.map toP)) (by repeat constructor)
  replace hs := datA_push (p := toP ((ws[i].1, e4, f4, ws[i].2.2.2) : Wr)) hs
  have hs5 : St ⟨w0, None_⟩ w [sl 54 2 v2 (us ++ [((ws[i].1, e4, f4, ws[i].2.2.2) : Wr)]).length ((us ++ [((ws[i].1, e4, f4, ws[i].2.2.2) : Wr)]).flatMap wF), datA 5 ((us ++ [((ws[i].1, e4, f4, ws[i].2.2.2) : Wr)]).map toP)] := by
    rw [List.length_append, List.flatMap_append, List.map_append]
    exact hs.take .k1
  refine m_held hf rfl (fun w' _ => x_assign (hf.eval rfl) w') ?_; clear hf a; intro a hf
  refine m_nil ?_
  refine blk_n ?_
  refine then_n ?_
  refine wp_region_lit ?_
  refine s_m hf rfl ?_; clear hf a; intro a hf
  refine s_v hf (x_bin (hf.eval rfl) (hf.eval rfl) (r_addi _ (by omega) (by omega))) ?_; clear hf a; intro a hf
  refine s_a hf rfl ?_; clear hf a; intro a hf
  refine s_nil ?_
  exact ⟨_, _, ⟨i + 1, _, us ++ [((ws[i].1, e4, f4, ws[i].2.2.2) : Wr)], rfl, rfl, by omega, by simp; omega, by rw [List.take_succ_eq_append_getElem hlt, List.map_append, List.map_append, huk]; rfl, hs5⟩, by omega, hf.sub ⟨rfl, rfl, rfl, rfl, trivial⟩⟩
 simp only [zd1, zd2, zd3, zd4, zd5, zd6, zd7] at hi0
 refine wp_exit ?_
 refine then_x ?_
 refine then_x ?_
 refine blk_x ?_
 refine then_n ?_
 refine wp_seq ?_
 refine wp_region_lit ?_
 refine s_m hf rfl ?_; clear hf a; intro a hf
 refine s_a hf rfl ?_; clear hf a; intro a hf
 refine s_nil ?_
 refine then_n ?_
 refine wp_ret ?_
 refine r_1 hf Tryz.results31 rfl ?_
 have hi9 : i = ws.length := by omega
 obtain ⟨a2, c2, rfl⟩ := sl_shape hs
 exact ⟨a2, c2, us, rfl, by omega, by rw [huk, hi9, List.take_length], hs⟩
attribute [local irreducible] Vw.sl Vw.lkV Vw.aplR Vw.aplE Vw.filU Vw.filZ Vw.lonZ Vw.savL
theorem linField_spec (w : World) (v : Int) : Calls Tryz.prog 71 #[.int .i64 v] w fun e w' => e = .returned (.bool (inF v)) ∧ w' = w := by
 refine c_enter (N := 9) Tryz.func71 rfl Tryz.ntmps71 (by simp) ?_
 intro a hf
 refine wp_seq ?_
 refine wp_region_lit ?_
 refine s_a hf rfl ?_; clear hf a; intro a hf
 refine s_nil ?_
 refine then_n ?_
 refine wp_seq ?_
 refine wp_region_lit ?_
 refine s_m hf rfl ?_; clear hf a; intro a hf
 refine s_v hf (x_bin (hf.eval rfl) (hf.eval rfl) (r_ge _ _ _ _)) ?_; clear hf a; intro a hf
 refine s_m hf rfl ?_; clear hf a; intro a hf
 refine s_bool hf (k := 5) rfl (fun hg1_2 hf' => ?_) (fun hg1_2 hf' => ?_)
 ·clear hf
  have hf := hf'
  clear hf'
  first | simp only [zd1, zd2, zd3, zd4, ne_eq, Classical.not_not] at hg1_2 | skip
  refine s_do hf (wanted_of hf rfl rfl rfl) (.value (x_move (hf.eval rfl) _) ?_); clear hf a; intro a hf
  refine s_do hf (wanted_of hf rfl rfl rfl) (.value (x_bin (hf.eval rfl) (hf.eval rfl) (r_le _ _ _ _) _) ?_); clear hf a; intro a hf
  refine s_v hf (x_pick_t (hf.eval rfl) (hf.eval rfl)) ?_; clear hf a; intro a hf
  refine s_a hf rfl ?_; clear hf a; intro a hf
  refine s_nil ?_
  refine then_n ?_
  refine wp_ret ?_
  refine r_1 hf Tryz.results71 rfl ?_
  exact ⟨by unfold inF; first | rw [decide_eq_false (show ¬ (0 ≤ v ∧ v ≤ 4294967295) by omega)] | (congr 2; exact decide_eq_decide.2 (by omega)), rfl⟩
 clear hf
 have hf := hf'
 clear hf'
 first | simp only [zd1, zd2, zd3, zd4, ne_eq, Classical.not_not] at hg1_2 | skip
 refine s_pass hf rfl rfl ?_; clear hf a; intro a hf
 refine s_pass hf rfl rfl ?_; clear hf a; intro a hf
 refine s_v hf (x_pick_f (hf.eval rfl) (hf.eval rfl)) ?_; clear hf a; intro a hf
 refine s_a hf rfl ?_; clear hf a; intro a hf
 refine s_nil ?_
 refine then_n ?_
 refine wp_ret ?_
 refine r_1 hf Tryz.results71 rfl ?_
 exact ⟨by unfold inF; first | rw [decide_eq_false (show ¬ (0 ≤ v ∧ v ≤ 4294967295) by omega)] | (congr 2; exact decide_eq_decide.2 (by omega)), rfl⟩
def mayR (c : List UInt8) (seq size : Int) (ws : List Wr) : List UInt8 × Int × Bool := if aplE c.length size ws ≠ 0 ∨ inF seq = false ∨ 16777216 < filU c size ws then ([], 0, false) else (aplR c size ws, filU c size ws, decide ((lkV c).1.1 = 0) && decide ((lkV (aplR c size ws)).1.1 = 0))
theorem may_no {c : List UInt8} {seq size : Int} {ws : List Wr} (h : aplE c.length size ws ≠ 0 ∨ inF seq = false ∨ 16777216 < filU c size ws) : mayR c seq size ws = ([], 0, false) := by unfold mayR; rw [if_pos h]
theorem may_yes {c : List UInt8} {seq size : Int} {ws : List Wr} (h : ¬ (aplE c.length size ws ≠ 0 ∨ inF seq = false ∨ 16777216 < filU c size ws)) : mayR c seq size ws = (aplR c size ws, filU c size ws, decide ((lkV c).1.1 = 0) && decide ((lkV (aplR c size ws)).1.1 = 0)) := by unfold mayR; rw [if_neg h]
theorem may_spec (w0 : World) (hT : Tab 0 (hp w0)) (a1 : Option Addr) (c1 : Nat) (c : List UInt8) (hr1 : RdB (hp w0) (.slice a1 c.length c1) c) (hl1 : c.length ≤ 16777216) (seq size : Int) (aw : Option Addr) (cw : Nat) (ws : List Wr) (hrw : RdS wF 2 (hp w0) (.slice aw ws.length cw) ws) (hlw : ws.length ≤ 1048576) (hgd : ∀ z ∈ ws, RdB (hp w0) (.slice z.2.1 z.2.2.2.length z.2.2.1) z.2.2.2 ∧ z.2.2.2.length ≤ 1048576) : Calls Tryz.prog 29 #[.slice a1 c.length c1, .int .i64 seq, .int .i64 size, .slice aw ws.length cw] w0 fun e w' => ∃ a cc, e = .returned (.tuple #[.slice a (mayR c seq size ws).1.length cc, .int .i64 (mayR c seq size ws).2.1, .bool (mayR c seq size ws).2.2]) ∧ St ⟨w0, None_⟩ w' [slB 5 (.slice a (mayR c seq size ws).1.length cc) (mayR c seq size ws).1] := by
 have hs := St.start w0 None_
 refine c_enter (N := 53) Tryz.func29 rfl Tryz.ntmps29 (by simp) ?_
 intro a hf
 refine wp_seq ?_
 refine wp_region_lit ?_
 refine s_a hf rfl ?_; clear hf a; intro a hf
 refine s_a hf rfl ?_; clear hf a; intro a hf
 refine s_a hf rfl ?_; clear hf a; intro a hf
 refine s_nil ?_
 refine then_n ?_
 refine wp_seq ?_
 refine wp_region_lit ?_
 refine s_m hf rfl ?_; clear hf a; intro a hf
 refine s_m hf rfl ?_; clear hf a; intro a hf
 refine s_m hf rfl ?_; clear hf a; intro a hf
 refine s_do hf rfl (y_call (hf.eval rfl) (hf.evals rfl) Tryz.call69 ((rapply_spec _ a1 c1 c (hs.oldB hr1) (by omega) size aw cw ws (hs.old hrw) hlw (fun z hz => ⟨hs.oldB (hgd z hz).1, (hgd z hz).2⟩) (aplR c size ws) rfl (aplE c.length size ws) rfl).mono ?_))
 rintro e w1 ⟨ga, gc, rfl, hj⟩
 replace hs := hs.join hj
 simp only [List.cons_append, List.nil_append] at hs
 refine ⟨_, rfl, ?_⟩; clear hf a; intro a hf
 refine s_m hf rfl ?_; clear hf a; intro a hf
 refine s_v hf (x_extract (hf.eval rfl) rfl) ?_; clear hf a; intro a hf
 refine s_v hf (x_extract (hf.eval rfl) rfl) ?_; clear hf a; intro a hf
 refine s_a hf rfl ?_; clear hf a; intro a hf
 refine s_a hf rfl ?_; clear hf a; intro a hf
 refine s_nil ?_
 refine then_n ?_
 refine wp_seq ?_
 refine wp_region_lit ?_
 refine s_m hf rfl ?_; clear hf a; intro a hf
 refine s_v hf (x_len Tryz.underlying22 (hf.eval rfl)) ?_; clear hf a; intro a hf
 refine s_m hf rfl ?_; clear hf a; intro a hf
 refine s_m hf rfl ?_; clear hf a; intro a hf
 refine s_do hf rfl (y_call (hf.eval rfl) (hf.evals rfl) Tryz.call70 ((rneed_all _ c.length size aw cw ws (hs.old hrw) hlw).mono ?_))
 rintro e w1 ⟨rfl, hk⟩
 replace hs := hs.ext hk
 refine ⟨_, rfl, ?_⟩; clear hf a; intro a hf
 refine s_m hf rfl ?_; clear hf a; intro a hf
 refine s_v hf (x_extract (hf.eval rfl) rfl) ?_; clear hf a; intro a hf
 refine s_v hf (x_extract (hf.eval rfl) rfl) ?_; clear hf a; intro a hf
 refine s_a hf rfl ?_; clear hf a; intro a hf
 refine s_a hf rfl ?_; clear hf a; intro a hf
 refine s_nil ?_
 refine then_n ?_
 refine wp_seq ?_
 refine wp_seq ?_
 refine wp_region_lit ?_
 refine s_m hf rfl ?_; clear hf a; intro a hf
 refine s_v hf (x_bin (hf.eval rfl) (hf.eval rfl) (r_ne _ _ _ _)) ?_; clear hf a; intro a hf
 refine s_m hf rfl ?_; clear hf a; intro a hf
 refine s_bool hf (k := 32) rfl (fun hg3_2 hf' => ?_) (fun hg3_2 hf' => ?_)
 ·clear hf
  have hf := hf'
  clear hf'
  first | simp only [zd1, zd2, zd3, zd4, ne_eq, Classical.not_not] at hg3_2 | skip
  refine s_pass hf rfl rfl ?_; clear hf a; intro a hf
  refine s_pass hf rfl rfl ?_; clear hf a; intro a hf
  refine s_v hf (x_pick_t (hf.eval rfl) (hf.eval rfl)) ?_; clear hf a; intro a hf
  refine s_m hf rfl ?_; clear hf a; intro a hf
  refine s_pass hf rfl rfl ?_; clear hf a; intro a hf
  refine s_pass hf rfl rfl ?_; clear hf a; intro a hf
  refine s_pass hf rfl rfl ?_; clear hf a; intro a hf
  refine s_v hf (x_pick_t (hf.eval rfl) (hf.eval rfl)) ?_; clear hf a; intro a hf
  refine s_m hf rfl ?_; clear hf a; intro a hf
  refine s_pass hf rfl rfl ?_; clear hf a; intro a hf
  refine s_pass hf rfl rfl ?_; clear hf a; intro a hf
  refine s_v hf (x_pick_t (hf.eval rfl) (hf.eval rfl)) ?_; clear hf a; intro a hf
  refine s_nil ?_
  refine then_n ?_
  refine c_cond_t hf rfl rfl ?_
  refine wp_seq ?_
  refine wp_region_lit ?_
  refine s_a hf rfl ?_; clear hf a; intro a hf
  refine s_a hf rfl ?_; clear hf a; intro a hf
  refine s_a hf rfl ?_; clear hf a; intro a hf
  refine s_nil ?_
  refine then_n ?_
  refine wp_ret ?_
  refine then_r ?_
  refine r_3 hf Tryz.results29 rfl rfl rfl ?_
  have hm : mayR c seq size ws = ([], 0, false) := may_no (by first | exact .inl hg3_2 | exact .inl hg3_6 | exact .inr (.inl (by simpa using hg3_11)) | (have hap : aplE c.length size ws = 0 := (by simpa using hg3_2); obtain ⟨u1, u2, u3⟩ := aplE_0 hap; rw [if_pos hap, fil_fil u3] at hi0; exact .inr (.inr hi0)))
  rw [hm]
  exact ⟨none, 0, rfl, (St.keep [] _ hs).emp (slB_nil _)⟩
 clear hf
 have hf := hf'
 clear hf'
 first | simp only [zd1, zd2, zd3, zd4, ne_eq, Classical.not_not] at hg3_2 | skip
 refine s_do hf (wanted_of hf rfl rfl rfl) (.value (x_move (hf.eval rfl) _) ?_); clear hf a; intro a hf
 refine s_do hf (wanted_of hf rfl rfl rfl) (.value (x_bin (hf.eval rfl) (hf.eval rfl) (r_ne _ _ _ _) _) ?_); clear hf a; intro a hf
 refine s_v hf (x_pick_f (hf.eval rfl) (hf.eval rfl)) ?_; clear hf a; intro a hf
 refine s_m hf rfl ?_; clear hf a; intro a hf
 refine s_bool hf (k := 36) rfl (fun hg3_6 hf' => ?_) (fun hg3_6 hf' => ?_)
 ·clear hf
  have hf := hf'
  clear hf'
  first | simp only [zd1, zd2, zd3, zd4, ne_eq, Classical.not_not] at hg3_6 | skip
  refine s_pass hf rfl rfl ?_; clear hf a; intro a hf
  refine s_pass hf rfl rfl ?_; clear hf a; intro a hf
  refine s_pass hf rfl rfl ?_; clear hf a; intro a hf
  refine s_v hf (x_pick_t (hf.eval rfl) (hf.eval rfl)) ?_; clear hf a; intro a hf
  refine s_m hf rfl ?_; clear hf a; intro a hf
  refine s_pass hf rfl rfl ?_; clear hf a; intro a hf
  refine s_pass hf rfl rfl ?_; clear hf a; intro a hf
  refine s_v hf (x_pick_t (hf.eval rfl) (hf.eval rfl)) ?_; clear hf a; intro a hf
  refine s_nil ?_
  refine then_n ?_
  refine c_cond_t hf rfl rfl ?_
  refine wp_seq ?_
  refine wp_region_lit ?_
  refine s_a hf rfl ?_; clear hf a; intro a hf
  refine s_a hf rfl ?_; clear hf a; intro a hf
  refine s_a hf rfl ?_; clear hf a; intro a hf
  refine s_nil ?_
  refine then_n ?_
  refine wp_ret ?_
  refine then_r ?_
  refine r_3 hf Tryz.results29 rfl rfl rfl ?_
  have hm : mayR c seq size ws = ([], 0, false) := may_no (by first | exact .inl hg3_2 | exact .inl hg3_6 | exact .inr (.inl (by simpa using hg3_11)) | (have hap : aplE c.length size ws = 0 := (by simpa using hg3_2); obtain ⟨u1, u2, u3⟩ := aplE_0 hap; rw [if_pos hap, fil_fil u3] at hi0; exact .inr (.inr hi0)))
  rw [hm]
  exact ⟨none, 0, rfl, (St.keep [] _ hs).emp (slB_nil _)⟩
 clear hf
 have hf := hf'
 clear hf'
 first | simp only [zd1, zd2, zd3, zd4, ne_eq, Classical.not_not] at hg3_6 | skip
 refine s_do hf (wanted_of hf rfl rfl rfl) (.value (x_move (hf.eval rfl) _) ?_); clear hf a; intro a hf
 refine s_do hf (wanted_of hf rfl rfl rfl) (y_call (hf.eval rfl) (hf.evals rfl) Tryz.call71 ((linField_spec _ seq).mono ?_))
 rintro e w1 ⟨rfl, hw9⟩
 rw [hw9]
 clear hw9 w1
 refine ⟨_, rfl, ?_⟩; clear hf a; intro a hf
 refine s_do hf (wanted_of hf rfl rfl rfl) (.value (x_not (hf.eval rfl) _) ?_); clear hf a; intro a hf
 refine s_v hf (x_pick_f (hf.eval rfl) (hf.eval rfl)) ?_; clear hf a; intro a hf
 refine s_m hf rfl ?_; clear hf a; intro a hf
 refine s_bool hf (k := 41) rfl (fun hg3_11 hf' => ?_) (fun hg3_11 hf' => ?_)
 ·clear hf
  have hf := hf'
  clear hf'
  first | simp only [zd1, zd2, zd3, zd4, ne_eq, Classical.not_not] at hg3_11 | skip
  refine s_pass hf rfl rfl ?_; clear hf a; intro a hf
  refine s_pass hf rfl rfl ?_; clear hf a; intro a hf
  refine s_v hf (x_pick_t (hf.eval rfl) (hf.eval rfl)) ?_; clear hf a; intro a hf
  refine s_nil ?_
  refine then_n ?_
  refine c_cond_t hf rfl rfl ?_
  refine wp_seq ?_
  refine wp_region_lit ?_
  refine s_a hf rfl ?_; clear hf a; intro a hf
  refine s_a hf rfl ?_; clear hf a; intro a hf
  refine s_a hf rfl ?_; clear hf a; intro a hf
  refine s_nil ?_
  refine then_n ?_
  refine wp_ret ?_
  refine then_r ?_
  refine r_3 hf Tryz.results29 rfl rfl rfl ?_
  have hm : mayR c seq size ws = ([], 0, false) := may_no (by first | exact .inl hg3_2 | exact .inl hg3_6 | exact .inr (.inl (by simpa using hg3_11)) | (have hap : aplE c.length size ws = 0 := (by simpa using hg3_2); obtain ⟨u1, u2, u3⟩ := aplE_0 hap; rw [if_pos hap, fil_fil u3] at hi0; exact .inr (.inr hi0)))
  rw [hm]
  exact ⟨none, 0, rfl, (St.keep [] _ hs).emp (slB_nil _)⟩
 clear hf
 have hf := hf'
 clear hf'
 first | simp only [zd1, zd2, zd3, zd4, ne_eq, Classical.not_not] at hg3_11 | skip
 refine s_do hf (wanted_of hf rfl rfl rfl) (.value (x_move (hf.eval rfl) _) ?_); clear hf a; intro a hf
 refine s_do hf (wanted_of hf rfl rfl rfl) (.value (x_bin (hf.eval rfl) (hf.eval rfl) (r_gt _ _ _ _) _) ?_); clear hf a; intro a hf
 refine s_v hf (x_pick_f (hf.eval rfl) (hf.eval rfl)) ?_; clear hf a; intro a hf
 refine s_nil ?_
 refine then_n ?_
 refine c_cond hf rfl (fun hi0 => ?_) (fun hi0 => ?_)
 ·first | simp only [zd1, zd2, zd3, zd4, ne_eq, Classical.not_not] at hi0 | skip
  refine wp_seq ?_
  refine wp_region_lit ?_
  refine s_a hf rfl ?_; clear hf a; intro a hf
  refine s_a hf rfl ?_; clear hf a; intro a hf
  refine s_a hf rfl ?_; clear hf a; intro a hf
  refine s_nil ?_
  refine then_n ?_
  refine wp_ret ?_
  refine then_r ?_
  refine r_3 hf Tryz.results29 rfl rfl rfl ?_
  have hm : mayR c seq size ws = ([], 0, false) := may_no (by first | exact .inl hg3_2 | exact .inl hg3_6 | exact .inr (.inl (by simpa using hg3_11)) | (have hap : aplE c.length size ws = 0 := (by simpa using hg3_2); obtain ⟨u1, u2, u3⟩ := aplE_0 hap; rw [if_pos hap, fil_fil u3] at hi0; exact .inr (.inr hi0)))
  rw [hm]
  exact ⟨none, 0, rfl, (St.keep [] _ hs).emp (slB_nil _)⟩
 first | simp only [zd1, zd2, zd3, zd4, ne_eq, Classical.not_not] at hi0 | skip
 have hap : aplE c.length size ws = 0 := by simpa using hg3_2
 obtain ⟨u1, u2, u3⟩ := aplE_0 hap
 rw [if_pos hap, fil_fil u3] at hf hi0
 have hVl := aplR_len c size ws
 have hm := may_yes (c := c) (seq := seq) (size := size) (ws := ws) (by rintro (h | h | h); exact h hap; rw [h] at hg3_11; simp at hg3_11; omega)
 refine wp_skip ?_
 refine then_n ?_
 refine wp_seq ?_
 refine wp_region_lit ?_
 refine s_m hf rfl ?_; clear hf a; intro a hf
 refine s_m hf rfl ?_; clear hf a; intro a hf
 refine s_m hf rfl ?_; clear hf a; intro a hf
 refine s_do hf rfl (y_call (hf.eval rfl) (hf.evals rfl) Tryz.call35 ((rquiet_spec _ _ _ c (hs.oldB hr1) hl1).mono ?_))
 rintro e w1 ⟨rfl, hk⟩
 replace hs := hs.ext hk
 refine ⟨_, rfl, ?_⟩; clear hf a; intro a hf
 refine s_m hf rfl ?_; clear hf a; intro a hf
 refine s_bool hf (k := 49) rfl (fun hg5_4 hf' => ?_) (fun hg5_4 hf' => ?_)
 ·clear hf
  have hf := hf'
  clear hf'
  first | simp only [zd1, zd2, zd3, zd4, ne_eq, Classical.not_not] at hg5_4 | skip
  refine s_do hf (wanted_of hf rfl rfl rfl) (.value (x_move (hf.eval rfl) _) ?_); clear hf a; intro a hf
  refine s_do hf (wanted_of hf rfl rfl rfl) (y_call (hf.eval rfl) (hf.evals rfl) Tryz.call35 ((rquiet_spec _ _ gc (aplR c size ws) (hs.rdB (A := slB 5 (.slice ga (aplR c size ws).length gc) (aplR c size ws)) (by repeat constructor) fun h => slB_rd) (by omega)).mono ?_))
  rintro e w1 ⟨rfl, hk⟩
  replace hs := hs.ext hk
  refine ⟨_, rfl, ?_⟩; clear hf a; intro a hf
  refine s_v hf (x_pick_t (hf.eval rfl) (hf.eval rfl)) ?_; clear hf a; intro a hf
  refine s_a hf rfl ?_; clear hf a; intro a hf
  refine s_a hf rfl ?_; clear hf a; intro a hf
  refine s_a hf rfl ?_; clear hf a; intro a hf
  refine s_nil ?_
  refine then_n ?_
  refine wp_ret ?_
  refine r_3 hf Tryz.results29 rfl rfl rfl ?_
  rw [hm]
  replace hs := hs.take (A := slB 5 (.slice ga (aplR c size ws).length gc) (aplR c size ws)) (by repeat constructor)
  exact ⟨ga, gc, by simp [hg5_4], St.keep [_] _ hs⟩
 clear hf
 have hf := hf'
 clear hf'
 first | simp only [zd1, zd2, zd3, zd4, ne_eq, Classical.not_not] at hg5_4 | skip
 refine s_pass hf rfl rfl ?_; clear hf a; intro a hf
 refine s_pass hf rfl rfl ?_; clear hf a; intro a hf
 refine s_v hf (x_pick_f (hf.eval rfl) (hf.eval rfl)) ?_; clear hf a; intro a hf
 refine s_a hf rfl ?_; clear hf a; intro a hf
 refine s_a hf rfl ?_; clear hf a; intro a hf
 refine s_a hf rfl ?_; clear hf a; intro a hf
 refine s_nil ?_
 refine then_n ?_
 refine wp_ret ?_
 refine r_3 hf Tryz.results29 rfl rfl rfl ?_
 rw [hm]
 replace hs := hs.take (A := slB 5 (.slice ga (aplR c size ws).length gc) (aplR c size ws)) (by repeat constructor)
 exact ⟨ga, gc, by simp [hg5_4], St.keep [_] _ hs⟩
end Go.Proofs.YtehakfbfjpolfaaGreatDoor

namespace Go.Proofs.YtehakfbfjpolfaaGreatDoor
open Go Vw
abbrev ChQ := Int × (Option Addr × Nat × List Int) × Int
def chF (c : ChQ) : List Value := [.int .i64 c.1, .slice c.2.1.1 c.2.1.2.2.length c.2.1.2.1, .int .i64 c.2.2]
structure ChG (h : Heaplet) (c : ChQ) : Prop where
  rd : RdS iF 1 h (.slice c.2.1.1 c.2.1.2.2.length c.2.1.2.1) c.2.1.2.2
  len : c.2.1.2.2.length ≤ 1048576
abbrev CutQ := Int × ChQ
def cuF (c : CutQ) : List Value := .int .i64 c.1 :: chF c.2
theorem may_true {c : List UInt8} {seq size : Int} {ws : List Wr} (h : (mayR c seq size ws).2.2 = true) : mayR c seq size ws = (aplR c size ws, filU c size ws, true) ∧ aplE c.length size ws = 0 ∧ (0 ≤ seq ∧ seq ≤ 4294967295) ∧ filU c size ws ≤ 16777216 ∧ (lkV c).1.1 = 0 ∧ (lkV (aplR c size ws)).1.1 = 0 := by
  by_cases hb : aplE c.length size ws ≠ 0 ∨ inF seq = false ∨ 16777216 < filU c size ws
  · rw [may_no hb] at h; cases h
  · have hm := may_yes hb
    rw [hm] at h
    simp only [Bool.and_eq_true, decide_eq_true_eq] at h
    simp only [not_or, Bool.not_eq_false, Int.not_lt, ne_eq, Classical.not_not] at hb
    have hf : 0 ≤ seq ∧ seq ≤ 4294967295 := by have h9 := hb.2.1; unfold inF at h9; simpa using h9
    refine ⟨?_, hb.1, hf, hb.2.2, h.1, h.2⟩
    rw [hm, h.1, h.2]; rfl
def Good (s : DS) (c n : List UInt8) (o t : Bool) : Prop := ∀ ch, ((lkV (outS s ch)).2 = c ∨ (lkV (outS s ch)).2 = n) ∧ (o = true → (lkV (outS s ch)).2 = c) ∧ (t = true → (lkV (outS s ch)).2 = n)
theorem dkY_len {us ws : List Wr} (h : us.map dkY = ws.map dkY) {N : Nat} (hN : ∀ z ∈ ws, z.2.2.2.length ≤ N) : ∀ z ∈ us, z.2.2.2.length ≤ N := fun z hz => by
  have h1 : dkY z ∈ us.map dkY := List.mem_map_of_mem hz
  rw [h] at h1
  obtain ⟨y, hy, e⟩ := List.mem_map.1 h1
  have h2 : (dkY y).2 = (dkY z).2 := congrArg Prod.snd e
  replace h2 : y.2.2.2 = z.2.2.2 := h2
  rw [← h2]; exact hN y hy
theorem upd_ok {s : DS} (h : DOk s) (seq size : Int) (ws : List Wr) : DOk (updR s seq size ws).2 := by
  unfold updR; split
  · exact h
  · exact runS_ok _ h
theorem upd_b {s : DS} (ho : DOk s) {k : Nat} (h : DB s k) (seq size : Int) (ws : List Wr) : DB (updR s seq size ws).2 (k + (20 + ws.length)) := by
  unfold updR; split
  · exact h.up (by omega)
  · exact (runS_b _ ho h).up (by rw [opsU_len, opsA_len]; split <;> omega)
attribute [local irreducible] Vw.sl Vw.lkV Vw.runS Vw.opsU Vw.opsA Vw.opsR Vw.aplR Vw.aplE Vw.updR recV recS Vw.filU Vw.savL mayR Vw.outS
set_option maxHeartbeats 1600000
end Go.Proofs.YtehakfbfjpolfaaGreatDoor

namespace Go.Proofs.YtehakfbfjpolfaaGreatDoor
open Go Vw
attribute [local irreducible] Vw.sl Vw.lkV Vw.runS Vw.opsU Vw.opsA Vw.opsR Vw.aplR Vw.aplE Vw.updR recV recS Vw.filU Vw.savL mayR Vw.outS
structure Bk where
  s : DS
  now : List UInt8
  next : List UInt8
  op : Bool
  rest : Bool
structure BI (b : Bk) (C : Nat) : Prop where
  ok : DOk b.s
  q : (lkV b.now).1.1 = 0
  len : b.now.length ≤ 16777216
  op : b.op = true → (lkV b.next).1.1 = 0 ∧ b.next.length ≤ 16777216
  live : b.s.dead = false → Idle b.s ∧ (lkV b.s.now).2 = b.now ∧ b.op = false ∧ (b.rest = true → b.s.now = b.now ∧ DB b.s (2100000 + C)) ∧ (b.rest = false → (lkV b.s.now).1.1 ≠ 0 ∧ DB b.s 0)
  dead : b.s.dead = true → DB b.s (4200000 + C) ∧ ∀ ch, (lkV (outS b.s ch)).2 = b.now ∨ (b.op = true ∧ (lkV (outS b.s ch)).2 = b.next)
theorem bi_b {b : Bk} {C : Nat} (h : BI b C) : DB b.s (4200000 + C) := by
  cases hd : b.s.dead with
  | true => exact (h.dead hd).1
  | false =>
    obtain ⟨_, _, _, h1, h2⟩ := h.live hd
    cases hr : b.rest with
    | true => exact (h1 hr).2.up (by omega)
    | false => exact (h2 hr).2.up (by omega)
theorem bi_out {b : Bk} {C : Nat} (h : BI b C) (ch : Ch) : (lkV (outS b.s ch)).2 = b.now ∨ (b.op = true ∧ (lkV (outS b.s ch)).2 = b.next) := by
  cases hd : b.s.dead with
  | true => exact (h.dead hd).2 ch
  | false =>
    obtain ⟨i, e, _, _⟩ := h.live hd
    rw [idle_out i]; exact .inl e
theorem bi_up {b : Bk} {C D : Nat} (h : BI b C) (hc : C ≤ D) : BI b D := ⟨h.ok, h.q, h.len, h.op, fun hd => by
    obtain ⟨i, e, o, h1, h2⟩ := h.live hd
    exact ⟨i, e, o, fun hr => ⟨(h1 hr).1, (h1 hr).2.up (by omega)⟩, h2⟩, fun hd => ⟨(h.dead hd).1.up (by omega), (h.dead hd).2⟩⟩
theorem fu_same (s : DS) (n : Int) : (fuS s n).now = s.now ∧ (fuS s n).calls = s.calls ∧ (fuS s n).dead = s.dead ∧ (fuS s n).room = s.room := by
  unfold fuS; split <;> exact ⟨rfl, rfl, rfl, rfl⟩
theorem fu_dead {s : DS} (h : s.dead = true) (n : Int) : fuS s n = s := by unfold fuS; rw [if_pos h]
theorem bi_fuse {b : Bk} {C : Nat} (h : BI b C) {n : Int} (hn : n ≤ 9223372036854775807) : BI { b with s := fuS b.s n } C := by
  cases hd : b.s.dead with
  | true => rw [fu_dead hd]; exact h
  | false =>
    obtain ⟨e1, e2, e3, e4⟩ := fu_same b.s n
    obtain ⟨i, e, o, h1, h2⟩ := h.live hd
    refine ⟨fuS_ok h.ok hn, h.q, h.len, h.op, fun _ => ⟨(idle_fuse i n).1, by show (lkV (fuS b.s n).now).2 = _; rw [e1]; exact e, o, fun hr => ⟨e1.trans (h1 hr).1, fuS_b (h1 hr).2 n⟩, fun hr => ⟨by show (lkV (fuS b.s n).now).1.1 ≠ 0; rw [e1]; exact (h2 hr).1, fuS_b (h2 hr).2 n⟩⟩, fun h9 => ?_⟩
    exact absurd (e3.symm.trans h9) (by rw [hd]; simp)
theorem ref_ne (s : DS) (seq size : Int) (ws : List Wr) : refE s seq size ws ≠ 0 ↔ (seq < 0 ∨ 4294967295 < seq ∨ ¬ (0 ≤ size ∧ size ≤ 16777216)) ∨ s.dead = true ∨ aplE s.now.length size ws ≠ 0 ∨ ((lkV s.now).1.1 ≠ 0 ∨ (lkV (aplR s.now size ws)).1.1 ≠ 0) ∨ s.room < filU s.now size ws := by
  unfold refE
  split
  · rename_i h; exact ⟨fun _ => .inl h, fun _ => by decide⟩
  · rename_i h
    split
    · rename_i h2; exact ⟨fun _ => .inr (.inl h2), fun _ => by decide⟩
    · rename_i h2
      split
      · rename_i h3; exact ⟨fun _ => .inr (.inr (.inl h3)), fun _ => h3⟩
      · rename_i h3
        split
        · rename_i h4; exact ⟨fun _ => .inr (.inr (.inr (.inl h4))), fun _ => by decide⟩
        · rename_i h4
          split
          · rename_i h5; exact ⟨fun _ => .inr (.inr (.inr (.inr h5))), fun _ => by decide⟩
          · rename_i h5
            refine ⟨fun h9 => absurd rfl h9, fun h9 => ?_⟩
            rcases h9 with h9 | h9 | h9 | h9 | h9
            · exact absurd h9 h
            · exact absurd h9 h2
            · exact absurd h9 h3
            · exact absurd h9 h4
            · exact absurd h9 h5
theorem ref_fu (s : DS) (n seq size : Int) (ws : List Wr) : refE (fuS s n) seq size ws = refE s seq size ws := by
  obtain ⟨e1, _, e3, e4⟩ := fu_same s n
  unfold refE; rw [e1, e3, e4]
theorem upd_no {s : DS} {seq size : Int} {ws : List Wr} (h : refE s seq size ws ≠ 0) : updR s seq size ws = (refE s seq size ws, s) := by unfold updR; rw [if_pos h]
theorem bi_cond {b : Bk} {C : Nat} (h : BI b C) (seq size : Int) (ws : List Wr) : (b.s.dead = true ∨ b.rest = false ∨ (mayR b.now seq size ws).2.2 = false ∨ b.s.room < (mayR b.now seq size ws).2.1) ↔ refE b.s seq size ws ≠ 0 := by
  rw [ref_ne]
  cases hd : b.s.dead with
  | true => exact ⟨fun _ => .inr (.inl rfl), fun _ => .inl rfl⟩
  | false =>
    obtain ⟨i, e, o, h1, h2⟩ := h.live hd
    cases hr : b.rest with
    | false => exact ⟨fun _ => .inr (.inr (.inr (.inl (.inl (h2 hr).1)))), fun _ => .inr (.inl rfl)⟩
    | true =>
      rw [(h1 hr).1]
      cases hm : (mayR b.now seq size ws).2.2 with
      | true =>
        obtain ⟨m1, m2, m3, m4, m5, m6⟩ := may_true hm
        obtain ⟨u1, u2, u3⟩ := aplE_0 m2
        rw [m1]
        refine ⟨fun h9 => ?_, fun h9 => ?_⟩
        · rcases h9 with h9 | h9 | h9 | h9
          · cases h9
          · cases h9
          · cases h9
          · exact .inr (.inr (.inr (.inr h9)))
        · rcases h9 with h9 | h9 | h9 | h9 | h9
          · omega
          · cases h9
          · exact absurd m2 h9
          · rcases h9 with h9 | h9
            · exact absurd m5 h9
            · exact absurd m6 h9
          · exact .inr (.inr (.inr h9))
      | false =>
        refine ⟨fun _ => ?_, fun _ => .inr (.inr (.inl rfl))⟩
        by_cases hb : aplE b.now.length size ws ≠ 0 ∨ inF seq = false ∨ 16777216 < filU b.now size ws
        · rcases hb with hb | hb | hb
          · exact .inr (.inr (.inl hb))
          · unfold inF at hb
            have := of_decide_eq_false hb
            exact .inl (by omega)
          · have := h.ok.room1
            exact .inr (.inr (.inr (.inr (by omega))))
        · rw [may_yes hb] at hm
          simp only [Bool.and_eq_false_iff, decide_eq_false_iff_not] at hm
          exact .inr (.inr (.inr (.inl hm)))
theorem bi_no {b : Bk} {C : Nat} (h : BI b C) {f seq size : Int} {ws : List Wr} (hf : f ≤ 9223372036854775807) (hr : refE b.s seq size ws ≠ 0) : updR (fuS b.s f) seq size ws = (refE b.s seq size ws, fuS b.s f) ∧ BI { b with s := fuS (fuS b.s f) (-1) } C := by
  have e := ref_fu b.s f seq size ws
  refine ⟨by rw [upd_no (by rw [e]; exact hr), e], bi_fuse (bi_fuse h hf) (by omega)⟩
theorem upd_room (s : DS) (seq size : Int) (ws : List Wr) : (updR s seq size ws).2.room = s.room := by
  unfold updR; split
  · rfl
  · exact runS_room _ _
theorem rec_room (s : DS) : (recS s).room = s.room := by
  unfold recS; split
  · rfl
  · exact runS_room _ _
theorem bi_upd {b : Bk} {C : Nat} (h : BI b C) {f seq size : Int} {ws : List Wr} (hf : f ≤ 9223372036854775807) (hr : refE b.s seq size ws = 0) :
    b.s.now = b.now ∧ (((updR (fuS b.s f) seq size ws).1 = 0 ∧ (updR (fuS b.s f) seq size ws).2.dead = false ∧ (updR (fuS b.s f) seq size ws).2.now = aplR b.now size ws ∧ BI ⟨(updR (fuS b.s f) seq size ws).2, aplR b.now size ws, b.next, b.op, b.rest⟩ (C + (20 + ws.length))) ∨
      ((updR (fuS b.s f) seq size ws).1 = 12 ∧ 0 ≤ f ∧ (updR (fuS b.s f) seq size ws).2.dead = true ∧ BI ⟨(updR (fuS b.s f) seq size ws).2, b.now, aplR b.now size ws, true, false⟩ (C + (20 + ws.length)))) := by
  have h9 := (not_congr (bi_cond h seq size ws)).2 (fun h9 => h9 hr)
  simp only [not_or] at h9
  obtain ⟨c1, c2, c3, c4⟩ := h9
  have hd : b.s.dead = false := by simpa using c1
  have hrt : b.rest = true := by simpa using c2
  obtain ⟨i, e, o, h1, h2⟩ := h.live hd
  obtain ⟨hn, hb⟩ := h1 hrt
  obtain ⟨m1, m2, m3, m4, m5, m6⟩ := may_true (by simpa using c3 : (mayR b.now seq size ws).2.2 = true)
  obtain ⟨i1, i2, i3, i4⟩ := idle_fuse i f
  obtain ⟨e1, e2, e3, e4⟩ := fu_same b.s f
  have hl := aplR_len b.now size ws
  obtain ⟨k1, k2⟩ := upd_run i1 ((ref_fu b.s f seq size ws).trans hr) (by rw [e1, hn]; exact h.len)
  rw [i3, e1, hn] at k1 k2
  have ho := upd_ok (fuS_ok h.ok hf) seq size ws
  have hb9 := upd_b (fuS_ok h.ok hf) (fuS_b hb f) seq size ws
  refine ⟨hn, ?_⟩
  by_cases hc : max f (-1) < 0 ∨ ((opsU b.now seq size ws).length : Int) ≤ max f (-1)
  · obtain ⟨b1, b2, b3⟩ := k1 hc
    refine .inl ⟨b1, b2.dead, b3, ⟨ho, m6, hl, fun h9 => (by rw [o] at h9; cases h9), fun _ => ⟨b2, ?_, o, fun _ => ⟨b3, hb9.up (by omega)⟩, fun h9 => (by rw [hrt] at h9; cases h9)⟩, fun h9 => ?_⟩⟩
    · show (lkV (updR (fuS b.s f) seq size ws).2.now).2 = _
      rw [b3, (quiet_self m6).1]
    · exact absurd (b2.dead.symm.trans h9) (by simp)
  · obtain ⟨b1, b2, b3⟩ := k2 (by omega) (by omega)
    refine .inr ⟨b1, by omega, b2, ⟨ho, h.q, h.len, fun _ => ⟨m6, hl⟩, fun h9 => absurd (b2.symm.trans h9) (by simp), fun _ => ⟨hb9.up (by omega), fun ch => ?_⟩⟩⟩
    rcases (b3 ch).2.1 with h9 | h9
    · exact .inl h9
    · exact .inr ⟨rfl, h9⟩
theorem bi_rec {b : Bk} {C : Nat} (h : BI b C) {f : Int} (hf : f ≤ 9223372036854775807) :
    ((recV (fuS b.s f)).2 = 0 ∧ b.s.dead = false ∧ (recS (fuS b.s f)).now = b.now ∧ BI ⟨recS (fuS b.s f), b.now, b.next, b.op, true⟩ C) ∨
      ((recV (fuS b.s f)).2 = 12 ∧ (b.s.dead = true ∨ 0 ≤ f) ∧ (recS (fuS b.s f)).dead = true ∧ BI ⟨recS (fuS b.s f), b.now, b.next, b.op, b.rest⟩ C) := by
  cases hd : b.s.dead with
  | true =>
    rw [fu_dead hd]
    obtain ⟨r1, r2⟩ := rec_dead hd
    rw [r1, r2]
    exact .inr ⟨rfl, .inl rfl, hd, h⟩
  | false =>
    obtain ⟨i, e, o, h1, h2⟩ := h.live hd
    obtain ⟨i1, i2, i3, i4⟩ := idle_fuse i f
    obtain ⟨e1, e2, e3, e4⟩ := fu_same b.s f
    cases hr : b.rest with
    | true =>
      obtain ⟨hn, hb⟩ := h1 hr
      obtain ⟨r1, r2⟩ := rec_none (s := fuS b.s f) (e3.trans hd) (by rw [e1, hn]; exact h.q)
      rw [r1, r2]
      have := bi_fuse h hf
      have e9 : (⟨fuS b.s f, b.now, b.next, b.op, true⟩ : Bk) = { b with s := fuS b.s f } := by rw [← hr]
      rw [e9]
      exact .inl ⟨rfl, rfl, e1.trans hn, this⟩
    | false =>
      obtain ⟨hq, hb⟩ := h2 hr
      have hro : ((fuS b.s f).now.length : Int) ≤ (fuS b.s f).room := (fuS_ok h.ok hf).now
      obtain ⟨k1, k2⟩ := rec_run i1 hro
      rw [i3, e1, e] at k1 k2
      obtain ⟨ho, _, hb9⟩ := rec_keeps (fuS_ok h.ok hf) (fuS_b hb f)
      by_cases hc : max f (-1) < 0 ∨ ((opsR b.s.now).length : Int) ≤ max f (-1)
      · obtain ⟨b1, b2, b3, b4⟩ := k1 hc
        obtain ⟨r1, r2⟩ := rec_ok (s := fuS b.s f) (e3.trans hd) (by rw [e1]; exact b1)
        rw [e1] at r2
        have hx : (recS (fuS b.s f)).now = b.now := by rw [r2]; exact b3
        have hi : Idle (recS (fuS b.s f)) := by rw [r2]; exact b2
        refine .inl ⟨by rw [r1], rfl, hx, ⟨ho, h.q, h.len, h.op, fun _ => ⟨hi, ?_, o, fun _ => ⟨hx, hb9.up (by omega)⟩, fun h9 => by cases h9⟩, fun h9 => absurd (hi.dead.symm.trans h9) (by simp)⟩⟩
        show (lkV (recS (fuS b.s f)).now).2 = b.now
        rw [hx, (quiet_self h.q).1]
      · obtain ⟨b1, b2, b3⟩ := k2 (by omega) (by omega)
        obtain ⟨r1, r2⟩ := rec_bad (s := fuS b.s f) (e3.trans hd) (by rw [e1, b1]; decide)
        rw [e1] at r1 r2
        have hx : (recS (fuS b.s f)).dead = true := by rw [r2]; exact b2
        refine .inr ⟨by rw [r1]; exact b1, .inr (by omega), hx, ⟨ho, h.q, h.len, h.op, fun h9 => absurd (hx.symm.trans h9) (by simp), fun _ => ⟨hb9.up (by omega), fun ch => .inl ?_⟩⟩⟩
        show (lkV (outS (recS (fuS b.s f)) ch)).2 = b.now
        rw [r2]
        exact b3 h.q ch
theorem bi_crash {b : Bk} {C : Nat} (h : BI b C) (ch : Ch) (x n : List UInt8) (im : List UInt8) (him : im = outS b.s ch) (hx : (lkV im).2 = x) (hn : x = n) (h1 : n = b.now ∨ (b.op = true ∧ n = b.next)) (nx : List UInt8) :
    BI ⟨newS im b.s.room, n, nx, false, decide ((lkV im).1.1 = 0)⟩ C := by
  have hl := outN_le h.ok ch
  rw [← outS_length, ← him] at hl
  have hq : (lkV n).1.1 = 0 ∧ n.length ≤ 16777216 := by
    rcases h1 with h1 | ⟨h1, h2⟩
    · rw [h1]; exact ⟨h.q, h.len⟩
    · rw [h2]; exact h.op h1
  refine ⟨newS_ok h.ok.room0 h.ok.room1 hl, hq.1, hq.2, (by simp), fun _ => ⟨idle_new _ _, hx.trans hn, rfl, fun h9 => ⟨?_, newS_b _ _ _⟩, fun h9 => ⟨of_decide_eq_false h9, newS_b _ _ _⟩⟩, fun h9 => absurd h9 (by simp [newS])⟩
  show im = n
  rw [← hn, ← hx, (quiet_self (of_decide_eq_true h9)).1]
theorem bi_new {c : List UInt8} {cap : Int} (h1 : (c.length : Int) ≤ cap) (h2 : cap ≤ 16777216) (hq : (lkV c).1.1 = 0) : BI ⟨newS c cap, c, [], false, true⟩ 0 :=
  ⟨newS_ok (by omega) h2 h1, hq, by show c.length ≤ _; omega, (by simp), fun _ => ⟨idle_new _ _, by show (lkV c).2 = c; rw [(quiet_self hq).1], rfl, fun _ => ⟨rfl, newS_b _ _ _⟩, fun h9 => by cases h9⟩, fun h9 => absurd h9 (by simp [newS])⟩
set_option maxHeartbeats 1600000
theorem bkupd_spec (w0 w : World) (hT : Tab 0 (hp w0)) (q P : Nat) (bk : Bk) (C : Nat) (cap : Int) (hcap : bk.s.room = cap) (a1 : Option Addr) (c1 : Nat) (vy vx : Value) (hvy : bk.op = true → vy = vx) (hs : St ⟨w0, None_⟩ w [diskA 85 127 5 3 P bk.s, cb q 78 [.pointer (some ⟨P, 0, none⟩), .slice a1 bk.now.length c1, vy, .bool bk.op, .bool bk.rest, .int .i64 cap], slB 5 (.slice a1 bk.now.length c1) bk.now, slB 5 (vx) bk.next]) (hb : BI bk C) (hC : C ≤ 23000000) (kd seq size : Int) (aw : Option Addr) (cw : Nat) (ws : List Wr) (hrw : RdS wF 2 (hp w0) (.slice aw ws.length cw) ws) (hlw : ws.length ≤ 1048576) (hgd : ∀ z ∈ ws, RdB (hp w0) (.slice z.2.1 z.2.2.2.length z.2.2.1) z.2.2.2 ∧ z.2.2.2.length ≤ 1048576) (f : Int) (hfu : f ≤ 9223372036854775807) (ch : ChQ) : Calls Tryz.prog 73 #[.pointer (some ⟨q, 0, none⟩), .agg #[.int .i64 kd, .int .i64 seq, .int .i64 size, .slice aw ws.length cw, .int .i64 f, .int .i64 ch.1, .slice ch.2.1.1 ch.2.1.2.2.length ch.2.1.2.1, .int .i64 ch.2.2]] w fun e w' => e = .returned (.bool true) ∧ ∃ (bk : Bk) (P : Nat) (a1 : Option Addr) (c1 : Nat) (vy vx : Value), bk.s.room = cap ∧ (bk.op = true → vy = vx) ∧ BI bk (C + (20 + ws.length)) ∧ St ⟨w0, None_⟩ w' [diskA 85 127 5 3 P bk.s, cb q 78 [.pointer (some ⟨P, 0, none⟩), .slice a1 bk.now.length c1, vy, .bool bk.op, .bool bk.rest, .int .i64 cap], slB 5 (.slice a1 bk.now.length c1) bk.now, slB 5 (vx) bk.next] := by
 have ho := hb.ok
 have hnw := ho.now
 have hrm := ho.room1
 have hrm0 := ho.room0
 have hlen := hb.len
 have hbb := bi_b hb
 refine c_enter (N := 169) Tryz.func73 rfl Tryz.ntmps73 (by simp) ?_
 intro a hf
 refine wp_seq ?_
 refine wp_region_lit ?_
 refine s_do hf rfl (y_box hs (hf.eval rfl) ?_); clear hf hs a; intro bx w hs a hf
 replace hs : St _ w (cb bx 81 [.int .i64 kd, .int .i64 seq, .int .i64 size, .slice aw ws.length cw, .int .i64 f, .int .i64 ch.1, .slice ch.2.1.1 ch.2.1.2.2.length ch.2.1.2.1, .int .i64 ch.2.2] :: _) := hs
 refine s_a hf rfl ?_; clear hf a; intro a hf
 refine s_nil ?_
 refine then_n ?_
 refine wp_seq ?_
 refine wp_region_lit ?_
 refine s_m hf rfl ?_; clear hf a; intro a hf
 refine s_v hf (x_nilCheck (hf.eval rfl)) ?_; clear hf a; intro a hf
 refine s_v hf (x_fieldAddr fo78_0 (hf.eval rfl)) ?_; clear hf a; intro a hf
 refine s_r hf (x_load sc24 (hf.eval rfl) (by apply hs.cell <;> repeat constructor)) ?_; clear hf a; intro a hf
 replace hs := hs.take (A := diskA 85 127 5 3 P bk.s) (by repeat constructor)
 refine s_do hf rfl (y_call (hf.eval rfl) (hf.evals rfl) Tryz.call59 ((dAlive_spec _ _ _ P bk.s hs).mono ?_))
 rintro e w1 ⟨rfl, hw9⟩
 rw [hw9]
 clear hw9 w1
 refine ⟨_, rfl, ?_⟩; clear hf a; intro a hf
 refine s_a hf rfl ?_; clear hf a; intro a hf
 refine s_nil ?_
 refine then_n ?_
 refine wp_seq ?_
 refine wp_region_lit ?_
 refine s_m hf rfl ?_; clear hf a; intro a hf
 refine s_v hf (x_nilCheck (hf.eval rfl)) ?_; clear hf a; intro a hf
 refine s_v hf (x_fieldAddr fo78_0 (hf.eval rfl)) ?_; clear hf a; intro a hf
 refine s_r hf (x_load sc24 (hf.eval rfl) (by apply hs.cell <;> repeat constructor)) ?_; clear hf a; intro a hf
 refine s_do hf rfl (y_call (hf.eval rfl) (hf.evals rfl) Tryz.call18 ((dCalls_spec _ _ _ P bk.s hs).mono ?_))
 rintro e w1 ⟨rfl, hw9⟩
 rw [hw9]
 clear hw9 w1
 refine ⟨_, rfl, ?_⟩; clear hf a; intro a hf
 refine s_a hf rfl ?_; clear hf a; intro a hf
 refine s_nil ?_
 refine then_n ?_
 refine wp_seq ?_
 refine wp_region_lit ?_
 refine s_m hf rfl ?_; clear hf a; intro a hf
 refine s_v hf (x_nilCheck (hf.eval rfl)) ?_; clear hf a; intro a hf
 refine s_v hf (x_fieldAddr fo78_0 (hf.eval rfl)) ?_; clear hf a; intro a hf
 refine s_r hf (x_load sc24 (hf.eval rfl) (by apply hs.cell <;> repeat constructor)) ?_; clear hf a; intro a hf
 refine s_do hf rfl (y_call (hf.eval rfl) (hf.evals rfl) Tryz.call21 ((dImage_spec _ _ _ P bk.s hs (by omega)).mono ?_))
 rintro e w1 ⟨ai, ci, rfl, hs⟩
 refine ⟨_, rfl, ?_⟩; clear hf a; intro a hf
 refine s_a hf rfl ?_; clear hf a; intro a hf
 refine s_nil ?_
 refine then_n ?_
 refine wp_seq ?_
 refine c_draw hs (fun _ => True) [.held, .held, .held, .read, .held, .read, .held, .read, .held, .read, .eff, .held, .held, .held, .held, .held, .held, .held] (by kernel_rfl) (by kernel_rfl) (fun _ _ _ => trivial) ?_
 clear hs; intro w hs hC hw
 refine m_held hf rfl (fun w' _ => x_move (hf.eval rfl) w') ?_; clear hf a; intro a hf
 refine m_held hf rfl (fun w' _ => x_nilCheck (hf.eval rfl) w') ?_; clear hf a; intro a hf
 refine m_held hf rfl (fun w' _ => x_fieldAddr fo78_1 (hf.eval rfl) w') ?_; clear hf a; intro a hf
 refine m_read hf rfl (x_load sc22 (hf.eval rfl) (by apply hs.cell <;> repeat constructor)) ?_; clear hf a; intro a hf
 refine m_held hf rfl (fun w' _ => x_fieldAddr fo81_1 (hf.eval rfl) w') ?_; clear hf a; intro a hf
 refine m_read hf rfl (x_load sc3 (hf.eval rfl) (by apply hs.cell <;> repeat constructor)) ?_; clear hf a; intro a hf
 refine m_held hf rfl (fun w' _ => x_fieldAddr fo81_2 (hf.eval rfl) w') ?_; clear hf a; intro a hf
 refine m_read hf rfl (x_load sc3 (hf.eval rfl) (by apply hs.cell <;> repeat constructor)) ?_; clear hf a; intro a hf
 refine m_held hf rfl (fun w' _ => x_fieldAddr fo81_3 (hf.eval rfl) w') ?_; clear hf a; intro a hf
 refine m_read hf rfl (x_load sc23 (hf.eval rfl) (by apply hs.cell <;> repeat constructor)) ?_; clear hf a; intro a hf
 refine m_eff hf rfl (y_call (hf.eval rfl) (hf.evals rfl) Tryz.call29 ((may_spec _ (hT.kept hs.kept) a1 c1 bk.now (hs.rdB (A := slB 5 (.slice a1 bk.now.length c1) bk.now) (by repeat constructor) fun h => slB_rd) hlen seq size aw cw ws (hs.old hrw) hlw (fun z hz => ⟨hs.oldB (hgd z hz).1, (hgd z hz).2⟩)).mono ?_))
 rintro e w1 ⟨ga, gc, rfl, hj⟩
 replace hs := hs.join hj
 simp only [List.cons_append, List.nil_append] at hs
 refine ⟨_, rfl, ⟨trivial, ?_⟩⟩; clear hf a; intro a hf
 refine m_held hf rfl (fun w' _ => x_move (hf.eval rfl) w') ?_; clear hf a; intro a hf
 refine m_held hf rfl (fun w' _ => x_extract (hf.eval rfl) rfl w') ?_; clear hf a; intro a hf
 refine m_held hf rfl (fun w' _ => x_extract (hf.eval rfl) rfl w') ?_; clear hf a; intro a hf
 refine m_held hf rfl (fun w' _ => x_extract (hf.eval rfl) rfl w') ?_; clear hf a; intro a hf
 refine m_held hf rfl (fun w' _ => x_assign (hf.eval rfl) w') ?_; clear hf a; intro a hf
 refine m_held hf rfl (fun w' _ => x_assign (hf.eval rfl) w') ?_; clear hf a; intro a hf
 refine m_held hf rfl (fun w' _ => x_assign (hf.eval rfl) w') ?_; clear hf a; intro a hf
 refine m_nil ?_
 refine then_n ?_
 refine wp_seq ?_
 refine c_draw hs (fun _ => True) [.held, .held, .held, .read, .held, .read, .fin] (by kernel_rfl) (by kernel_rfl) (fun _ _ _ => trivial) ?_
 clear hs; intro w hs hC hw
 refine m_held hf rfl (fun w' _ => x_move (hf.eval rfl) w') ?_; clear hf a; intro a hf
 refine m_held hf rfl (fun w' _ => x_nilCheck (hf.eval rfl) w') ?_; clear hf a; intro a hf
 refine m_held hf rfl (fun w' _ => x_fieldAddr fo78_0 (hf.eval rfl) w') ?_; clear hf a; intro a hf
 refine m_read hf rfl (x_load sc24 (hf.eval rfl) (by apply hs.cell <;> repeat constructor)) ?_; clear hf a; intro a hf
 refine m_held hf rfl (fun w' _ => x_fieldAddr fo81_4 (hf.eval rfl) w') ?_; clear hf a; intro a hf
 refine m_read hf rfl (x_load sc3 (hf.eval rfl) (by apply hs.cell <;> repeat constructor)) ?_; clear hf a; intro a hf
 replace hs := hs.take (A := diskA 85 127 5 3 P bk.s) (by repeat constructor)
 refine m_fin hf rfl (y_call (hf.eval rfl) (hf.evals rfl) Tryz.call9 ((dFuse_spec _ _ _ P _ hs f).mono ?_))
 rintro e w1 ⟨rfl, hs⟩
 refine ⟨_, rfl, ?_⟩; clear hf a; intro a hf
 refine then_n ?_
 refine wp_seq ?_
 replace hs := hs.take (A := cb bx 81 [.int .i64 kd, .int .i64 seq, .int .i64 size, .slice aw ws.length cw, .int .i64 f, .int .i64 ch.1, .slice ch.2.1.1 ch.2.1.2.2.length ch.2.1.2.1, .int .i64 ch.2.2]) (by repeat constructor)
 replace hs := hs.take (A := cb q 78 [.pointer (some ⟨P, 0, none⟩), .slice a1 bk.now.length c1, vy, .bool bk.op, .bool bk.rest, .int .i64 cap]) (by repeat constructor)
 refine c_draw hs (fun w' => (∀ (j : Nat) (v : Value), ([.pointer (some ⟨P, 0, none⟩), .slice a1 bk.now.length c1, vy, .bool bk.op, .bool bk.rest, .int .i64 cap])[j]? = some v → w'.cell? ((⟨q, 0, none⟩ : Addr).add j) = some v) ∧ ∀ (j : Nat) (v : Value), ([.int .i64 kd, .int .i64 seq, .int .i64 size, .slice aw ws.length cw, .int .i64 f, .int .i64 ch.1, .slice ch.2.1.1 ch.2.1.2.2.length ch.2.1.2.1, .int .i64 ch.2.2])[j]? = some v → w'.cell? ((⟨bx, 0, none⟩ : Addr).add j) = some v) [.held, .held, .held, .held, .held, .held, .held, .held, .held, .held, .eff, .eff, .held] (by kernel_rfl) (by kernel_rfl) (fun _ _ hs => ⟨cells_of hs (by repeat constructor), cells_of hs (by repeat constructor)⟩) ?_
 clear hs; intro w hs hC hw
 refine m_held hf rfl (fun w' _ => x_move (hf.eval rfl) w') ?_; clear hf a; intro a hf
 refine m_held hf rfl (fun w' _ => x_nilCheck (hf.eval rfl) w') ?_; clear hf a; intro a hf
 refine m_held hf rfl (fun w' _ => x_fieldAddr fo78_0 (hf.eval rfl) w') ?_; clear hf a; intro a hf
 refine m_held hf rfl (fun w' hc => x_load sc24 (hf.eval rfl) (hc.1 0 _ rfl)) ?_; clear hf a; intro a hf
 refine m_held hf rfl (fun w' _ => x_fieldAddr fo81_1 (hf.eval rfl) w') ?_; clear hf a; intro a hf
 refine m_held hf rfl (fun w' hc => x_load sc3 (hf.eval rfl) (hc.2 1 _ rfl)) ?_; clear hf a; intro a hf
 refine m_held hf rfl (fun w' _ => x_fieldAddr fo81_2 (hf.eval rfl) w') ?_; clear hf a; intro a hf
 refine m_held hf rfl (fun w' hc => x_load sc3 (hf.eval rfl) (hc.2 2 _ rfl)) ?_; clear hf a; intro a hf
 refine m_held hf rfl (fun w' _ => x_fieldAddr fo81_3 (hf.eval rfl) w') ?_; clear hf a; intro a hf
 refine m_held hf rfl (fun w' hc => x_load sc23 (hf.eval rfl) (hc.2 3 _ rfl)) ?_; clear hf a; intro a hf
 refine m_eff hf rfl (y_call (hf.eval rfl) (hf.evals rfl) Tryz.call31 ((copiedWrites_own _ aw cw ws (hs.old hrw) hlw (fun z hz => ⟨hs.oldB (hgd z hz).1, (hgd z hz).2⟩)).mono ?_))
 rintro e w1 ⟨aq, cq, us, rfl, hul, huk, hj⟩
 replace hs := hs.join hj
 simp only [List.cons_append, List.nil_append] at hs
 refine ⟨_, rfl, ⟨⟨cells_of hs (by repeat constructor), cells_of hs (by repeat constructor)⟩, ?_⟩⟩; clear hf a; intro a hf
 replace hs := hs.take (A := datA 5 (us.map toP)) (by repeat constructor)
 replace hs := hs.take (A := sl 54 2 (.slice aq us.length cq) us.length (us.flatMap wF)) (by repeat constructor)
 replace hs := hs.take (A := diskA 85 127 5 3 P (fuS bk.s f)) (by repeat constructor)
 have ho1 := fuS_ok ho hfu
 have hb1 := fuS_b hbb f
 refine m_eff hf rfl (y_call (hf.eval rfl) (hf.evals rfl) Tryz.call13 ((jupdate_spec w0 _ _ P (fuS bk.s f) hT hs ho1 _ hb1 (by omega) seq size aq cq us (RdyS.own .k0) (by omega) (fun z hz => ⟨datW_rdy .k1 z hz, dkY_len huk (fun y hy => (hgd y hy).2) z hz⟩)).mono ?_))
 rintro e w1 ⟨rfl, hs⟩
 rw [(dkY_U huk (fuS bk.s f) seq size).2.2.2.2] at hs ⊢
 obtain ⟨T, hT9⟩ : ∃ T, T = (updR (fuS bk.s f) seq size ws) := ⟨_, rfl⟩
 rw [← hT9] at hs ⊢
 have hcd := bi_cond hb seq size ws
 obtain ⟨e1, e2, e3, e4⟩ := fu_same bk.s f
 obtain ⟨e5, e6, e7, e8⟩ := fu_same (fuS bk.s f) (-1)
 refine ⟨_, rfl, ⟨⟨cells_of hs (by repeat constructor), cells_of hs (by repeat constructor)⟩, ?_⟩⟩; clear hf a; intro a hf
 refine m_held hf rfl (fun w' _ => x_assign (hf.eval rfl) w') ?_; clear hf a; intro a hf
 refine m_nil ?_
 refine then_n ?_
 refine wp_seq ?_
 refine c_join (N := 169) (L0 := [(0, _), (3, _), (4, _), (5, _), (6, _), (7, _), (8, _), (11, _)]) (fun M w => M = [(81, .bool (decide (refE bk.s seq size ws ≠ 0)))] ∧ St ⟨w0, None_⟩ w [diskA 85 127 5 3 P T.2, cb q 78 [.pointer (some ⟨P, 0, none⟩), .slice a1 bk.now.length c1, vy, .bool bk.op, .bool bk.rest, .int .i64 cap], slB 5 (.slice a1 bk.now.length c1) bk.now, slB 5 (vx) bk.next, slB 5 (.slice ga (mayR bk.now seq size ws).1.length gc) (mayR bk.now seq size ws).1, slB 5 (.slice ai bk.s.now.length ci) bk.s.now, cb bx 81 [.int .i64 kd, .int .i64 seq, .int .i64 size, .slice aw ws.length cw, .int .i64 f, .int .i64 ch.1, .slice ch.2.1.1 ch.2.1.2.2.length ch.2.1.2.1, .int .i64 ch.2.2]]) (hf.sub ⟨rfl, rfl, rfl, rfl, rfl, rfl, rfl, rfl, trivial⟩) ?_ ?_
 ·refine wp_region_lit ?_
  refine s_m hf rfl ?_; clear hf a; intro a hf
  refine s_v hf (x_not (hf.eval rfl)) ?_; clear hf a; intro a hf
  refine s_m hf rfl ?_; clear hf a; intro a hf
  refine s_bool hf (k := 63) rfl (fun hg7_2 hf' => ?_) (fun hg7_2 hf' => ?_)
  ·clear hf
   have hf := hf'
   clear hf'
   simp only [Bool.not_not, Bool.not_eq_true', Bool.not_eq_false'] at hg7_2
   refine s_pass hf rfl rfl ?_; clear hf a; intro a hf
   refine s_pass hf rfl rfl ?_; clear hf a; intro a hf
   refine s_pass hf rfl rfl ?_; clear hf a; intro a hf
   refine s_pass hf rfl rfl ?_; clear hf a; intro a hf
   refine s_pass hf rfl rfl ?_; clear hf a; intro a hf
   refine s_v hf (x_pick_t (hf.eval rfl) (hf.eval rfl)) ?_; clear hf a; intro a hf
   refine s_m hf rfl ?_; clear hf a; intro a hf
   refine s_pass hf rfl rfl ?_; clear hf a; intro a hf
   refine s_pass hf rfl rfl ?_; clear hf a; intro a hf
   refine s_v hf (x_pick_t (hf.eval rfl) (hf.eval rfl)) ?_; clear hf a; intro a hf
   refine s_m hf rfl ?_; clear hf a; intro a hf
   refine s_pass hf rfl rfl ?_; clear hf a; intro a hf
   refine s_pass hf rfl rfl ?_; clear hf a; intro a hf
   refine s_pass hf rfl rfl ?_; clear hf a; intro a hf
   refine s_pass hf rfl rfl ?_; clear hf a; intro a hf
   refine s_pass hf rfl rfl ?_; clear hf a; intro a hf
   refine s_pass hf rfl rfl ?_; clear hf a; intro a hf
   refine s_v hf (x_pick_t (hf.eval rfl) (hf.eval rfl)) ?_; clear hf a; intro a hf
   refine s_nil ?_
   refine then_n ?_
   replace hs := hs.take (A := cb bx 81 [.int .i64 kd, .int .i64 seq, .int .i64 size, .slice aw ws.length cw, .int .i64 f, .int .i64 ch.1, .slice ch.2.1.1 ch.2.1.2.2.length ch.2.1.2.1, .int .i64 ch.2.2]) (by repeat constructor)
   replace hs := hs.take (A := slB 5 (.slice ai bk.s.now.length ci) bk.s.now) (by repeat constructor)
   replace hs := hs.take (A := slB 5 (.slice ga (mayR bk.now seq size ws).1.length gc) (mayR bk.now seq size ws).1) (by repeat constructor)
   replace hs := hs.take (A := slB 5 (vx) bk.next) (by repeat constructor)
   replace hs := hs.take (A := slB 5 (.slice a1 bk.now.length c1) bk.now) (by repeat constructor)
   replace hs := hs.take (A := cb q 78 [.pointer (some ⟨P, 0, none⟩), .slice a1 bk.now.length c1, vy, .bool bk.op, .bool bk.rest, .int .i64 cap]) (by repeat constructor)
   replace hs := hs.take (A := diskA 85 127 5 3 P T.2) (by repeat constructor)
   replace hs := St.keep [_, _, _, _, _, _, _] _ hs
   replace hf := hf.now (k := 81) (v' := .bool (decide (refE bk.s seq size ws ≠ 0))) rfl (by first | exact congrArg Value.bool (decide_eq_true (hcd.1 (.inl hg7_2))).symm | exact congrArg Value.bool (decide_eq_true (hcd.1 (.inr (.inl hg7_9)))).symm | exact congrArg Value.bool (decide_eq_true (hcd.1 (.inr (.inr (.inl hg7_13))))).symm | exact congrArg Value.bool (decide_eq_decide.2 ⟨fun h => hcd.1 (.inr (.inr (.inr (hcap ▸ h)))), fun h => (by rw [← hcd, hg7_2, hg7_9, hg7_13, hcap] at h; simpa using h)⟩))
   exact ⟨_, ⟨rfl, hs⟩, hf.sub ⟨rfl, rfl, rfl, rfl, rfl, rfl, rfl, rfl, rfl, trivial⟩⟩
  clear hf
  have hf := hf'
  clear hf'
  simp only [Bool.not_not, Bool.not_eq_true', Bool.not_eq_false'] at hg7_2
  refine s_do hf (wanted_of hf rfl rfl rfl) (.value (x_move (hf.eval rfl) _) ?_); clear hf a; intro a hf
  refine s_do hf (wanted_of hf rfl rfl rfl) (.value (x_nilCheck (hf.eval rfl) _) ?_); clear hf a; intro a hf
  refine s_do hf (wanted_of hf rfl rfl rfl) (.value (x_fieldAddr fo78_4 (hf.eval rfl) _) ?_); clear hf a; intro a hf
  refine s_do hf (wanted_of hf rfl rfl rfl) (.value (x_load sc4 (hf.eval rfl) (by apply hs.cell <;> repeat constructor)) ?_); clear hf a; intro a hf
  refine s_do hf (wanted_of hf rfl rfl rfl) (.value (x_not (hf.eval rfl) _) ?_); clear hf a; intro a hf
  refine s_v hf (x_pick_f (hf.eval rfl) (hf.eval rfl)) ?_; clear hf a; intro a hf
  refine s_m hf rfl ?_; clear hf a; intro a hf
  refine s_bool hf (k := 70) rfl (fun hg7_9 hf' => ?_) (fun hg7_9 hf' => ?_)
  ·clear hf
   have hf := hf'
   clear hf'
   simp only [Bool.not_eq_true', Bool.not_eq_false'] at hg7_9
   refine s_pass hf rfl rfl ?_; clear hf a; intro a hf
   refine s_pass hf rfl rfl ?_; clear hf a; intro a hf
   refine s_v hf (x_pick_t (hf.eval rfl) (hf.eval rfl)) ?_; clear hf a; intro a hf
   refine s_m hf rfl ?_; clear hf a; intro a hf
   refine s_pass hf rfl rfl ?_; clear hf a; intro a hf
   refine s_pass hf rfl rfl ?_; clear hf a; intro a hf
   refine s_pass hf rfl rfl ?_; clear hf a; intro a hf
   refine s_pass hf rfl rfl ?_; clear hf a; intro a hf
   refine s_pass hf rfl rfl ?_; clear hf a; intro a hf
   refine s_pass hf rfl rfl ?_; clear hf a; intro a hf
   refine s_v hf (x_pick_t (hf.eval rfl) (hf.eval rfl)) ?_; clear hf a; intro a hf
   refine s_nil ?_
   refine then_n ?_
   replace hs := hs.take (A := cb bx 81 [.int .i64 kd, .int .i64 seq, .int .i64 size, .slice aw ws.length cw, .int .i64 f, .int .i64 ch.1, .slice ch.2.1.1 ch.2.1.2.2.length ch.2.1.2.1, .int .i64 ch.2.2]) (by repeat constructor)
   replace hs := hs.take (A := slB 5 (.slice ai bk.s.now.length ci) bk.s.now) (by repeat constructor)
   replace hs := hs.take (A := slB 5 (.slice ga (mayR bk.now seq size ws).1.length gc) (mayR bk.now seq size ws).1) (by repeat constructor)
   replace hs := hs.take (A := slB 5 (vx) bk.next) (by repeat constructor)
   replace hs := hs.take (A := slB 5 (.slice a1 bk.now.length c1) bk.now) (by repeat constructor)
   replace hs := hs.take (A := cb q 78 [.pointer (some ⟨P, 0, none⟩), .slice a1 bk.now.length c1, vy, .bool bk.op, .bool bk.rest, .int .i64 cap]) (by repeat constructor)
   replace hs := hs.take (A := diskA 85 127 5 3 P T.2) (by repeat constructor)
   replace hs := St.keep [_, _, _, _, _, _, _] _ hs
   replace hf := hf.now (k := 81) (v' := .bool (decide (refE bk.s seq size ws ≠ 0))) rfl (by first | exact congrArg Value.bool (decide_eq_true (hcd.1 (.inl hg7_2))).symm | exact congrArg Value.bool (decide_eq_true (hcd.1 (.inr (.inl hg7_9)))).symm | exact congrArg Value.bool (decide_eq_true (hcd.1 (.inr (.inr (.inl hg7_13))))).symm | exact congrArg Value.bool (decide_eq_decide.2 ⟨fun h => hcd.1 (.inr (.inr (.inr (hcap ▸ h)))), fun h => (by rw [← hcd, hg7_2, hg7_9, hg7_13, hcap] at h; simpa using h)⟩))
   exact ⟨_, ⟨rfl, hs⟩, hf.sub ⟨rfl, rfl, rfl, rfl, rfl, rfl, rfl, rfl, rfl, trivial⟩⟩
  clear hf
  have hf := hf'
  clear hf'
  simp only [Bool.not_eq_true', Bool.not_eq_false'] at hg7_9
  refine s_do hf (wanted_of hf rfl rfl rfl) (.value (x_move (hf.eval rfl) _) ?_); clear hf a; intro a hf
  refine s_do hf (wanted_of hf rfl rfl rfl) (.value (x_not (hf.eval rfl) _) ?_); clear hf a; intro a hf
  refine s_v hf (x_pick_f (hf.eval rfl) (hf.eval rfl)) ?_; clear hf a; intro a hf
  refine s_m hf rfl ?_; clear hf a; intro a hf
  refine s_bool hf (k := 74) rfl (fun hg7_13 hf' => ?_) (fun hg7_13 hf' => ?_)
  ·clear hf
   have hf := hf'
   clear hf'
   simp only [Bool.not_eq_true', Bool.not_eq_false'] at hg7_13
   refine s_pass hf rfl rfl ?_; clear hf a; intro a hf
   refine s_pass hf rfl rfl ?_; clear hf a; intro a hf
   refine s_pass hf rfl rfl ?_; clear hf a; intro a hf
   refine s_pass hf rfl rfl ?_; clear hf a; intro a hf
   refine s_pass hf rfl rfl ?_; clear hf a; intro a hf
   refine s_pass hf rfl rfl ?_; clear hf a; intro a hf
   refine s_v hf (x_pick_t (hf.eval rfl) (hf.eval rfl)) ?_; clear hf a; intro a hf
   refine s_nil ?_
   refine then_n ?_
   replace hs := hs.take (A := cb bx 81 [.int .i64 kd, .int .i64 seq, .int .i64 size, .slice aw ws.length cw, .int .i64 f, .int .i64 ch.1, .slice ch.2.1.1 ch.2.1.2.2.length ch.2.1.2.1, .int .i64 ch.2.2]) (by repeat constructor)
   replace hs := hs.take (A := slB 5 (.slice ai bk.s.now.length ci) bk.s.now) (by repeat constructor)
   replace hs := hs.take (A := slB 5 (.slice ga (mayR bk.now seq size ws).1.length gc) (mayR bk.now seq size ws).1) (by repeat constructor)
   replace hs := hs.take (A := slB 5 (vx) bk.next) (by repeat constructor)
   replace hs := hs.take (A := slB 5 (.slice a1 bk.now.length c1) bk.now) (by repeat constructor)
   replace hs := hs.take (A := cb q 78 [.pointer (some ⟨P, 0, none⟩), .slice a1 bk.now.length c1, vy, .bool bk.op, .bool bk.rest, .int .i64 cap]) (by repeat constructor)
   replace hs := hs.take (A := diskA 85 127 5 3 P T.2) (by repeat constructor)
   replace hs := St.keep [_, _, _, _, _, _, _] _ hs
   replace hf := hf.now (k := 81) (v' := .bool (decide (refE bk.s seq size ws ≠ 0))) rfl (by first | exact congrArg Value.bool (decide_eq_true (hcd.1 (.inl hg7_2))).symm | exact congrArg Value.bool (decide_eq_true (hcd.1 (.inr (.inl hg7_9)))).symm | exact congrArg Value.bool (decide_eq_true (hcd.1 (.inr (.inr (.inl hg7_13))))).symm | exact congrArg Value.bool (decide_eq_decide.2 ⟨fun h => hcd.1 (.inr (.inr (.inr (hcap ▸ h)))), fun h => (by rw [← hcd, hg7_2, hg7_9, hg7_13, hcap] at h; simpa using h)⟩))
   exact ⟨_, ⟨rfl, hs⟩, hf.sub ⟨rfl, rfl, rfl, rfl, rfl, rfl, rfl, rfl, rfl, trivial⟩⟩
  clear hf
  have hf := hf'
  clear hf'
  simp only [Bool.not_eq_true', Bool.not_eq_false'] at hg7_13
  refine s_do hf (wanted_of hf rfl rfl rfl) (.value (x_move (hf.eval rfl) _) ?_); clear hf a; intro a hf
  refine s_do hf (wanted_of hf rfl rfl rfl) (.value (x_move (hf.eval rfl) _) ?_); clear hf a; intro a hf
  refine s_do hf (wanted_of hf rfl rfl rfl) (.value (x_nilCheck (hf.eval rfl) _) ?_); clear hf a; intro a hf
  refine s_do hf (wanted_of hf rfl rfl rfl) (.value (x_fieldAddr fo78_5 (hf.eval rfl) _) ?_); clear hf a; intro a hf
  refine s_do hf (wanted_of hf rfl rfl rfl) (.value (x_load sc3 (hf.eval rfl) (by apply hs.cell <;> repeat constructor)) ?_); clear hf a; intro a hf
  refine s_do hf (wanted_of hf rfl rfl rfl) (.value (x_bin (hf.eval rfl) (hf.eval rfl) (r_gt _ _ _ _) _) ?_); clear hf a; intro a hf
  refine s_v hf (x_pick_f (hf.eval rfl) (hf.eval rfl)) ?_; clear hf a; intro a hf
  refine s_nil ?_
  refine then_n ?_
  replace hs := hs.take (A := cb bx 81 [.int .i64 kd, .int .i64 seq, .int .i64 size, .slice aw ws.length cw, .int .i64 f, .int .i64 ch.1, .slice ch.2.1.1 ch.2.1.2.2.length ch.2.1.2.1, .int .i64 ch.2.2]) (by repeat constructor)
  replace hs := hs.take (A := slB 5 (.slice ai bk.s.now.length ci) bk.s.now) (by repeat constructor)
  replace hs := hs.take (A := slB 5 (.slice ga (mayR bk.now seq size ws).1.length gc) (mayR bk.now seq size ws).1) (by repeat constructor)
  replace hs := hs.take (A := slB 5 (vx) bk.next) (by repeat constructor)
  replace hs := hs.take (A := slB 5 (.slice a1 bk.now.length c1) bk.now) (by repeat constructor)
  replace hs := hs.take (A := cb q 78 [.pointer (some ⟨P, 0, none⟩), .slice a1 bk.now.length c1, vy, .bool bk.op, .bool bk.rest, .int .i64 cap]) (by repeat constructor)
  replace hs := hs.take (A := diskA 85 127 5 3 P T.2) (by repeat constructor)
  replace hs := St.keep [_, _, _, _, _, _, _] _ hs
  replace hf := hf.now (k := 81) (v' := .bool (decide (refE bk.s seq size ws ≠ 0))) rfl (by first | exact congrArg Value.bool (decide_eq_true (hcd.1 (.inl hg7_2))).symm | exact congrArg Value.bool (decide_eq_true (hcd.1 (.inr (.inl hg7_9)))).symm | exact congrArg Value.bool (decide_eq_true (hcd.1 (.inr (.inr (.inl hg7_13))))).symm | exact congrArg Value.bool (decide_eq_decide.2 ⟨fun h => hcd.1 (.inr (.inr (.inr (hcap ▸ h)))), fun h => (by rw [← hcd, hg7_2, hg7_9, hg7_13, hcap] at h; simpa using h)⟩))
  exact ⟨_, ⟨rfl, hs⟩, hf.sub ⟨rfl, rfl, rfl, rfl, rfl, rfl, rfl, rfl, rfl, trivial⟩⟩
 clear hf hs a
 rintro M a w ⟨rfl, hs⟩ hf
 refine c_cond hf rfl (fun hi0 => ?_) (fun hi0 => ?_)
 ·first | simp only [zd1, zd2, zd3, zd4, ne_eq, Classical.not_not] at hi0 | skip
  obtain ⟨n1, n2⟩ := bi_no hb hfu hi0
  have t1 : T.1 = refE bk.s seq size ws := by rw [hT9, n1]
  have t2 : T.2 = (fuS bk.s f) := by rw [hT9, n1]
  rw [t2] at hs
  replace e5 := e5.trans e1
  replace e6 := e6.trans e2
  replace e7 := e7.trans e3
  replace e8 := e8.trans e4
  refine wp_seq ?_
  refine wp_region_lit ?_
  refine s_m hf rfl ?_; clear hf a; intro a hf
  refine s_v hf (x_nilCheck (hf.eval rfl)) ?_; clear hf a; intro a hf
  refine s_v hf (x_fieldAddr fo78_0 (hf.eval rfl)) ?_; clear hf a; intro a hf
  refine s_r hf (x_load sc24 (hf.eval rfl) (by apply hs.cell <;> repeat constructor)) ?_; clear hf a; intro a hf
  replace hs := hs.take (A := diskA 85 127 5 3 P (fuS bk.s f)) (by repeat constructor)
  refine s_do hf rfl (y_call (hf.eval rfl) (hf.evals rfl) Tryz.call9 ((dFuse_spec _ _ _ P _ hs (-1)).mono ?_))
  rintro e w1 ⟨rfl, hs⟩
  refine ⟨_, rfl, ?_⟩; clear hf a; intro a hf
  refine s_nil ?_
  refine then_n ?_
  refine wp_seq ?_
  refine wp_region_lit ?_
  refine s_m hf rfl ?_; clear hf a; intro a hf
  refine s_do hf rfl (y_call (hf.eval rfl) (hf.evals rfl) Tryz.call17 ((num_spec _ _).mono ?_))
  rintro e w1 ⟨rfl, hw9⟩
  rw [hw9]
  clear hw9 w1
  refine ⟨_, rfl, ?_⟩; clear hf a; intro a hf
  refine s_v hf (x_bin (hf.eval rfl) (hf.eval rfl) (r_ne _ _ _ _)) ?_; clear hf a; intro a hf
  refine s_m hf rfl ?_; clear hf a; intro a hf
  replace hf := hf.now (k := 90) (v' := .bool true) rfl (congrArg Value.bool (by rw [t1]; simpa using hi0))
  refine s_do hf (wanted_of hf rfl rfl rfl) (.value (x_move (hf.eval rfl) _) ?_); clear hf a; intro a hf
  refine s_do hf (wanted_of hf rfl rfl rfl) (.value (x_nilCheck (hf.eval rfl) _) ?_); clear hf a; intro a hf
  refine s_do hf (wanted_of hf rfl rfl rfl) (.value (x_fieldAddr fo78_0 (hf.eval rfl) _) ?_); clear hf a; intro a hf
  refine s_do hf (wanted_of hf rfl rfl rfl) (.value (x_load sc24 (hf.eval rfl) (by apply hs.cell <;> repeat constructor)) ?_); clear hf a; intro a hf
  replace hs := hs.take (A := diskA 85 127 5 3 P (fuS (fuS bk.s f) (-1))) (by repeat constructor)
  refine s_do hf (wanted_of hf rfl rfl rfl) (y_call (hf.eval rfl) (hf.evals rfl) Tryz.call18 ((dCalls_spec _ _ _ P (fuS (fuS bk.s f) (-1)) hs).mono ?_))
  rintro e w1 ⟨rfl, hw9⟩
  rw [hw9]
  clear hw9 w1
  refine ⟨_, rfl, ?_⟩; clear hf a; intro a hf
  refine s_do hf (wanted_of hf rfl rfl rfl) (.value (x_move (hf.eval rfl) _) ?_); clear hf a; intro a hf
  refine s_do hf (wanted_of hf rfl rfl rfl) (.value (x_bin (hf.eval rfl) (hf.eval rfl) (r_eq _ _ _ _) _) ?_); clear hf a; intro a hf
  refine s_v hf (x_pick_t (hf.eval rfl) (hf.eval rfl)) ?_; clear hf a; intro a hf
  refine s_m hf rfl ?_; clear hf a; intro a hf
  replace hf := hf.now (k := 99) (v' := .bool true) rfl (congrArg Value.bool (by rw [e6]; simp))
  refine s_do hf (wanted_of hf rfl rfl rfl) (.value (x_move (hf.eval rfl) _) ?_); clear hf a; intro a hf
  refine s_do hf (wanted_of hf rfl rfl rfl) (.value (x_nilCheck (hf.eval rfl) _) ?_); clear hf a; intro a hf
  refine s_do hf (wanted_of hf rfl rfl rfl) (.value (x_fieldAddr fo78_0 (hf.eval rfl) _) ?_); clear hf a; intro a hf
  refine s_do hf (wanted_of hf rfl rfl rfl) (.value (x_load sc24 (hf.eval rfl) (by apply hs.cell <;> repeat constructor)) ?_); clear hf a; intro a hf
  refine s_do hf (wanted_of hf rfl rfl rfl) (y_call (hf.eval rfl) (hf.evals rfl) Tryz.call21 ((dImage_spec _ _ _ P (fuS (fuS bk.s f) (-1)) hs (by rw [e5]; omega)).mono ?_))
  rintro e w1 ⟨ak, ck, rfl, hs⟩
  rw [e5] at hs ⊢
  refine ⟨_, rfl, ?_⟩; clear hf a; intro a hf
  refine s_do hf (wanted_of hf rfl rfl rfl) (.value (x_move (hf.eval rfl) _) ?_); clear hf a; intro a hf
  refine s_do hf (wanted_of hf rfl rfl rfl) (y_call (hf.eval rfl) (hf.evals rfl) Tryz.call20 ((same_spec _ _ _ bk.s.now (hs.rdB .k0 fun h => slB_rd) _ _ bk.s.now (hs.rdB (A := slB 5 (.slice ai bk.s.now.length ci) bk.s.now) (by repeat constructor) fun h => slB_rd) (by omega)).mono ?_))
  rintro e w1 ⟨rfl, hk⟩
  replace hs := hs.ext hk
  refine ⟨_, rfl, ?_⟩; clear hf a; intro a hf
  refine s_v hf (x_pick_t (hf.eval rfl) (hf.eval rfl)) ?_; clear hf a; intro a hf
  refine s_m hf rfl ?_; clear hf a; intro a hf
  replace hf := hf.now (k := 108) (v' := .bool true) rfl (congrArg Value.bool (by simp))
  refine s_do hf (wanted_of hf rfl rfl rfl) (.value (x_move (hf.eval rfl) _) ?_); clear hf a; intro a hf
  refine s_do hf (wanted_of hf rfl rfl rfl) (.value (x_nilCheck (hf.eval rfl) _) ?_); clear hf a; intro a hf
  refine s_do hf (wanted_of hf rfl rfl rfl) (.value (x_fieldAddr fo78_0 (hf.eval rfl) _) ?_); clear hf a; intro a hf
  refine s_do hf (wanted_of hf rfl rfl rfl) (.value (x_load sc24 (hf.eval rfl) (by apply hs.cell <;> repeat constructor)) ?_); clear hf a; intro a hf
  replace hs := hs.take (A := diskA 85 127 5 3 P (fuS (fuS bk.s f) (-1))) (by repeat constructor)
  refine s_do hf (wanted_of hf rfl rfl rfl) (y_call (hf.eval rfl) (hf.evals rfl) Tryz.call59 ((dAlive_spec _ _ _ P (fuS (fuS bk.s f) (-1)) hs).mono ?_))
  rintro e w1 ⟨rfl, hw9⟩
  rw [hw9]
  clear hw9 w1
  refine ⟨_, rfl, ?_⟩; clear hf a; intro a hf
  refine s_do hf (wanted_of hf rfl rfl rfl) (.value (x_move (hf.eval rfl) _) ?_); clear hf a; intro a hf
  refine s_do hf (wanted_of hf rfl rfl rfl) (.value (x_boolEq Tryz.underlying4 (hf.eval rfl) (hf.eval rfl) _) ?_); clear hf a; intro a hf
  refine s_v hf (x_pick_t (hf.eval rfl) (hf.eval rfl)) ?_; clear hf a; intro a hf
  refine s_a hf rfl ?_; clear hf a; intro a hf
  refine s_nil ?_
  refine then_n ?_
  refine wp_ret ?_
  refine then_r ?_
  refine r_1 hf Tryz.results73 rfl ?_
  replace hs := hs.take (A := slB 5 (vx) bk.next) (by repeat constructor)
  replace hs := hs.take (A := slB 5 (.slice a1 bk.now.length c1) bk.now) (by repeat constructor)
  replace hs := hs.take (A := cb q 78 [.pointer (some ⟨P, 0, none⟩), .slice a1 bk.now.length c1, vy, .bool bk.op, .bool bk.rest, .int .i64 cap]) (by repeat constructor)
  replace hs := hs.take (A := diskA 85 127 5 3 P (fuS (fuS bk.s f) (-1))) (by repeat constructor)
  exact ⟨by rw [e7]; simp, ⟨(fuS (fuS bk.s f) (-1)), bk.now, bk.next, bk.op, bk.rest⟩, P, a1, c1, vy, vx, by rw [e8]; exact hcap, hvy, bi_up n2 (by omega), St.keep [_, _, _, _] _ hs⟩
 first | simp only [zd1, zd2, zd3, zd4, ne_eq, Classical.not_not] at hi0 | skip
 obtain ⟨hnow, hu⟩ := bi_upd hb hfu hi0
 rw [← hT9] at hu
 have hmy : (mayR bk.now seq size ws).2.2 = true := by cases h9 : (mayR bk.now seq size ws).2.2 with | true => rfl | false => exact absurd hi0 (hcd.1 (.inr (.inr (.inl h9))))
 obtain ⟨m1, _⟩ := may_true hmy
 have m2 : (mayR bk.now seq size ws).1 = (aplR bk.now size ws) := by rw [m1]
 rw [m2] at hs hf
 have hVl := aplR_len bk.now size ws
 have hTr : T.2.room = cap := by rw [hT9, upd_room, e4]; exact hcap
 refine wp_skip ?_
 refine then_n ?_
 refine wp_seq ?_
 refine wp_seq ?_
 refine wp_region_lit ?_
 refine s_m hf rfl ?_; clear hf a; intro a hf
 refine s_do hf rfl (y_call (hf.eval rfl) (hf.evals rfl) Tryz.call17 ((num_spec _ _).mono ?_))
 rintro e w1 ⟨rfl, hw9⟩
 rw [hw9]
 clear hw9 w1
 refine ⟨_, rfl, ?_⟩; clear hf a; intro a hf
 refine s_v hf (x_bin (hf.eval rfl) (hf.eval rfl) (r_eq _ _ _ _)) ?_; clear hf a; intro a hf
 refine s_nil ?_
 refine then_n ?_
 refine c_cond hf rfl (fun hi1 => ?_) (fun hi1 => ?_)
 ·first | simp only [zd1, zd2, zd3, zd4, ne_eq, Classical.not_not] at hi1 | skip
  obtain ⟨u1, u2, u3, u4⟩ := hu.resolve_right (fun h => by rw [h.1] at hi1; cases hi1)
  obtain ⟨e5, e6, e7, e8⟩ := fu_same T.2 (-1)
  replace e5 := e5.trans u3
  replace e7 := e7.trans u2
  refine wp_seq ?_
  refine wp_region_lit ?_
  refine s_m hf rfl ?_; clear hf a; intro a hf
  refine s_m hf rfl ?_; clear hf a; intro a hf
  refine s_v hf (x_nilCheck (hf.eval rfl)) ?_; clear hf a; intro a hf
  refine s_v hf (x_fieldAddr fo78_1 (hf.eval rfl)) ?_; clear hf a; intro a hf
  refine s_do0 hf rfl (y_store hs sc22 (hf.eval rfl) (hf.eval rfl) rfl (by repeat constructor) (by simp) ?_); clear hf hs a; intro w hs a hf
  refine s_nil ?_
  refine then_n ?_
  refine wp_seq ?_
  refine wp_region_lit ?_
  refine s_m hf rfl ?_; clear hf a; intro a hf
  refine s_v hf (x_nilCheck (hf.eval rfl)) ?_; clear hf a; intro a hf
  refine s_v hf (x_fieldAddr fo78_0 (hf.eval rfl)) ?_; clear hf a; intro a hf
  refine s_r hf (x_load sc24 (hf.eval rfl) (by apply hs.cell <;> repeat constructor)) ?_; clear hf a; intro a hf
  replace hs := hs.take (A := diskA 85 127 5 3 P T.2) (by repeat constructor)
  refine s_do hf rfl (y_call (hf.eval rfl) (hf.evals rfl) Tryz.call9 ((dFuse_spec _ _ _ P _ hs (-1)).mono ?_))
  rintro e w1 ⟨rfl, hs⟩
  refine ⟨_, rfl, ?_⟩; clear hf a; intro a hf
  refine s_nil ?_
  refine then_n ?_
  refine wp_seq ?_
  refine wp_region_lit ?_
  refine s_m hf rfl ?_; clear hf a; intro a hf
  refine s_v hf (x_nilCheck (hf.eval rfl)) ?_; clear hf a; intro a hf
  refine s_v hf (x_fieldAddr fo78_0 (hf.eval rfl)) ?_; clear hf a; intro a hf
  refine s_r hf (x_load sc24 (hf.eval rfl) (by apply hs.cell <;> repeat constructor)) ?_; clear hf a; intro a hf
  refine s_do hf rfl (y_call (hf.eval rfl) (hf.evals rfl) Tryz.call59 ((dAlive_spec _ _ _ P _ hs).mono ?_))
  rintro e w1 ⟨rfl, hw9⟩
  rw [hw9]
  clear hw9 w1
  refine ⟨_, rfl, ?_⟩; clear hf a; intro a hf
  refine s_m hf rfl ?_; clear hf a; intro a hf
  replace hf := hf.now (k := 134) (v' := .bool true) rfl (congrArg Value.bool (by rw [e7]; rfl))
  refine s_do hf (wanted_of hf rfl rfl rfl) (.value (x_move (hf.eval rfl) _) ?_); clear hf a; intro a hf
  refine s_do hf (wanted_of hf rfl rfl rfl) (.value (x_nilCheck (hf.eval rfl) _) ?_); clear hf a; intro a hf
  refine s_do hf (wanted_of hf rfl rfl rfl) (.value (x_fieldAddr fo78_0 (hf.eval rfl) _) ?_); clear hf a; intro a hf
  refine s_do hf (wanted_of hf rfl rfl rfl) (.value (x_load sc24 (hf.eval rfl) (by apply hs.cell <;> repeat constructor)) ?_); clear hf a; intro a hf
  refine s_do hf (wanted_of hf rfl rfl rfl) (y_call (hf.eval rfl) (hf.evals rfl) Tryz.call21 ((dImage_spec _ _ _ P _ hs (by rw [e5]; omega)).mono ?_))
  rintro e w1 ⟨ak, ck, rfl, hs⟩
  rw [e5] at hs ⊢
  refine ⟨_, rfl, ?_⟩; clear hf a; intro a hf
  refine s_do hf (wanted_of hf rfl rfl rfl) (.value (x_move (hf.eval rfl) _) ?_); clear hf a; intro a hf
  refine s_do hf (wanted_of hf rfl rfl rfl) (y_call (hf.eval rfl) (hf.evals rfl) Tryz.call20 ((same_spec _ _ _ (aplR bk.now size ws) (hs.rdB .k0 fun h => slB_rd) _ _ (aplR bk.now size ws) (hs.rdB (A := slB 5 (.slice ga (aplR bk.now size ws).length gc) (aplR bk.now size ws)) (by repeat constructor) fun h => slB_rd) (by omega)).mono ?_))
  rintro e w1 ⟨rfl, hk⟩
  replace hs := hs.ext hk
  refine ⟨_, rfl, ?_⟩; clear hf a; intro a hf
  refine s_v hf (x_pick_t (hf.eval rfl) (hf.eval rfl)) ?_; clear hf a; intro a hf
  refine s_a hf rfl ?_; clear hf a; intro a hf
  refine s_nil ?_
  refine then_n ?_
  refine wp_ret ?_
  refine then_r ?_
  refine r_1 hf Tryz.results73 rfl ?_
  replace hs := hs.take (A := slB 5 (vx) bk.next) (by repeat constructor)
  replace hs := hs.take (A := slB 5 (.slice ga (aplR bk.now size ws).length gc) (aplR bk.now size ws)) (by repeat constructor)
  replace hs := hs.take (A := cb q 78 [.pointer (some ⟨P, 0, none⟩), .slice ga (aplR bk.now size ws).length gc, vy, .bool bk.op, .bool bk.rest, .int .i64 cap]) (by repeat constructor)
  replace hs := hs.take (A := diskA 85 127 5 3 P (fuS T.2 (-1))) (by repeat constructor)
  exact ⟨by simp, ⟨fuS T.2 (-1), (aplR bk.now size ws), bk.next, bk.op, bk.rest⟩, P, ga, gc, vy, vx, by rw [e8]; exact hTr, hvy, bi_fuse u4 (by omega), St.keep [_, _, _, _] _ hs⟩
 first | simp only [zd1, zd2, zd3, zd4, ne_eq, Classical.not_not] at hi1 | skip
 obtain ⟨u1, u2, u3, u4⟩ := hu.resolve_left (fun h => hi1 h.1)
 refine wp_skip ?_
 refine then_n ?_
 refine wp_seq ?_
 refine wp_region_lit ?_
 refine s_m hf rfl ?_; clear hf a; intro a hf
 refine s_m hf rfl ?_; clear hf a; intro a hf
 refine s_v hf (x_nilCheck (hf.eval rfl)) ?_; clear hf a; intro a hf
 refine s_v hf (x_fieldAddr fo78_2 (hf.eval rfl)) ?_; clear hf a; intro a hf
 refine s_do0 hf rfl (y_store hs sc22 (hf.eval rfl) (hf.eval rfl) rfl (by repeat constructor) (by simp) ?_); clear hf hs a; intro w hs a hf
 refine s_nil ?_
 refine then_n ?_
 refine wp_seq ?_
 refine wp_region_lit ?_
 refine s_m hf rfl ?_; clear hf a; intro a hf
 refine s_v hf (x_nilCheck (hf.eval rfl)) ?_; clear hf a; intro a hf
 refine s_v hf (x_fieldAddr fo78_3 (hf.eval rfl)) ?_; clear hf a; intro a hf
 refine s_do0 hf rfl (y_store hs sc4 (hf.eval rfl) (hf.eval rfl) rfl (by repeat constructor) (by simp) ?_); clear hf hs a; intro w hs a hf
 refine s_nil ?_
 refine then_n ?_
 refine wp_seq ?_
 refine wp_region_lit ?_
 refine s_m hf rfl ?_; clear hf a; intro a hf
 refine s_v hf (x_nilCheck (hf.eval rfl)) ?_; clear hf a; intro a hf
 refine s_v hf (x_fieldAddr fo78_4 (hf.eval rfl)) ?_; clear hf a; intro a hf
 refine s_do0 hf rfl (y_store hs sc4 (hf.eval rfl) (hf.eval rfl) rfl (by repeat constructor) (by simp) ?_); clear hf hs a; intro w hs a hf
 refine s_nil ?_
 refine then_n ?_
 refine wp_seq ?_
 refine wp_region_lit ?_
 refine s_m hf rfl ?_; clear hf a; intro a hf
 refine s_do hf rfl (y_call (hf.eval rfl) (hf.evals rfl) Tryz.call17 ((num_spec _ _).mono ?_))
 rintro e w1 ⟨rfl, hw9⟩
 rw [hw9]
 clear hw9 w1
 refine ⟨_, rfl, ?_⟩; clear hf a; intro a hf
 refine s_v hf (x_bin (hf.eval rfl) (hf.eval rfl) (r_eq _ _ _ _)) ?_; clear hf a; intro a hf
 refine s_m hf rfl ?_; clear hf a; intro a hf
 replace hf := hf.now (k := 156) (v' := .bool true) rfl (congrArg Value.bool (by rw [u1]; rfl))
 refine s_do hf (wanted_of hf rfl rfl rfl) (.value (x_fieldAddr fo81_4 (hf.eval rfl) _) ?_); clear hf a; intro a hf
 refine s_do hf (wanted_of hf rfl rfl rfl) (.value (x_load sc3 (hf.eval rfl) (by apply hs.cell <;> repeat constructor)) ?_); clear hf a; intro a hf
 refine s_do hf (wanted_of hf rfl rfl rfl) (.value (x_bin (hf.eval rfl) (hf.eval rfl) (r_ge _ _ _ _) _) ?_); clear hf a; intro a hf
 refine s_v hf (x_pick_t (hf.eval rfl) (hf.eval rfl)) ?_; clear hf a; intro a hf
 refine s_m hf rfl ?_; clear hf a; intro a hf
 replace hf := hf.now (k := 161) (v' := .bool true) rfl (congrArg Value.bool (by simpa using u2))
 refine s_do hf (wanted_of hf rfl rfl rfl) (.value (x_move (hf.eval rfl) _) ?_); clear hf a; intro a hf
 refine s_do hf (wanted_of hf rfl rfl rfl) (.value (x_nilCheck (hf.eval rfl) _) ?_); clear hf a; intro a hf
 refine s_do hf (wanted_of hf rfl rfl rfl) (.value (x_fieldAddr fo78_0 (hf.eval rfl) _) ?_); clear hf a; intro a hf
 refine s_do hf (wanted_of hf rfl rfl rfl) (.value (x_load sc24 (hf.eval rfl) (by apply hs.cell <;> repeat constructor)) ?_); clear hf a; intro a hf
 replace hs := hs.take (A := diskA 85 127 5 3 P T.2) (by repeat constructor)
 refine s_do hf (wanted_of hf rfl rfl rfl) (y_call (hf.eval rfl) (hf.evals rfl) Tryz.call59 ((dAlive_spec _ _ _ P _ hs).mono ?_))
 rintro e w1 ⟨rfl, hw9⟩
 rw [hw9]
 clear hw9 w1
 refine ⟨_, rfl, ?_⟩; clear hf a; intro a hf
 refine s_do hf (wanted_of hf rfl rfl rfl) (.value (x_not (hf.eval rfl) _) ?_); clear hf a; intro a hf
 refine s_v hf (x_pick_t (hf.eval rfl) (hf.eval rfl)) ?_; clear hf a; intro a hf
 refine s_a hf rfl ?_; clear hf a; intro a hf
 refine s_nil ?_
 refine then_n ?_
 refine wp_ret ?_
 refine r_1 hf Tryz.results73 rfl ?_
 replace hs := hs.take (A := slB 5 (.slice ga (aplR bk.now size ws).length gc) (aplR bk.now size ws)) (by repeat constructor)
 replace hs := hs.take (A := slB 5 (.slice a1 bk.now.length c1) bk.now) (by repeat constructor)
 replace hs := hs.take (A := cb q 78 [.pointer (some ⟨P, 0, none⟩), .slice a1 bk.now.length c1, .slice ga (aplR bk.now size ws).length gc, .bool true, .bool false, .int .i64 cap]) (by repeat constructor)
 replace hs := hs.take (A := diskA 85 127 5 3 P T.2) (by repeat constructor)
 exact ⟨by rw [u3]; rfl, ⟨T.2, bk.now, (aplR bk.now size ws), true, false⟩, P, a1, c1, _, _, hTr, fun _ => rfl, u4, St.keep [_, _, _, _] _ hs⟩
theorem x_loadSub {P : Program} {ρ : Operand → Value} {d : Option Nat} {ty : TypeId} {pos : String} {after : Array Edge} {g : Option (Nat × Bool)} {σ : Sig} {L R : List Asrt} {t n b T o : Nat} {x : Operand} {vs ws : List Value} {w : World} (hs : St σ w L) (ht : AgT P t n) (hx : ρ x = .pointer (some ⟨b, o, none⟩)) (hn : vs.length = n) (tk : Take (cb b T ws) L R) (hv : ws.drop o = vs) :
    (execOp ρ ⟨d, .load t x, ty, pos, after, g⟩).run P w = .ok (.value (.agg vs.toArray)) w :=
  x_loadAgg ht hx hn fun j v hj => by
    have := hs.cell tk (k := o + j) (by rw [← List.getElem?_drop, hv]; exact hj)
    rwa [show (⟨b, o, none⟩ : Addr).add j = ⟨b, o + j, none⟩ by unfold Addr.add; split <;> simp_all]
theorem bkstep_spec (w0 w : World) (hT : Tab 0 (hp w0)) (q P : Nat) (bk : Bk) (C : Nat) (cap : Int) (hcap : bk.s.room = cap) (a1 : Option Addr) (c1 : Nat) (vy vx : Value) (hvy : bk.op = true → vy = vx) (hs : St ⟨w0, None_⟩ w [diskA 85 127 5 3 P bk.s, cb q 78 [.pointer (some ⟨P, 0, none⟩), .slice a1 bk.now.length c1, vy, .bool bk.op, .bool bk.rest, .int .i64 cap], slB 5 (.slice a1 bk.now.length c1) bk.now, slB 5 (vx) bk.next]) (hb : BI bk C) (hC : C ≤ 23000000) (kd seq size : Int) (aw : Option Addr) (cw : Nat) (ws : List Wr) (hrw : RdS wF 2 (hp w0) (.slice aw ws.length cw) ws) (hlw : ws.length ≤ 1048576) (hgd : ∀ z ∈ ws, RdB (hp w0) (.slice z.2.1 z.2.2.2.length z.2.2.1) z.2.2.2 ∧ z.2.2.2.length ≤ 1048576) (f : Int) (hfu : f ≤ 9223372036854775807) (ch : ChQ) (hchg : ChG (hp w0) ch) : Calls Tryz.prog 36 #[.pointer (some ⟨q, 0, none⟩), .agg #[.int .i64 kd, .int .i64 seq, .int .i64 size, .slice aw ws.length cw, .int .i64 f, .int .i64 ch.1, .slice ch.2.1.1 ch.2.1.2.2.length ch.2.1.2.1, .int .i64 ch.2.2]] w fun e w' => e = .returned (.bool true) ∧ ∃ (bk : Bk) (P : Nat) (a1 : Option Addr) (c1 : Nat) (vy vx : Value), bk.s.room = cap ∧ (bk.op = true → vy = vx) ∧ BI bk (C + (20 + ws.length)) ∧ St ⟨w0, None_⟩ w' [diskA 85 127 5 3 P bk.s, cb q 78 [.pointer (some ⟨P, 0, none⟩), .slice a1 bk.now.length c1, vy, .bool bk.op, .bool bk.rest, .int .i64 cap], slB 5 (.slice a1 bk.now.length c1) bk.now, slB 5 (vx) bk.next] := by
 have ho := hb.ok
 have hnw := ho.now
 have hrm := ho.room1
 have hrm0 := ho.room0
 have hlen := hb.len
 have hbb := bi_b hb
 replace hs := hs.take (A := slB 5 (vx) bk.next) (by repeat constructor)
 obtain ⟨an, cn, rfl⟩ := sl_shape hs
 refine c_enter (N := 148) Tryz.func36 rfl Tryz.ntmps36 (by simp) ?_
 intro a hf
 refine wp_seq ?_
 refine wp_region_lit ?_
 refine s_do hf rfl (y_box hs (hf.eval rfl) ?_); clear hf hs a; intro bx w hs a hf
 replace hs : St _ w (cb bx 81 [.int .i64 kd, .int .i64 seq, .int .i64 size, .slice aw ws.length cw, .int .i64 f, .int .i64 ch.1, .slice ch.2.1.1 ch.2.1.2.2.length ch.2.1.2.1, .int .i64 ch.2.2] :: _) := hs
 refine s_a hf rfl ?_; clear hf a; intro a hf
 refine s_nil ?_
 refine then_n ?_
 refine wp_seq ?_
 refine wp_seq ?_
 refine wp_region_lit ?_
 refine s_v hf (x_fieldAddr fo81_0 (hf.eval rfl)) ?_; clear hf a; intro a hf
 refine s_r hf (x_load sc3 (hf.eval rfl) (by apply hs.cell <;> repeat constructor)) ?_; clear hf a; intro a hf
 refine s_nil ?_
 refine then_n ?_
 refine wp_block ?_
 refine wp_seq ?_
 refine wp_region_lit ?_
 refine s_v hf (x_bin (hf.eval rfl) (hf.eval rfl) (r_eq _ _ _ _)) ?_; clear hf a; intro a hf
 refine s_a hf rfl ?_; clear hf a; intro a hf
 refine s_nil ?_
 refine then_n ?_
 refine c_cond hf rfl (fun hi0 => ?_) (fun hi0 => ?_)
 ·first | simp only [zd1, zd2, zd3, zd4, ne_eq, Classical.not_not] at hi0 | skip
  refine wp_seq ?_
  refine wp_region_lit ?_
  refine s_m hf rfl ?_; clear hf a; intro a hf
  refine s_r hf (x_loadBlk hs ag81 (hf.eval rfl) rfl (by repeat constructor)) ?_; clear hf a; intro a hf
  replace hf := hf.now (k := 17) (v' := .agg #[.int .i64 kd, .int .i64 seq, .int .i64 size, .slice aw ws.length cw, .int .i64 f, .int .i64 ch.1, .slice ch.2.1.1 ch.2.1.2.2.length ch.2.1.2.1, .int .i64 ch.2.2]) rfl (rfl)
  replace hs := hs.take (A := slB 5 (.slice an bk.next.length cn) bk.next) (by repeat constructor)
  replace hs := hs.take (A := slB 5 (.slice a1 bk.now.length c1) bk.now) (by repeat constructor)
  replace hs := hs.take (A := cb q 78 [.pointer (some ⟨P, 0, none⟩), .slice a1 bk.now.length c1, vy, .bool bk.op, .bool bk.rest, .int .i64 cap]) (by repeat constructor)
  replace hs := hs.take (A := diskA 85 127 5 3 P bk.s) (by repeat constructor)
  replace hs := St.keep [_, _, _, _] _ hs
  refine s_do hf rfl (y_call (hf.eval rfl) (hf.evals rfl) Tryz.call73 ((bkupd_spec w0 _ hT q P bk C cap hcap a1 c1 vy (.slice an bk.next.length cn) hvy hs hb hC kd seq size aw cw ws hrw hlw hgd f hfu ch).mono ?_))
  rintro e w1 ⟨rfl, bk2, P2, a2, c2, vy2, vx2, hcap2, hvy2, hb2, hs⟩
  refine ⟨_, rfl, ?_⟩; clear hf a; intro a hf
  refine s_a hf rfl ?_; clear hf a; intro a hf
  refine s_nil ?_
  refine then_n ?_
  refine wp_ret ?_
  refine blk_r (then_r ?_)
  refine r_1 hf Tryz.results36 rfl ?_
  exact ⟨rfl, bk2, P2, a2, c2, vy2, vx2, hcap2, hvy2, hb2, hs⟩
 first | simp only [zd1, zd2, zd3, zd4, ne_eq, Classical.not_not] at hi0 | skip
 refine wp_seq ?_
 refine wp_region_lit ?_
 refine s_v hf (x_bin (hf.eval rfl) (hf.eval rfl) (r_eq _ _ _ _)) ?_; clear hf a; intro a hf
 refine s_a hf rfl ?_; clear hf a; intro a hf
 refine s_nil ?_
 refine then_n ?_
 refine c_cond hf rfl (fun hi1 => ?_) (fun hi1 => ?_)
 ·first | simp only [zd1, zd2, zd3, zd4, ne_eq, Classical.not_not] at hi1 | skip
  refine wp_seq ?_
  refine wp_region_lit ?_
  refine s_m hf rfl ?_; clear hf a; intro a hf
  refine s_v hf (x_nilCheck (hf.eval rfl)) ?_; clear hf a; intro a hf
  refine s_v hf (x_fieldAddr fo78_0 (hf.eval rfl)) ?_; clear hf a; intro a hf
  refine s_r hf (x_load sc24 (hf.eval rfl) (by apply hs.cell <;> repeat constructor)) ?_; clear hf a; intro a hf
  replace hs := hs.take (A := diskA 85 127 5 3 P bk.s) (by repeat constructor)
  refine s_do hf rfl (y_call (hf.eval rfl) (hf.evals rfl) Tryz.call59 ((dAlive_spec _ _ _ P bk.s hs).mono ?_))
  rintro e w1 ⟨rfl, hw9⟩
  rw [hw9]
  clear hw9 w1
  refine ⟨_, rfl, ?_⟩; clear hf a; intro a hf
  refine s_a hf rfl ?_; clear hf a; intro a hf
  refine s_nil ?_
  refine then_n ?_
  refine wp_seq ?_
  refine c_draw hs (fun _ => True) [.held, .held, .held, .read, .held, .read, .fin] (by kernel_rfl) (by kernel_rfl) (fun _ _ _ => trivial) ?_
  clear hs; intro w hs hC hw
  refine m_held hf rfl (fun w' _ => x_move (hf.eval rfl) w') ?_; clear hf a; intro a hf
  refine m_held hf rfl (fun w' _ => x_nilCheck (hf.eval rfl) w') ?_; clear hf a; intro a hf
  refine m_held hf rfl (fun w' _ => x_fieldAddr fo78_0 (hf.eval rfl) w') ?_; clear hf a; intro a hf
  refine m_read hf rfl (x_load sc24 (hf.eval rfl) (by apply hs.cell <;> repeat constructor)) ?_; clear hf a; intro a hf
  refine m_held hf rfl (fun w' _ => x_fieldAddr fo81_4 (hf.eval rfl) w') ?_; clear hf a; intro a hf
  refine m_read hf rfl (x_load sc3 (hf.eval rfl) (by apply hs.cell <;> repeat constructor)) ?_; clear hf a; intro a hf
  refine m_fin hf rfl (y_call (hf.eval rfl) (hf.evals rfl) Tryz.call9 ((dFuse_spec _ _ _ P _ hs f).mono ?_))
  rintro e w1 ⟨rfl, hs⟩
  refine ⟨_, rfl, ?_⟩; clear hf a; intro a hf
  refine then_n ?_
  refine wp_seq ?_
  refine wp_region_lit ?_
  refine s_m hf rfl ?_; clear hf a; intro a hf
  refine s_v hf (x_nilCheck (hf.eval rfl)) ?_; clear hf a; intro a hf
  refine s_v hf (x_fieldAddr fo78_0 (hf.eval rfl)) ?_; clear hf a; intro a hf
  refine s_r hf (x_load sc24 (hf.eval rfl) (by apply hs.cell <;> repeat constructor)) ?_; clear hf a; intro a hf
  have ho1 := fuS_ok ho hfu
  have hb1 := fuS_b hbb f
  refine s_do hf rfl (y_call (hf.eval rfl) (hf.evals rfl) Tryz.call15 ((recover_spec w0 _ _ P (fuS bk.s f) hT hs ho1 _ hb1 (by omega)).mono ?_))
  rintro e w1 ⟨rfl, hs⟩
  obtain ⟨e1, e2, e3, e4⟩ := fu_same bk.s f
  have hu := bi_rec hb hfu
  obtain ⟨V9, hV9⟩ : ∃ V9, V9 = recV (fuS bk.s f) := ⟨_, rfl⟩
  obtain ⟨T, hT9⟩ : ∃ T, T = recS (fuS bk.s f) := ⟨_, rfl⟩
  rw [← hV9, ← hT9] at hu
  rw [← hV9]
  rw [← hT9] at hs
  have hTr : T.room = cap := by rw [hT9, rec_room, e4]; exact hcap
  obtain ⟨e5, e6, e7, e8⟩ := fu_same T (-1)
  refine ⟨_, rfl, ?_⟩; clear hf a; intro a hf
  refine s_m hf rfl ?_; clear hf a; intro a hf
  refine s_v hf (x_extract (hf.eval rfl) rfl) ?_; clear hf a; intro a hf
  refine s_v hf (x_extract (hf.eval rfl) rfl) ?_; clear hf a; intro a hf
  refine s_do hf rfl (y_alloc hs Tryz.zeroValue37 ?_); clear hf hs a; intro b6 w hs a hf
  change St _ _ (cb b6 37 (vdF (0, 0, 0)) :: _) at hs
  refine s_do0 hf rfl (y_storeAgg (cs := vdF V9.1) hs (n := 3) (by kernel_rfl) (hf.eval rfl) (hf.eval rfl) (by simp [Value.oneCell', vdF]) rfl rfl .k0 ?_); clear hf hs a; intro w hs a hf
  refine s_a hf rfl ?_; clear hf a; intro a hf
  refine s_nil ?_
  refine then_n ?_
  refine wp_seq ?_
  refine wp_region_lit ?_
  refine s_m hf rfl ?_; clear hf a; intro a hf
  refine s_v hf (x_nilCheck (hf.eval rfl)) ?_; clear hf a; intro a hf
  refine s_v hf (x_fieldAddr fo78_0 (hf.eval rfl)) ?_; clear hf a; intro a hf
  refine s_r hf (x_load sc24 (hf.eval rfl) (by apply hs.cell <;> repeat constructor)) ?_; clear hf a; intro a hf
  replace hs := hs.take (A := diskA 85 127 5 3 P T) (by repeat constructor)
  refine s_do hf rfl (y_call (hf.eval rfl) (hf.evals rfl) Tryz.call9 ((dFuse_spec _ _ _ P _ hs (-1)).mono ?_))
  rintro e w1 ⟨rfl, hs⟩
  refine ⟨_, rfl, ?_⟩; clear hf a; intro a hf
  refine s_nil ?_
  refine then_n ?_
  refine wp_seq ?_
  refine wp_seq ?_
  refine wp_region_lit ?_
  refine s_m hf rfl ?_; clear hf a; intro a hf
  refine s_do hf rfl (y_call (hf.eval rfl) (hf.evals rfl) Tryz.call17 ((num_spec _ _).mono ?_))
  rintro e w1 ⟨rfl, hw9⟩
  rw [hw9]
  clear hw9 w1
  refine ⟨_, rfl, ?_⟩; clear hf a; intro a hf
  refine s_v hf (x_bin (hf.eval rfl) (hf.eval rfl) (r_eq _ _ _ _)) ?_; clear hf a; intro a hf
  refine s_nil ?_
  refine then_n ?_
  refine c_cond hf rfl (fun hi2 => ?_) (fun hi2 => ?_)
  ·first | simp only [zd1, zd2, zd3, zd4, ne_eq, Classical.not_not] at hi2 | skip
   obtain ⟨u1, u2, u3, u4⟩ := hu.resolve_right (fun h => by rw [h.1] at hi2; cases hi2)
   refine wp_seq ?_
   refine wp_region_lit ?_
   refine s_m hf rfl ?_; clear hf a; intro a hf
   refine s_v hf (x_nilCheck (hf.eval rfl)) ?_; clear hf a; intro a hf
   refine s_v hf (x_fieldAddr fo78_4 (hf.eval rfl)) ?_; clear hf a; intro a hf
   refine s_do0 hf rfl (y_store hs sc4 (hf.eval rfl) (hf.eval rfl) rfl (by repeat constructor) (by simp) ?_); clear hf hs a; intro w hs a hf
   refine s_nil ?_
   refine then_n ?_
   refine wp_seq ?_
   replace hs := hs.take (A := cb q 78 [.pointer (some ⟨P, 0, none⟩), .slice a1 bk.now.length c1, vy, .bool bk.op, .bool true, .int .i64 cap]) (by repeat constructor)
   refine c_draw hs (fun w' => ∀ (j : Nat) (v : Value), ([.pointer (some ⟨P, 0, none⟩), .slice a1 bk.now.length c1, vy, .bool bk.op, .bool true, .int .i64 cap])[j]? = some v → w'.cell? ((⟨q, 0, none⟩ : Addr).add j) = some v) [.held, .held, .held, .held, .held, .read, .eff, .held, .held, .held, .held, .eff, .held, .held] (by kernel_rfl) (by kernel_rfl) (fun _ _ hs => cells_of hs (by repeat constructor)) ?_
   clear hs; intro w hs hC hw
   refine m_held hf rfl (fun w' _ => x_move (hf.eval rfl) w') ?_; clear hf a; intro a hf
   refine m_held hf rfl (fun w' _ => x_move (hf.eval rfl) w') ?_; clear hf a; intro a hf
   replace hf := hf.now (k := 53) (v' := .bool true) rfl (congrArg Value.bool (by rw [u2]; rfl))
   refine m_held hf (wanted_of hf rfl rfl rfl) (fun w' _ => x_move (hf.eval rfl) w') ?_; clear hf a; intro a hf
   refine m_held hf (wanted_of hf rfl rfl rfl) (fun w' _ => x_nilCheck (hf.eval rfl) w') ?_; clear hf a; intro a hf
   refine m_held hf (wanted_of hf rfl rfl rfl) (fun w' _ => x_fieldAddr fo78_0 (hf.eval rfl) w') ?_; clear hf a; intro a hf
   refine m_read hf (wanted_of hf rfl rfl rfl) (x_load sc24 (hf.eval rfl) (by apply hs.cell <;> repeat constructor)) ?_; clear hf a; intro a hf
   replace hs := hs.take (A := diskA 85 127 5 3 P (fuS T (-1))) (by repeat constructor)
   refine m_eff hf (wanted_of hf rfl rfl rfl) (y_call (hf.eval rfl) (hf.evals rfl) Tryz.call21 ((dImage_spec _ _ _ P _ hs (by rw [e5, u3]; omega)).mono ?_))
   rintro e w1 ⟨ak, ck, rfl, hs⟩
   rw [e5, u3] at hs ⊢
   refine ⟨_, rfl, ⟨cells_of hs (by repeat constructor), ?_⟩⟩; clear hf a; intro a hf
   refine m_held hf (wanted_of hf rfl rfl rfl) (fun w' _ => x_move (hf.eval rfl) w') ?_; clear hf a; intro a hf
   refine m_held hf (wanted_of hf rfl rfl rfl) (fun w' _ => x_nilCheck (hf.eval rfl) w') ?_; clear hf a; intro a hf
   refine m_held hf (wanted_of hf rfl rfl rfl) (fun w' _ => x_fieldAddr fo78_1 (hf.eval rfl) w') ?_; clear hf a; intro a hf
   refine m_held hf (wanted_of hf rfl rfl rfl) (fun w' hc => x_load sc22 (hf.eval rfl) (hc 1 _ rfl)) ?_; clear hf a; intro a hf
   refine m_eff hf (wanted_of hf rfl rfl rfl) (y_call (hf.eval rfl) (hf.evals rfl) Tryz.call20 ((same_spec _ _ _ bk.now (hs.rdB .k0 fun h => slB_rd) _ _ bk.now (hs.rdB (A := slB 5 (.slice a1 bk.now.length c1) bk.now) (by repeat constructor) fun h => slB_rd) (by omega)).mono ?_))
   rintro e w1 ⟨rfl, hk⟩
   replace hs := hs.ext hk
   refine ⟨_, rfl, ⟨cells_of hs (by repeat constructor), ?_⟩⟩; clear hf a; intro a hf
   refine m_held hf rfl (fun w' _ => x_pick_t (hf.eval rfl) (hf.eval rfl) w') ?_; clear hf a; intro a hf
   refine m_held hf rfl (fun w' _ => x_assign (hf.eval rfl) w') ?_; clear hf a; intro a hf
   refine m_nil ?_
   refine then_n ?_
   refine wp_ret ?_
   refine then_r (blk_r (then_r ?_))
   refine r_1 hf Tryz.results36 rfl ?_
   replace hs := hs.take (A := slB 5 (.slice an bk.next.length cn) bk.next) (by repeat constructor)
   replace hs := hs.take (A := slB 5 (.slice a1 bk.now.length c1) bk.now) (by repeat constructor)
   replace hs := hs.take (A := cb q 78 [.pointer (some ⟨P, 0, none⟩), .slice a1 bk.now.length c1, vy, .bool bk.op, .bool true, .int .i64 cap]) (by repeat constructor)
   replace hs := hs.take (A := diskA 85 127 5 3 P (fuS T (-1))) (by repeat constructor)
   exact ⟨by simp, ⟨fuS T (-1), bk.now, bk.next, bk.op, true⟩, P, a1, c1, vy, _, by rw [e8]; exact hTr, hvy, bi_up (bi_fuse u4 (by omega)) (by omega), St.keep [_, _, _, _] _ hs⟩
  first | simp only [zd1, zd2, zd3, zd4, ne_eq, Classical.not_not] at hi2 | skip
  obtain ⟨u1, u2, u3, u4⟩ := hu.resolve_left (fun h => hi2 h.1)
  refine wp_skip ?_
  refine then_n ?_
  refine wp_seq ?_
  refine wp_region_lit ?_
  refine s_m hf rfl ?_; clear hf a; intro a hf
  refine s_do hf rfl (y_call (hf.eval rfl) (hf.evals rfl) Tryz.call17 ((num_spec _ _).mono ?_))
  rintro e w1 ⟨rfl, hw9⟩
  rw [hw9]
  clear hw9 w1
  refine ⟨_, rfl, ?_⟩; clear hf a; intro a hf
  refine s_v hf (x_bin (hf.eval rfl) (hf.eval rfl) (r_eq _ _ _ _)) ?_; clear hf a; intro a hf
  refine s_m hf rfl ?_; clear hf a; intro a hf
  replace hf := hf.now (k := 68) (v' := .bool true) rfl (congrArg Value.bool (by rw [u1]; rfl))
  refine s_do hf (wanted_of hf rfl rfl rfl) (.value (x_move (hf.eval rfl) _) ?_); clear hf a; intro a hf
  refine s_do hf (wanted_of hf rfl rfl rfl) (.value (x_not (hf.eval rfl) _) ?_); clear hf a; intro a hf
  refine s_do hf (wanted_of hf rfl rfl rfl) (.value (x_move (hf.eval rfl) _) ?_); clear hf a; intro a hf
  refine s_bool hf (k := 71) rfl (fun hg12_6 hf' => ?_) (fun hg12_6 hf' => ?_)
  ·clear hf
   have hf := hf'
   clear hf'
   simp only [Bool.not_not, Bool.not_eq_true', Bool.not_eq_false'] at hg12_6
   refine s_pass hf rfl rfl ?_; clear hf a; intro a hf
   refine s_pass hf rfl rfl ?_; clear hf a; intro a hf
   refine s_pass hf rfl rfl ?_; clear hf a; intro a hf
   refine s_do hf (wanted_of hf rfl rfl rfl) (.value (x_pick_t (hf.eval rfl) (hf.eval rfl) _) ?_); clear hf a; intro a hf
   refine s_v hf (x_pick_t (hf.eval rfl) (hf.eval rfl)) ?_; clear hf a; intro a hf
   refine s_m hf rfl ?_; clear hf a; intro a hf
   refine s_do hf (wanted_of hf rfl rfl rfl) (.value (x_move (hf.eval rfl) _) ?_); clear hf a; intro a hf
   refine s_do hf (wanted_of hf rfl rfl rfl) (.value (x_nilCheck (hf.eval rfl) _) ?_); clear hf a; intro a hf
   refine s_do hf (wanted_of hf rfl rfl rfl) (.value (x_fieldAddr fo78_0 (hf.eval rfl) _) ?_); clear hf a; intro a hf
   refine s_do hf (wanted_of hf rfl rfl rfl) (.value (x_load sc24 (hf.eval rfl) (by apply hs.cell <;> repeat constructor)) ?_); clear hf a; intro a hf
   replace hs := hs.take (A := diskA 85 127 5 3 P (fuS T (-1))) (by repeat constructor)
   refine s_do hf (wanted_of hf rfl rfl rfl) (y_call (hf.eval rfl) (hf.evals rfl) Tryz.call59 ((dAlive_spec _ _ _ P _ hs).mono ?_))
   rintro e w1 ⟨rfl, hw9⟩
   rw [hw9]
   clear hw9 w1
   refine ⟨_, rfl, ?_⟩; clear hf a; intro a hf
   refine s_do hf (wanted_of hf rfl rfl rfl) (.value (x_not (hf.eval rfl) _) ?_); clear hf a; intro a hf
   refine s_v hf (x_pick_t (hf.eval rfl) (hf.eval rfl)) ?_; clear hf a; intro a hf
   refine s_a hf rfl ?_; clear hf a; intro a hf
   refine s_nil ?_
   refine then_n ?_
   refine wp_ret ?_
   refine blk_r (then_r ?_)
   refine r_1 hf Tryz.results36 rfl ?_
   replace hs := hs.take (A := slB 5 (.slice an bk.next.length cn) bk.next) (by repeat constructor)
   replace hs := hs.take (A := slB 5 (.slice a1 bk.now.length c1) bk.now) (by repeat constructor)
   replace hs := hs.take (A := cb q 78 [.pointer (some ⟨P, 0, none⟩), .slice a1 bk.now.length c1, vy, .bool bk.op, .bool bk.rest, .int .i64 cap]) (by repeat constructor)
   replace hs := hs.take (A := diskA 85 127 5 3 P (fuS T (-1))) (by repeat constructor)
   exact ⟨by rw [e7, u3]; rfl, ⟨fuS T (-1), bk.now, bk.next, bk.op, bk.rest⟩, P, a1, c1, vy, _, by rw [e8]; exact hTr, hvy, bi_up (bi_fuse u4 (by omega)) (by omega), St.keep [_, _, _, _] _ hs⟩
  clear hf
  have hf := hf'
  clear hf'
  simp only [Bool.not_not, Bool.not_eq_true', Bool.not_eq_false'] at hg12_6
  have hf0 : 0 ≤ f := u2.resolve_left (by rw [hg12_6]; simp)
  refine s_do hf (wanted_of hf rfl rfl rfl) (.value (x_fieldAddr fo81_4 (hf.eval rfl) _) ?_); clear hf a; intro a hf
  refine s_do hf (wanted_of hf rfl rfl rfl) (.value (x_load sc3 (hf.eval rfl) (by apply hs.cell <;> repeat constructor)) ?_); clear hf a; intro a hf
  refine s_do hf (wanted_of hf rfl rfl rfl) (.value (x_bin (hf.eval rfl) (hf.eval rfl) (r_ge _ _ _ _) _) ?_); clear hf a; intro a hf
  refine s_do hf (wanted_of hf rfl rfl rfl) (.value (x_pick_f (hf.eval rfl) (hf.eval rfl) _) ?_); clear hf a; intro a hf
  refine s_v hf (x_pick_t (hf.eval rfl) (hf.eval rfl)) ?_; clear hf a; intro a hf
  refine s_m hf rfl ?_; clear hf a; intro a hf
  replace hf := hf.now (k := 77) (v' := .bool true) rfl (congrArg Value.bool (by first | rfl | simpa using hf0))
  refine s_do hf (wanted_of hf rfl rfl rfl) (.value (x_move (hf.eval rfl) _) ?_); clear hf a; intro a hf
  refine s_do hf (wanted_of hf rfl rfl rfl) (.value (x_nilCheck (hf.eval rfl) _) ?_); clear hf a; intro a hf
  refine s_do hf (wanted_of hf rfl rfl rfl) (.value (x_fieldAddr fo78_0 (hf.eval rfl) _) ?_); clear hf a; intro a hf
  refine s_do hf (wanted_of hf rfl rfl rfl) (.value (x_load sc24 (hf.eval rfl) (by apply hs.cell <;> repeat constructor)) ?_); clear hf a; intro a hf
  replace hs := hs.take (A := diskA 85 127 5 3 P (fuS T (-1))) (by repeat constructor)
  refine s_do hf (wanted_of hf rfl rfl rfl) (y_call (hf.eval rfl) (hf.evals rfl) Tryz.call59 ((dAlive_spec _ _ _ P _ hs).mono ?_))
  rintro e w1 ⟨rfl, hw9⟩
  rw [hw9]
  clear hw9 w1
  refine ⟨_, rfl, ?_⟩; clear hf a; intro a hf
  refine s_do hf (wanted_of hf rfl rfl rfl) (.value (x_not (hf.eval rfl) _) ?_); clear hf a; intro a hf
  refine s_v hf (x_pick_t (hf.eval rfl) (hf.eval rfl)) ?_; clear hf a; intro a hf
  refine s_a hf rfl ?_; clear hf a; intro a hf
  refine s_nil ?_
  refine then_n ?_
  refine wp_ret ?_
  refine blk_r (then_r ?_)
  refine r_1 hf Tryz.results36 rfl ?_
  replace hs := hs.take (A := slB 5 (.slice an bk.next.length cn) bk.next) (by repeat constructor)
  replace hs := hs.take (A := slB 5 (.slice a1 bk.now.length c1) bk.now) (by repeat constructor)
  replace hs := hs.take (A := cb q 78 [.pointer (some ⟨P, 0, none⟩), .slice a1 bk.now.length c1, vy, .bool bk.op, .bool bk.rest, .int .i64 cap]) (by repeat constructor)
  replace hs := hs.take (A := diskA 85 127 5 3 P (fuS T (-1))) (by repeat constructor)
  exact ⟨by rw [e7, u3]; rfl, ⟨fuS T (-1), bk.now, bk.next, bk.op, bk.rest⟩, P, a1, c1, vy, _, by rw [e8]; exact hTr, hvy, bi_up (bi_fuse u4 (by omega)) (by omega), St.keep [_, _, _, _] _ hs⟩
 first | simp only [zd1, zd2, zd3, zd4, ne_eq, Classical.not_not] at hi1 | skip
 refine wp_seq ?_
 refine wp_region_lit ?_
 refine s_v hf (x_bin (hf.eval rfl) (hf.eval rfl) (r_eq _ _ _ _)) ?_; clear hf a; intro a hf
 refine s_a hf rfl ?_; clear hf a; intro a hf
 refine s_nil ?_
 refine then_n ?_
 refine c_cond hf rfl (fun hi3 => ?_) (fun hi3 => ?_)
 ·first | simp only [zd1, zd2, zd3, zd4, ne_eq, Classical.not_not] at hi3 | skip
  refine wp_seq ?_
  refine c_draw hs (fun _ => True) [.held, .held, .held, .read, .held, .read, .eff, .held, .held, .held, .held, .held] (by kernel_rfl) (by kernel_rfl) (fun _ _ _ => trivial) ?_
  clear hs; intro w hs hC hw
  refine m_held hf rfl (fun w' _ => x_move (hf.eval rfl) w') ?_; clear hf a; intro a hf
  refine m_held hf rfl (fun w' _ => x_nilCheck (hf.eval rfl) w') ?_; clear hf a; intro a hf
  refine m_held hf rfl (fun w' _ => x_fieldAddr fo78_0 (hf.eval rfl) w') ?_; clear hf a; intro a hf
  refine m_read hf rfl (x_load sc24 (hf.eval rfl) (by apply hs.cell <;> repeat constructor)) ?_; clear hf a; intro a hf
  refine m_held hf rfl (fun w' _ => x_fieldAddr fo81_5 (hf.eval rfl) w') ?_; clear hf a; intro a hf
  refine m_read hf rfl (x_loadSub (vs := chF ch) hs ag64 (hf.eval rfl) rfl (by repeat constructor) rfl) ?_; clear hf a; intro a hf
  replace hf := hf.now (k := 93) (v' := .agg #[.int .i64 ch.1, .slice ch.2.1.1 ch.2.1.2.2.length ch.2.1.2.1, .int .i64 ch.2.2]) rfl (rfl)
  replace hs := hs.take (A := diskA 85 127 5 3 P bk.s) (by repeat constructor)
  have hb1 := hbb.sizes
  have hb2 := hbb.pcs
  refine m_eff hf rfl (y_call (hf.eval rfl) (hf.evals rfl) Tryz.call33 ((dCrash_spec _ _ _ P bk.s hs ch.1 ch.2.1.1 ch.2.1.2.1 ch.2.1.2.2 ch.2.2 ho (RdyS.old hchg.rd) (by omega) (by omega)).mono ?_))
  rintro e w1 ⟨p2, rfl, hs⟩
  have hil := outN_le ho (ch.1, ch.2.1.2.2, ch.2.2)
  rw [← outS_length] at hil
  have hout := bi_out hb (ch.1, ch.2.1.2.2, ch.2.2)
  obtain ⟨im, him⟩ : ∃ im, im = outS bk.s (ch.1, ch.2.1.2.2, ch.2.2) := ⟨_, rfl⟩
  rw [← him] at hs hil hout
  have hlz := (lk_size im).2
  obtain ⟨x, hxx⟩ : ∃ x, (lkV im).2 = x := ⟨_, rfl⟩
  rw [hxx] at hout hlz
  refine ⟨_, rfl, ⟨trivial, ?_⟩⟩; clear hf a; intro a hf
  refine m_held hf rfl (fun w' _ => x_move (hf.eval rfl) w') ?_; clear hf a; intro a hf
  refine m_held hf rfl (fun w' _ => x_extract (hf.eval rfl) rfl w') ?_; clear hf a; intro a hf
  refine m_held hf rfl (fun w' _ => x_extract (hf.eval rfl) rfl w') ?_; clear hf a; intro a hf
  refine m_held hf rfl (fun w' _ => x_assign (hf.eval rfl) w') ?_; clear hf a; intro a hf
  refine m_held hf rfl (fun w' _ => x_assign (hf.eval rfl) w') ?_; clear hf a; intro a hf
  refine m_nil ?_
  refine then_n ?_
  refine wp_seq ?_
  refine wp_seq ?_
  refine wp_region_lit ?_
  refine s_m hf rfl ?_; clear hf a; intro a hf
  refine s_v hf (x_eqNil Tryz.underlying24 (hf.eval rfl) (hf.eval rfl)) ?_; clear hf a; intro a hf
  refine s_m hf rfl ?_; clear hf a; intro a hf
  replace hf := hf.now (k := 99) (v' := .bool false) rfl (congrArg Value.bool (by first | rfl | simp))
  refine s_do hf (wanted_of hf rfl rfl rfl) (.value (x_move (hf.eval rfl) _) ?_); clear hf a; intro a hf
  refine s_do hf (wanted_of hf rfl rfl rfl) (y_call (hf.eval rfl) (hf.evals rfl) Tryz.call17 ((num_spec _ _).mono ?_))
  rintro e w1 ⟨rfl, hw9⟩
  rw [hw9]
  clear hw9 w1
  refine ⟨_, rfl, ?_⟩; clear hf a; intro a hf
  refine s_do hf (wanted_of hf rfl rfl rfl) (.value (x_bin (hf.eval rfl) (hf.eval rfl) (r_ne _ _ _ _) _) ?_); clear hf a; intro a hf
  refine s_v hf (x_pick_f (hf.eval rfl) (hf.eval rfl)) ?_; clear hf a; intro a hf
  refine s_nil ?_
  refine then_n ?_
  refine c_cond_f hf rfl (by first | rfl | simp) ?_
  refine wp_skip ?_
  refine then_n ?_
  refine wp_seq ?_
  refine wp_region_lit ?_
  refine s_m hf rfl ?_; clear hf a; intro a hf
  refine s_m hf rfl ?_; clear hf a; intro a hf
  refine s_v hf (x_nilCheck (hf.eval rfl)) ?_; clear hf a; intro a hf
  refine s_v hf (x_fieldAddr fo78_0 (hf.eval rfl)) ?_; clear hf a; intro a hf
  refine s_do0 hf rfl (y_store hs sc24 (hf.eval rfl) (hf.eval rfl) rfl (by repeat constructor) (by simp) ?_); clear hf hs a; intro w hs a hf
  refine s_nil ?_
  refine then_n ?_
  refine wp_seq ?_
  refine wp_region_lit ?_
  refine s_m hf rfl ?_; clear hf a; intro a hf
  replace hs := hs.take (A := diskA 85 127 5 3 p2 (newS im bk.s.room)) (by repeat constructor)
  refine s_do hf rfl (y_call (hf.eval rfl) (hf.evals rfl) Tryz.call21 ((dImage_spec _ _ _ p2 _ hs (by show im.length ≤ _; omega)).mono ?_))
  rintro e w1 ⟨a7, c7, rfl, hs⟩
  replace hs : St _ _ (slB 5 (.slice a7 im.length c7) im :: _) := hs
  refine ⟨_, rfl, ?_⟩; clear hf a; intro a hf
  refine s_do hf rfl (y_call (hf.eval rfl) (hf.evals rfl) Tryz.call34 ((look_spec _ (hT.kept hs.kept) _ _ im (hs.rdB .k0 fun h => slB_rd) (by omega)).mono ?_))
  rintro e w1 ⟨gx, cgx, rfl, hj⟩
  replace hs := hs.join hj
  simp only [List.cons_append, List.nil_append] at hs
  rw [hxx] at hs ⊢
  refine ⟨_, rfl, ?_⟩; clear hf a; intro a hf
  refine s_m hf rfl ?_; clear hf a; intro a hf
  refine s_v hf (x_extract (hf.eval rfl) rfl) ?_; clear hf a; intro a hf
  refine s_v hf (x_extract (hf.eval rfl) rfl) ?_; clear hf a; intro a hf
  refine s_do hf rfl (y_alloc hs Tryz.zeroValue37 ?_); clear hf hs a; intro b10 w hs a hf
  change St _ _ (cb b10 37 (vdF (0, 0, 0)) :: _) at hs
  refine s_do0 hf rfl (y_storeAgg (cs := vdF (lkV im).1) hs (n := 3) (by kernel_rfl) (hf.eval rfl) (hf.eval rfl) (by simp [Value.oneCell', vdF]) rfl rfl .k0 ?_); clear hf hs a; intro w hs a hf
  refine s_a hf rfl ?_; clear hf a; intro a hf
  refine s_nil ?_
  refine then_n ?_
  refine c_join (N := 148) (L0 := [(0, _), (4, _), (10, _), (11, _)]) (fun M w => ∃ (aN : Option Addr) (cN : Nat) (nN : List UInt8), M = [(125, .bool (bk.op && decide (x = bk.next)))] ∧ x = nN ∧ (nN = bk.now ∨ (bk.op = true ∧ nN = bk.next)) ∧ St ⟨w0, None_⟩ w [diskA 85 127 5 3 p2 (newS im bk.s.room), cb q 78 [.pointer (some ⟨p2, 0, none⟩), .slice aN nN.length cN, vy, .bool bk.op, .bool bk.rest, .int .i64 cap], slB 5 (.slice aN nN.length cN) nN, cb b10 37 (vdF (lkV im).1), slB 5 (.slice gx x.length cgx) x]) (hf.sub ⟨rfl, rfl, rfl, rfl, trivial⟩) ?_ ?_
  ·refine c_join (N := 148) (L0 := [(0, _), (4, _), (10, _), (11, _)]) (fun M w => M = [(125, .bool (bk.op && decide (x = bk.next)))] ∧ St ⟨w0, None_⟩ w [diskA 85 127 5 3 p2 (newS im bk.s.room), cb q 78 [.pointer (some ⟨p2, 0, none⟩), .slice a1 bk.now.length c1, vy, .bool bk.op, .bool bk.rest, .int .i64 cap], slB 5 (.slice a1 bk.now.length c1) bk.now, slB 5 (.slice an bk.next.length cn) bk.next, cb b10 37 (vdF (lkV im).1), slB 5 (.slice gx x.length cgx) x]) (hf.sub ⟨rfl, rfl, rfl, rfl, trivial⟩) ?_ ?_
   ·refine wp_region_lit ?_
    refine s_m hf rfl ?_; clear hf a; intro a hf
    refine s_v hf (x_nilCheck (hf.eval rfl)) ?_; clear hf a; intro a hf
    refine s_v hf (x_fieldAddr fo78_3 (hf.eval rfl)) ?_; clear hf a; intro a hf
    refine s_r hf (x_load sc4 (hf.eval rfl) (by apply hs.cell <;> repeat constructor)) ?_; clear hf a; intro a hf
    refine s_m hf rfl ?_; clear hf a; intro a hf
    refine s_bool hf (k := 118) rfl (fun hg19_4 hf' => ?_) (fun hg19_4 hf' => ?_)
    ·clear hf
     have hf := hf'
     clear hf'
     have hvv := hvy hg19_4
     refine s_do hf (wanted_of hf rfl rfl rfl) (.value (x_move (hf.eval rfl) _) ?_); clear hf a; intro a hf
     refine s_do hf (wanted_of hf rfl rfl rfl) (.value (x_move (hf.eval rfl) _) ?_); clear hf a; intro a hf
     refine s_do hf (wanted_of hf rfl rfl rfl) (.value (x_nilCheck (hf.eval rfl) _) ?_); clear hf a; intro a hf
     refine s_do hf (wanted_of hf rfl rfl rfl) (.value (x_fieldAddr fo78_2 (hf.eval rfl) _) ?_); clear hf a; intro a hf
     refine s_do hf (wanted_of hf rfl rfl rfl) (.value (x_load sc22 (hf.eval rfl) (by apply hs.cell <;> repeat constructor)) ?_); clear hf a; intro a hf
     replace hf := hf.now (k := 123) (v' := .slice an bk.next.length cn) rfl (hvv)
     refine s_do hf (wanted_of hf rfl rfl rfl) (y_call (hf.eval rfl) (hf.evals rfl) Tryz.call20 ((same_spec _ _ _ x (hs.rdB (A := slB 5 (.slice gx x.length cgx) x) (by repeat constructor) fun h => slB_rd) _ _ bk.next (hs.rdB (A := slB 5 (.slice an bk.next.length cn) bk.next) (by repeat constructor) fun h => slB_rd) (by omega)).mono ?_))
     rintro e w1 ⟨rfl, hk⟩
     replace hs := hs.ext hk
     refine ⟨_, rfl, ?_⟩; clear hf a; intro a hf
     refine s_v hf (x_pick_t (hf.eval rfl) (hf.eval rfl)) ?_; clear hf a; intro a hf
     refine s_nil ?_
     refine then_n ?_
     replace hs := hs.take (A := slB 5 (.slice gx x.length cgx) x) (by repeat constructor)
     replace hs := hs.take (A := cb b10 37 (vdF (lkV im).1)) (by repeat constructor)
     replace hs := hs.take (A := slB 5 (.slice an bk.next.length cn) bk.next) (by repeat constructor)
     replace hs := hs.take (A := slB 5 (.slice a1 bk.now.length c1) bk.now) (by repeat constructor)
     replace hs := hs.take (A := cb q 78 [.pointer (some ⟨p2, 0, none⟩), .slice a1 bk.now.length c1, vy, .bool bk.op, .bool bk.rest, .int .i64 cap]) (by repeat constructor)
     replace hs := hs.take (A := diskA 85 127 5 3 p2 (newS im bk.s.room)) (by repeat constructor)
     replace hs := St.keep [_, _, _, _, _, _] _ hs
     replace hf := hf.now (k := 125) (v' := .bool (bk.op && decide (x = bk.next))) rfl (by rw [hg19_4]; rfl)
     exact ⟨_, ⟨rfl, hs⟩, hf.sub ⟨rfl, rfl, rfl, rfl, rfl, trivial⟩⟩
    clear hf
    have hf := hf'
    clear hf'
    refine s_pass hf rfl rfl ?_; clear hf a; intro a hf
    refine s_pass hf rfl rfl ?_; clear hf a; intro a hf
    refine s_pass hf rfl rfl ?_; clear hf a; intro a hf
    refine s_pass hf rfl rfl ?_; clear hf a; intro a hf
    refine s_pass hf rfl rfl ?_; clear hf a; intro a hf
    refine s_pass hf rfl rfl ?_; clear hf a; intro a hf
    refine s_v hf (x_pick_f (hf.eval rfl) (hf.eval rfl)) ?_; clear hf a; intro a hf
    refine s_nil ?_
    refine then_n ?_
    replace hs := hs.take (A := slB 5 (.slice gx x.length cgx) x) (by repeat constructor)
    replace hs := hs.take (A := cb b10 37 (vdF (lkV im).1)) (by repeat constructor)
    replace hs := hs.take (A := slB 5 (.slice an bk.next.length cn) bk.next) (by repeat constructor)
    replace hs := hs.take (A := slB 5 (.slice a1 bk.now.length c1) bk.now) (by repeat constructor)
    replace hs := hs.take (A := cb q 78 [.pointer (some ⟨p2, 0, none⟩), .slice a1 bk.now.length c1, vy, .bool bk.op, .bool bk.rest, .int .i64 cap]) (by repeat constructor)
    replace hs := hs.take (A := diskA 85 127 5 3 p2 (newS im bk.s.room)) (by repeat constructor)
    replace hs := St.keep [_, _, _, _, _, _] _ hs
    replace hf := hf.now (k := 125) (v' := .bool (bk.op && decide (x = bk.next))) rfl (by rw [hg19_4]; rfl)
    exact ⟨_, ⟨rfl, hs⟩, hf.sub ⟨rfl, rfl, rfl, rfl, rfl, trivial⟩⟩
   clear hf hs a
   rintro M a w ⟨rfl, hs⟩ hf
   refine c_cond hf rfl (fun hi5 => ?_) (fun hi5 => ?_)
   ·simp only [Bool.and_eq_true, decide_eq_true_eq, Bool.and_eq_false_iff, decide_eq_false_iff_not] at hi5
    have hvv := hvy hi5.1
    refine wp_region_lit ?_
    refine s_m hf rfl ?_; clear hf a; intro a hf
    refine s_m hf rfl ?_; clear hf a; intro a hf
    refine s_v hf (x_nilCheck (hf.eval rfl)) ?_; clear hf a; intro a hf
    refine s_v hf (x_fieldAddr fo78_2 (hf.eval rfl)) ?_; clear hf a; intro a hf
    refine s_r hf (x_load sc22 (hf.eval rfl) (by apply hs.cell <;> repeat constructor)) ?_; clear hf a; intro a hf
    replace hf := hf.now (k := 130) (v' := .slice an bk.next.length cn) rfl (hvv)
    refine s_v hf (x_nilCheck (hf.eval rfl)) ?_; clear hf a; intro a hf
    refine s_v hf (x_fieldAddr fo78_1 (hf.eval rfl)) ?_; clear hf a; intro a hf
    refine s_do0 hf rfl (y_store hs sc22 (hf.eval rfl) (hf.eval rfl) rfl (by repeat constructor) (by simp) ?_); clear hf hs a; intro w hs a hf
    refine s_nil ?_
    refine then_n ?_
    exact ⟨_, ⟨_, _, _, rfl, by first | exact hi5.2 | exact hxn, by first | exact .inr ⟨hi5.1, rfl⟩ | exact .inl rfl, by first | (replace hs := hs.take (A := slB 5 (.slice gx x.length cgx) x) (by repeat constructor); replace hs := hs.take (A := cb b10 37 (vdF (lkV im).1)) (by repeat constructor); replace hs := hs.take (A := slB 5 (.slice an bk.next.length cn) bk.next) (by repeat constructor); replace hs := hs.take (A := cb q 78 [.pointer (some ⟨p2, 0, none⟩), .slice an bk.next.length cn, vy, .bool bk.op, .bool bk.rest, .int .i64 cap]) (by repeat constructor); replace hs := hs.take (A := diskA 85 127 5 3 p2 (newS im bk.s.room)) (by repeat constructor); exact St.keep [_, _, _, _, _] _ hs) | (replace hs := hs.take (A := slB 5 (.slice gx x.length cgx) x) (by repeat constructor); replace hs := hs.take (A := cb b10 37 (vdF (lkV im).1)) (by repeat constructor); replace hs := hs.take (A := slB 5 (.slice a1 bk.now.length c1) bk.now) (by repeat constructor); replace hs := hs.take (A := cb q 78 [.pointer (some ⟨p2, 0, none⟩), .slice a1 bk.now.length c1, vy, .bool bk.op, .bool bk.rest, .int .i64 cap]) (by repeat constructor); replace hs := hs.take (A := diskA 85 127 5 3 p2 (newS im bk.s.room)) (by repeat constructor); exact St.keep [_, _, _, _, _] _ hs)⟩, hf.sub ⟨rfl, rfl, rfl, rfl, rfl, trivial⟩⟩
   simp only [Bool.and_eq_true, decide_eq_true_eq, Bool.and_eq_false_iff, decide_eq_false_iff_not] at hi5
   have hxn : x = bk.now := hout.resolve_right (fun h => by rcases hi5 with h9 | h9; rw [h.1] at h9; cases h9; exact h9 h.2)
   refine wp_skip ?_
   refine then_n ?_
   exact ⟨_, ⟨_, _, _, rfl, by first | exact hi5.2 | exact hxn, by first | exact .inr ⟨hi5.1, rfl⟩ | exact .inl rfl, by first | (replace hs := hs.take (A := slB 5 (.slice gx x.length cgx) x) (by repeat constructor); replace hs := hs.take (A := cb b10 37 (vdF (lkV im).1)) (by repeat constructor); replace hs := hs.take (A := slB 5 (.slice an bk.next.length cn) bk.next) (by repeat constructor); replace hs := hs.take (A := cb q 78 [.pointer (some ⟨p2, 0, none⟩), .slice an bk.next.length cn, vy, .bool bk.op, .bool bk.rest, .int .i64 cap]) (by repeat constructor); replace hs := hs.take (A := diskA 85 127 5 3 p2 (newS im bk.s.room)) (by repeat constructor); exact St.keep [_, _, _, _, _] _ hs) | (replace hs := hs.take (A := slB 5 (.slice gx x.length cgx) x) (by repeat constructor); replace hs := hs.take (A := cb b10 37 (vdF (lkV im).1)) (by repeat constructor); replace hs := hs.take (A := slB 5 (.slice a1 bk.now.length c1) bk.now) (by repeat constructor); replace hs := hs.take (A := cb q 78 [.pointer (some ⟨p2, 0, none⟩), .slice a1 bk.now.length c1, vy, .bool bk.op, .bool bk.rest, .int .i64 cap]) (by repeat constructor); replace hs := hs.take (A := diskA 85 127 5 3 p2 (newS im bk.s.room)) (by repeat constructor); exact St.keep [_, _, _, _, _] _ hs)⟩, hf.sub ⟨rfl, rfl, rfl, rfl, rfl, trivial⟩⟩
  clear hf hs a
  rintro M a w ⟨aN, cN, nN, rfl, hxn, hnn, hs⟩ hf
  refine wp_seq ?_
  refine wp_region_lit ?_
  refine s_m hf rfl ?_; clear hf a; intro a hf
  refine s_v hf (x_nilCheck (hf.eval rfl)) ?_; clear hf a; intro a hf
  refine s_v hf (x_fieldAddr fo78_3 (hf.eval rfl)) ?_; clear hf a; intro a hf
  refine s_do0 hf rfl (y_store hs sc4 (hf.eval rfl) (hf.eval rfl) rfl (by repeat constructor) (by simp) ?_); clear hf hs a; intro w hs a hf
  refine s_nil ?_
  refine then_n ?_
  refine wp_seq ?_
  refine wp_region_lit ?_
  refine s_m hf rfl ?_; clear hf a; intro a hf
  refine s_v hf (x_fieldAddr fo37_0 (hf.eval rfl)) ?_; clear hf a; intro a hf
  replace hs := hs.take (A := cb b10 37 (vdF (lkV im).1)) (by repeat constructor)
  refine s_r hf (x_load sc3 (hf.eval rfl) (hs.cell (k := 0) .k0 rfl)) ?_; clear hf a; intro a hf
  replace hf := hf.now (k := 138) (v' := .int .i64 (lkV im).1.1) rfl (rfl)
  refine s_v hf (x_bin (hf.eval rfl) (hf.eval rfl) (r_eq _ _ _ _)) ?_; clear hf a; intro a hf
  refine s_v hf (x_nilCheck (hf.eval rfl)) ?_; clear hf a; intro a hf
  refine s_v hf (x_fieldAddr fo78_4 (hf.eval rfl)) ?_; clear hf a; intro a hf
  refine s_do0 hf rfl (y_store hs sc4 (hf.eval rfl) (hf.eval rfl) rfl (by repeat constructor) (by simp) ?_); clear hf hs a; intro w hs a hf
  refine s_nil ?_
  refine then_n ?_
  refine wp_seq ?_
  refine wp_region_lit ?_
  refine s_m hf rfl ?_; clear hf a; intro a hf
  refine s_m hf rfl ?_; clear hf a; intro a hf
  refine s_v hf (x_nilCheck (hf.eval rfl)) ?_; clear hf a; intro a hf
  refine s_v hf (x_fieldAddr fo78_1 (hf.eval rfl)) ?_; clear hf a; intro a hf
  refine s_r hf (x_load sc22 (hf.eval rfl) (by apply hs.cell <;> repeat constructor)) ?_; clear hf a; intro a hf
  refine s_do hf rfl (y_call (hf.eval rfl) (hf.evals rfl) Tryz.call20 ((same_spec _ _ _ x (hs.rdB (A := slB 5 (.slice gx x.length cgx) x) (by repeat constructor) fun h => slB_rd) _ _ nN (hs.rdB (A := slB 5 (.slice aN nN.length cN) nN) (by repeat constructor) fun h => slB_rd) (by omega)).mono ?_))
  rintro e w1 ⟨rfl, hk⟩
  replace hs := hs.ext hk
  refine ⟨_, rfl, ?_⟩; clear hf a; intro a hf
  refine s_a hf rfl ?_; clear hf a; intro a hf
  refine s_nil ?_
  refine then_n ?_
  refine wp_ret ?_
  refine blk_r (then_r ?_)
  refine r_1 hf Tryz.results36 rfl ?_
  replace hs := hs.take (A := slB 5 (.slice aN nN.length cN) nN) (by repeat constructor)
  replace hs := hs.take (A := cb q 78 [.pointer (some ⟨p2, 0, none⟩), .slice aN nN.length cN, vy, .bool false, .bool (decide ((lkV im).1.1 = 0)), .int .i64 cap]) (by repeat constructor)
  replace hs := hs.take (A := diskA 85 127 5 3 p2 (newS im bk.s.room)) (by repeat constructor)
  replace hs := (St.keep [_, _, _] _ hs).emp (slB_nil 5)
  skip
  replace hs := hs.take (A := slB 5 (.slice aN nN.length cN) nN) (by repeat constructor)
  replace hs := hs.take (A := cb q 78 [.pointer (some ⟨p2, 0, none⟩), .slice aN nN.length cN, vy, .bool false, .bool (decide ((lkV im).1.1 = 0)), .int .i64 cap]) (by repeat constructor)
  replace hs := hs.take (A := diskA 85 127 5 3 p2 (newS im bk.s.room)) (by repeat constructor)
  exact ⟨by simp [hxn], ⟨newS im bk.s.room, nN, [], false, decide ((lkV im).1.1 = 0)⟩, p2, aN, cN, vy, _, hcap, (by simp), bi_up (bi_crash hb (ch.1, ch.2.1.2.2, ch.2.2) x nN im him hxx hxn hnn []) (by omega), hs⟩
 first | simp only [zd1, zd2, zd3, zd4, ne_eq, Classical.not_not] at hi3 | skip
 refine wp_skip ?_
 refine blk_n ?_
 refine then_n ?_
 refine wp_seq ?_
 refine wp_region_lit ?_
 refine s_a hf rfl ?_; clear hf a; intro a hf
 refine s_nil ?_
 refine then_n ?_
 refine wp_ret ?_
 refine r_1 hf Tryz.results36 rfl ?_
 replace hs := hs.take (A := slB 5 (.slice an bk.next.length cn) bk.next) (by repeat constructor)
 replace hs := hs.take (A := slB 5 (.slice a1 bk.now.length c1) bk.now) (by repeat constructor)
 replace hs := hs.take (A := cb q 78 [.pointer (some ⟨P, 0, none⟩), .slice a1 bk.now.length c1, vy, .bool bk.op, .bool bk.rest, .int .i64 cap]) (by repeat constructor)
 replace hs := hs.take (A := diskA 85 127 5 3 P bk.s) (by repeat constructor)
 exact ⟨rfl, bk, P, a1, c1, vy, _, hcap, hvy, bi_up hb (by omega), St.keep [_, _, _, _] _ hs⟩
abbrev StQ := Int × Int × Int × (Option Addr × Nat × List Wr) × Int × ChQ
def stF (o : StQ) : List Value := .int .i64 o.1 :: .int .i64 o.2.1 :: .int .i64 o.2.2.1 :: .slice o.2.2.2.1.1 o.2.2.2.1.2.2.length o.2.2.2.1.2.1 :: .int .i64 o.2.2.2.2.1 :: chF o.2.2.2.2.2
structure StG (h : Heaplet) (o : StQ) : Prop where
  rd : RdS wF 2 h (.slice o.2.2.2.1.1 o.2.2.2.1.2.2.length o.2.2.2.1.2.1) o.2.2.2.1.2.2
  len : o.2.2.2.1.2.2.length ≤ 1048576
  good : ∀ z ∈ o.2.2.2.1.2.2, RdB h (.slice z.2.1 z.2.2.2.length z.2.2.1) z.2.2.2 ∧ z.2.2.2.length ≤ 1048576
  fu : o.2.2.2.2.1 ≤ 9223372036854775807
  ch : ChG h o.2.2.2.2.2
def cost (o : StQ) : Nat := 20 + o.2.2.2.1.2.2.length
def costs (l : List StQ) : Nat := (l.map cost).sum
theorem costs_succ {l : List StQ} {i : Nat} (h : i < l.length) : costs (l.take (i + 1)) = costs (l.take i) + cost l[i] := by
  unfold costs
  rw [List.take_succ_eq_append_getElem h, List.map_append, List.sum_append]
  simp
theorem costs_le (l : List StQ) (i : Nat) : costs (l.take i) ≤ costs l := by
  have h : costs l = costs (l.take i) + costs (l.drop i) := by
    unfold costs
    rw [← List.sum_append, ← List.map_append, List.take_append_drop]
  omega
theorem costs_mul {g : StQ → Nat} (h : ∀ z, cost z ≤ 21 * g z) : ∀ l : List StQ, costs l ≤ 21 * (l.map g).sum
  | [] => Nat.le_refl _
  | z :: l => by
    have := costs_mul h l
    have := h z
    simp only [costs, List.map_cons, List.sum_cons] at *
    omega
theorem scripts_spec (w0 : World) (hT : Tab 0 (hp w0)) (a1 : Option Addr) (c1 : Nat) (c : List UInt8) (hr1 : RdB (hp w0) (.slice a1 c.length c1) c) (hl1 : c.length ≤ 1048576) (cap : Int) (ax : Option Addr) (cx : Nat) (scr : List StQ) (hrx : RdS stF 8 (hp w0) (.slice ax scr.length cx) scr) (hgx : ∀ z ∈ scr, StG (hp w0) z) (hlx : scr.length ≤ 1048576) (hcs : costs scr ≤ 23000000) : Calls Tryz.prog 6 #[.slice a1 c.length c1, .int .i64 cap, .slice ax scr.length cx] w0 fun e w' => e = .returned (.bool true) ∧ Kept w0 w' None_ := by
 have hs := St.start w0 None_
 refine c_enter (N := 95) Tryz.func6 rfl Tryz.ntmps6 (by simp) ?_
 intro a hf
 refine wp_seq ?_
 refine wp_region_lit ?_
 refine s_a hf rfl ?_; clear hf a; intro a hf
 refine s_nil ?_
 refine then_n ?_
 refine wp_seq ?_
 refine wp_region_lit ?_
 refine s_do hf rfl (y_call (hf.eval rfl) (hf.evals rfl) Tryz.call28 ((small_spec _ hT).mono ?_))
 rintro e w1 ⟨rfl, hk⟩
 replace hs := hs.ext hk
 refine ⟨_, rfl, ?_⟩; clear hf a; intro a hf
 refine s_a hf rfl ?_; clear hf a; intro a hf
 refine s_nil ?_
 refine then_n ?_
 refine wp_seq ?_
 refine wp_seq ?_
 refine wp_region_lit ?_
 refine s_m hf rfl ?_; clear hf a; intro a hf
 refine s_v hf (x_not (hf.eval rfl)) ?_; clear hf a; intro a hf
 refine s_m hf rfl ?_; clear hf a; intro a hf
 replace hf := hf.now (k := 17) (v' := .bool false) rfl (congrArg Value.bool (by first | rfl | simp))
 refine s_do hf (wanted_of hf rfl rfl rfl) (.value (x_move (hf.eval rfl) _) ?_); clear hf a; intro a hf
 refine s_do hf (wanted_of hf rfl rfl rfl) (.value (x_move (hf.eval rfl) _) ?_); clear hf a; intro a hf
 refine s_do hf (wanted_of hf rfl rfl rfl) (.value (x_len Tryz.underlying22 (hf.eval rfl) _) ?_); clear hf a; intro a hf
 refine s_do hf (wanted_of hf rfl rfl rfl) (.value (x_bin (hf.eval rfl) (hf.eval rfl) (r_lt _ _ _ _) _) ?_); clear hf a; intro a hf
 refine s_v hf (x_pick_f (hf.eval rfl) (hf.eval rfl)) ?_; clear hf a; intro a hf
 refine s_m hf rfl ?_; clear hf a; intro a hf
 refine s_bool hf (k := 23) rfl (fun hg2_8 hf' => ?_) (fun hg2_8 hf' => ?_)
 ·clear hf
  have hf := hf'
  clear hf'
  first | simp only [zd1, zd2, zd3, zd4, ne_eq, Classical.not_not] at hg2_8 | skip
  refine s_pass hf rfl rfl ?_; clear hf a; intro a hf
  refine s_pass hf rfl rfl ?_; clear hf a; intro a hf
  refine s_v hf (x_pick_t (hf.eval rfl) (hf.eval rfl)) ?_; clear hf a; intro a hf
  refine s_m hf rfl ?_; clear hf a; intro a hf
  refine s_pass hf rfl rfl ?_; clear hf a; intro a hf
  refine s_pass hf rfl rfl ?_; clear hf a; intro a hf
  refine s_pass hf rfl rfl ?_; clear hf a; intro a hf
  refine s_v hf (x_pick_t (hf.eval rfl) (hf.eval rfl)) ?_; clear hf a; intro a hf
  refine s_nil ?_
  refine then_n ?_
  refine c_cond_t hf rfl rfl ?_
  refine wp_seq ?_
  refine wp_region_lit ?_
  refine s_m hf rfl ?_; clear hf a; intro a hf
  refine s_a hf rfl ?_; clear hf a; intro a hf
  refine s_nil ?_
  refine then_n ?_
  refine wp_ret ?_
  refine then_r ?_
  refine r_1 hf Tryz.results6 rfl ?_
  exact ⟨rfl, hs.kept⟩
 clear hf
 have hf := hf'
 clear hf'
 first | simp only [zd1, zd2, zd3, zd4, ne_eq, Classical.not_not] at hg2_8 | skip
 refine s_do hf (wanted_of hf rfl rfl rfl) (.value (x_move (hf.eval rfl) _) ?_); clear hf a; intro a hf
 refine s_do hf (wanted_of hf rfl rfl rfl) (.value (x_bin (hf.eval rfl) (hf.eval rfl) (r_gt _ _ _ _) _) ?_); clear hf a; intro a hf
 refine s_v hf (x_pick_f (hf.eval rfl) (hf.eval rfl)) ?_; clear hf a; intro a hf
 refine s_m hf rfl ?_; clear hf a; intro a hf
 refine s_bool hf (k := 27) rfl (fun hg2_12 hf' => ?_) (fun hg2_12 hf' => ?_)
 ·clear hf
  have hf := hf'
  clear hf'
  first | simp only [zd1, zd2, zd3, zd4, ne_eq, Classical.not_not] at hg2_12 | skip
  refine s_pass hf rfl rfl ?_; clear hf a; intro a hf
  refine s_pass hf rfl rfl ?_; clear hf a; intro a hf
  refine s_pass hf rfl rfl ?_; clear hf a; intro a hf
  refine s_v hf (x_pick_t (hf.eval rfl) (hf.eval rfl)) ?_; clear hf a; intro a hf
  refine s_nil ?_
  refine then_n ?_
  refine c_cond_t hf rfl rfl ?_
  refine wp_seq ?_
  refine wp_region_lit ?_
  refine s_m hf rfl ?_; clear hf a; intro a hf
  refine s_a hf rfl ?_; clear hf a; intro a hf
  refine s_nil ?_
  refine then_n ?_
  refine wp_ret ?_
  refine then_r ?_
  refine r_1 hf Tryz.results6 rfl ?_
  exact ⟨rfl, hs.kept⟩
 clear hf
 have hf := hf'
 clear hf'
 first | simp only [zd1, zd2, zd3, zd4, ne_eq, Classical.not_not] at hg2_12 | skip
 refine s_do hf (wanted_of hf rfl rfl rfl) (.value (x_move (hf.eval rfl) _) ?_); clear hf a; intro a hf
 refine s_do hf (wanted_of hf rfl rfl rfl) (y_call (hf.eval rfl) (hf.evals rfl) Tryz.call35 ((rquiet_spec _ _ _ c (hs.oldB hr1) (by omega)).mono ?_))
 rintro e w1 ⟨rfl, hk⟩
 replace hs := hs.ext hk
 refine ⟨_, rfl, ?_⟩; clear hf a; intro a hf
 refine s_do hf (wanted_of hf rfl rfl rfl) (.value (x_not (hf.eval rfl) _) ?_); clear hf a; intro a hf
 refine s_v hf (x_pick_f (hf.eval rfl) (hf.eval rfl)) ?_; clear hf a; intro a hf
 refine s_nil ?_
 refine then_n ?_
 refine c_cond hf rfl (fun hi0 => ?_) (fun hi0 => ?_)
 ·first | simp only [zd1, zd2, zd3, zd4, ne_eq, Classical.not_not] at hi0 | skip
  refine wp_seq ?_
  refine wp_region_lit ?_
  refine s_m hf rfl ?_; clear hf a; intro a hf
  refine s_a hf rfl ?_; clear hf a; intro a hf
  refine s_nil ?_
  refine then_n ?_
  refine wp_ret ?_
  refine then_r ?_
  refine r_1 hf Tryz.results6 rfl ?_
  exact ⟨rfl, hs.kept⟩
 first | simp only [zd1, zd2, zd3, zd4, ne_eq, Classical.not_not] at hi0 | skip
 refine wp_skip ?_
 refine then_n ?_
 refine wp_seq ?_
 refine wp_region_lit ?_
 refine s_m hf rfl ?_; clear hf a; intro a hf
 refine s_do hf rfl (y_call (hf.eval rfl) (hf.evals rfl) Tryz.call30 ((copied_spec _ _ _ c (hs.oldB hr1) (by omega)).mono ?_))
 rintro e w1 ⟨a2, c2, rfl, hj⟩
 replace hs := hs.join hj
 simp only [List.cons_append, List.nil_append] at hs
 refine ⟨_, rfl, ?_⟩; clear hf a; intro a hf
 refine s_m hf rfl ?_; clear hf a; intro a hf
 refine s_do hf rfl (y_call (hf.eval rfl) (hf.evals rfl) Tryz.call7 ((dNew_in _ _ _ c (hs.rdB .k0 fun h => slB_rd) (by omega) cap (by omega) (by omega) (by omega)).mono ?_))
 rintro e w1 ⟨P, rfl, hj⟩
 replace hs := hs.join hj
 simp only [List.cons_append, List.nil_append] at hs
 refine ⟨_, rfl, ?_⟩; clear hf a; intro a hf
 refine s_m hf rfl ?_; clear hf a; intro a hf
 refine s_v hf (x_extract (hf.eval rfl) rfl) ?_; clear hf a; intro a hf
 refine s_v hf (x_extract (hf.eval rfl) rfl) ?_; clear hf a; intro a hf
 refine s_a hf rfl ?_; clear hf a; intro a hf
 refine s_a hf rfl ?_; clear hf a; intro a hf
 refine s_nil ?_
 refine then_n ?_
 refine wp_seq ?_
 refine wp_region_lit ?_
 refine s_m hf rfl ?_; clear hf a; intro a hf
 refine s_m hf rfl ?_; clear hf a; intro a hf
 refine s_do hf rfl (y_call (hf.eval rfl) (hf.evals rfl) Tryz.call30 ((copied_spec _ _ _ c (hs.oldB hr1) (by omega)).mono ?_))
 rintro e w1 ⟨a5, c5, rfl, hj⟩
 replace hs := hs.join hj
 simp only [List.cons_append, List.nil_append] at hs
 refine ⟨_, rfl, ?_⟩; clear hf a; intro a hf
 refine s_m hf rfl ?_; clear hf a; intro a hf
 refine s_r hf (x_build (v := .agg #[.pointer (some ⟨P, 0, none⟩), .slice a5 c.length c5, .slice none 0 0, .bool false, .bool true, .int .i64 cap]) (hf.parts rfl) (fun w => by kernel_rfl) _) ?_; clear hf a; intro a hf
 refine s_do hf rfl (y_box hs (hf.eval rfl) ?_); clear hf hs a; intro q w hs a hf
 replace hs : St _ w (cb q 78 [.pointer (some ⟨P, 0, none⟩), .slice a5 c.length c5, .slice none 0 0, .bool false, .bool true, .int .i64 cap] :: _) := hs
 replace hs := hs.take (A := slB 5 (.slice a5 c.length c5) c) (by repeat constructor)
 replace hs := hs.take (A := cb q 78 [.pointer (some ⟨P, 0, none⟩), .slice a5 c.length c5, .slice none 0 0, .bool false, .bool true, .int .i64 cap]) (by repeat constructor)
 replace hs := hs.take (A := diskA 85 127 5 3 P (newS c cap)) (by repeat constructor)
 replace hs := (St.keep [_, _, _] _ hs).emp (slB_nil 5)
 replace hs := hs.take (A := slB 5 (.slice a5 c.length c5) c) (by repeat constructor)
 replace hs := hs.take (A := cb q 78 [.pointer (some ⟨P, 0, none⟩), .slice a5 c.length c5, .slice none 0 0, .bool false, .bool true, .int .i64 cap]) (by repeat constructor)
 replace hs := hs.take (A := diskA 85 127 5 3 P (newS c cap)) (by repeat constructor)
 refine s_a hf rfl ?_; clear hf a; intro a hf
 refine s_nil ?_
 refine then_n ?_
 refine wp_seq ?_
 refine wp_seq ?_
 refine wp_region_lit ?_
 refine s_a hf rfl ?_; clear hf a; intro a hf
 refine s_nil ?_
 refine then_n ?_
 refine wp_block ?_
 refine c_loop (L0 := [(2, _), (8, _), (10, _)]) (fun M w m => ∃ (i : Nat) (bk : Bk) (P : Nat) (a5 : Option Addr) (c5 : Nat) (vy vx : Value), M = [(11, .int .i64 (i : Int))] ∧ scr.length - i = m ∧ i ≤ scr.length ∧ bk.s.room = cap ∧ (bk.op = true → vy = vx) ∧ BI bk (costs (scr.take i)) ∧ St ⟨w0, None_⟩ w [diskA 85 127 5 3 P bk.s, cb q 78 [.pointer (some ⟨P, 0, none⟩), .slice a5 bk.now.length c5, vy, .bool bk.op, .bool bk.rest, .int .i64 cap], slB 5 (.slice a5 bk.now.length c5) bk.now, slB 5 (vx) bk.next]) (M0 := [(11, .int .i64 0)]) (⟨0, ⟨newS c cap, c, [], false, true⟩, P, a5, c5, _, _, rfl, rfl, Nat.zero_le _, rfl, (by simp), bi_new (by omega) (by omega) hi0, hs⟩) (hf.sub ⟨rfl, rfl, rfl, rfl, trivial⟩) ?_
 clear hf hs a
 rintro M m a w ⟨i, bk, P, a5, c5, vy, vx, rfl, rfl, hi, hcap, hvy, hbi, hs⟩ hf
 refine wp_seq ?_
 refine wp_seq ?_
 refine wp_region_lit ?_
 refine s_m hf rfl ?_; clear hf a; intro a hf
 refine s_m hf rfl ?_; clear hf a; intro a hf
 refine s_v hf (x_len Tryz.underlying74 (hf.eval rfl)) ?_; clear hf a; intro a hf
 refine s_v hf (x_bin (hf.eval rfl) (hf.eval rfl) (r_lt _ _ _ _)) ?_; clear hf a; intro a hf
 refine s_nil ?_
 refine then_n ?_
 refine c_cond hf rfl (fun hi1 => ?_) (fun hi1 => ?_)
 ·first | simp only [zd1, zd2, zd3, zd4, ne_eq, Classical.not_not] at hi1 | skip
  have hlt : i < scr.length := by omega
  obtain ⟨ax, rfl⟩ := hrx.some (by omega)
  have hg := hgx _ (List.getElem_mem hlt)
  have hcl := costs_le scr i
  refine wp_skip ?_
  refine then_n ?_
  refine wp_seq ?_
  refine wp_block ?_
  refine wp_seq ?_
  refine wp_region_lit ?_
  refine s_m hf rfl ?_; clear hf a; intro a hf
  refine s_m hf rfl ?_; clear hf a; intro a hf
  refine s_m hf rfl ?_; clear hf a; intro a hf
  refine s_v hf (x_indexAddr sl74 (hf.eval rfl) (hf.eval rfl) (by omega) (by omega)) ?_; clear hf a; intro a hf
  refine s_r hf (x_loadS (f := stF) ag81 (fun _ => rfl) (hs.old hrx) (hf.eval rfl) (by simpa using hlt)) ?_; clear hf a; intro a hf
  replace hf := hf.now (k := 56) (v' := .agg #[.int .i64 scr[i].1, .int .i64 scr[i].2.1, .int .i64 scr[i].2.2.1, .slice scr[i].2.2.2.1.1 scr[i].2.2.2.1.2.2.length scr[i].2.2.2.1.2.1, .int .i64 scr[i].2.2.2.2.1, .int .i64 scr[i].2.2.2.2.2.1, .slice scr[i].2.2.2.2.2.2.1.1 scr[i].2.2.2.2.2.2.1.2.2.length scr[i].2.2.2.2.2.2.1.2.1, .int .i64 scr[i].2.2.2.2.2.2.2]) rfl (rfl)
  refine s_do hf rfl (y_call (hf.eval rfl) (hf.evals rfl) Tryz.call36 ((bkstep_spec w0 _ hT q P bk _ cap hcap a5 c5 vy vx hvy hs hbi (by omega) scr[i].1 scr[i].2.1 scr[i].2.2.1 scr[i].2.2.2.1.1 scr[i].2.2.2.1.2.1 scr[i].2.2.2.1.2.2 hg.rd hg.len hg.good scr[i].2.2.2.2.1 hg.fu scr[i].2.2.2.2.2 hg.ch).mono ?_))
  rintro e w1 ⟨rfl, bk2, P2, a6, c6, vy2, vx2, hcap2, hvy2, hb2, hs⟩
  refine ⟨_, rfl, ?_⟩; clear hf a; intro a hf
  refine s_a hf rfl ?_; clear hf a; intro a hf
  refine s_nil ?_
  refine then_n ?_
  refine wp_seq ?_
  refine wp_region_lit ?_
  refine s_m hf rfl ?_; clear hf a; intro a hf
  refine s_v hf (x_not (hf.eval rfl)) ?_; clear hf a; intro a hf
  refine s_nil ?_
  refine then_n ?_
  refine c_cond_f hf rfl rfl ?_
  refine wp_skip ?_
  refine blk_n ?_
  refine then_n ?_
  refine wp_region_lit ?_
  refine s_m hf rfl ?_; clear hf a; intro a hf
  refine s_v hf (x_bin (hf.eval rfl) (hf.eval rfl) (r_addi _ (by omega) (by omega))) ?_; clear hf a; intro a hf
  refine s_a hf rfl ?_; clear hf a; intro a hf
  refine s_nil ?_
  exact ⟨_, _, ⟨i + 1, bk2, P2, a6, c6, vy2, vx2, rfl, rfl, by omega, hcap2, hvy2, by rw [costs_succ hlt]; exact hb2, hs⟩, by omega, hf.sub ⟨rfl, rfl, rfl, rfl, trivial⟩⟩
 first | simp only [zd1, zd2, zd3, zd4, ne_eq, Classical.not_not] at hi1 | skip
 have hcl := costs_le scr i
 have hbb := bi_b hbi
 have hb1 := hbb.sizes
 have hb2 := hbb.pcs
 have ho := hbi.ok
 have hrm := ho.room1
 refine wp_exit ?_
 refine then_x ?_
 refine then_x ?_
 refine blk_x ?_
 refine then_n ?_
 refine wp_seq ?_
 refine wp_region_lit ?_
 refine s_m hf rfl ?_; clear hf a; intro a hf
 refine s_v hf (x_nilCheck (hf.eval rfl)) ?_; clear hf a; intro a hf
 refine s_v hf (x_fieldAddr fo78_0 (hf.eval rfl)) ?_; clear hf a; intro a hf
 refine s_r hf (x_load sc24 (hf.eval rfl) (by apply hs.cell <;> repeat constructor)) ?_; clear hf a; intro a hf
 refine s_r hf (x_build (v := .agg #[.int .i64 0, .slice none 0 0, .int .i64 0]) (hf.parts rfl) (fun w => by kernel_rfl) _) ?_; clear hf a; intro a hf
 replace hs := hs.take (A := slB 5 (vx) bk.next) (by repeat constructor)
 obtain ⟨an, cn, rfl⟩ := sl_shape hs
 replace hs := hs.take (A := diskA 85 127 5 3 P bk.s) (by repeat constructor)
 refine s_do hf rfl (y_call (hf.eval rfl) (hf.evals rfl) Tryz.call33 ((dCrash_spec _ _ _ P bk.s hs 0 none 0 [] 0 ho (fun w L hs => ⟨rfl, .inl ⟨0, rfl, rfl⟩⟩) (by omega) (by omega)).mono ?_))
 rintro e w1 ⟨p2, rfl, hs⟩
 have hil := outN_le ho ((0, [], 0) : Ch)
 rw [← outS_length] at hil
 have hout := bi_out hbi ((0, [], 0) : Ch)
 obtain ⟨im, him⟩ : ∃ im, im = outS bk.s ((0, [], 0) : Ch) := ⟨_, rfl⟩
 rw [← him] at hs hil hout
 have hlz := (lk_size im).2
 obtain ⟨x, hxx⟩ : ∃ x, (lkV im).2 = x := ⟨_, rfl⟩
 rw [hxx] at hout hlz
 refine ⟨_, rfl, ?_⟩; clear hf a; intro a hf
 refine s_m hf rfl ?_; clear hf a; intro a hf
 refine s_v hf (x_extract (hf.eval rfl) rfl) ?_; clear hf a; intro a hf
 refine s_v hf (x_extract (hf.eval rfl) rfl) ?_; clear hf a; intro a hf
 refine s_a hf rfl ?_; clear hf a; intro a hf
 refine s_nil ?_
 refine then_n ?_
 refine wp_seq ?_
 refine wp_region_lit ?_
 refine s_m hf rfl ?_; clear hf a; intro a hf
 replace hs := hs.take (A := diskA 85 127 5 3 p2 (newS im bk.s.room)) (by repeat constructor)
 refine s_do hf rfl (y_call (hf.eval rfl) (hf.evals rfl) Tryz.call21 ((dImage_spec _ _ _ p2 _ hs (by show im.length ≤ _; omega)).mono ?_))
 rintro e w1 ⟨a7, c7, rfl, hs⟩
 replace hs : St _ _ (slB 5 (.slice a7 im.length c7) im :: _) := hs
 refine ⟨_, rfl, ?_⟩; clear hf a; intro a hf
 refine s_do hf rfl (y_call (hf.eval rfl) (hf.evals rfl) Tryz.call34 ((look_spec _ (hT.kept hs.kept) _ _ im (hs.rdB .k0 fun h => slB_rd) (by omega)).mono ?_))
 rintro e w1 ⟨gx, cgx, rfl, hj⟩
 replace hs := hs.join hj
 simp only [List.cons_append, List.nil_append] at hs
 rw [hxx] at hs ⊢
 refine ⟨_, rfl, ?_⟩; clear hf a; intro a hf
 refine s_m hf rfl ?_; clear hf a; intro a hf
 refine s_v hf (x_extract (hf.eval rfl) rfl) ?_; clear hf a; intro a hf
 refine s_v hf (x_extract (hf.eval rfl) rfl) ?_; clear hf a; intro a hf
 refine s_do hf rfl (y_alloc hs Tryz.zeroValue37 ?_); clear hf hs a; intro b10 w hs a hf
 change St _ _ (cb b10 37 (vdF (0, 0, 0)) :: _) at hs
 refine s_do0 hf rfl (y_storeAgg (cs := vdF (lkV im).1) hs (n := 3) (by kernel_rfl) (hf.eval rfl) (hf.eval rfl) (by simp [Value.oneCell', vdF]) rfl rfl .k0 ?_); clear hf hs a; intro w hs a hf
 refine s_a hf rfl ?_; clear hf a; intro a hf
 refine s_nil ?_
 refine then_n ?_
 refine wp_seq ?_
 refine wp_region_lit ?_
 refine s_m hf rfl ?_; clear hf a; intro a hf
 refine s_m hf rfl ?_; clear hf a; intro a hf
 refine s_v hf (x_nilCheck (hf.eval rfl)) ?_; clear hf a; intro a hf
 refine s_v hf (x_fieldAddr fo78_1 (hf.eval rfl)) ?_; clear hf a; intro a hf
 refine s_r hf (x_load sc22 (hf.eval rfl) (by apply hs.cell <;> repeat constructor)) ?_; clear hf a; intro a hf
 refine s_do hf rfl (y_call (hf.eval rfl) (hf.evals rfl) Tryz.call20 ((same_spec _ _ _ x (hs.rdB (A := slB 5 (.slice gx x.length cgx) x) (by repeat constructor) fun h => slB_rd) _ _ bk.now (hs.rdB (A := slB 5 (.slice a5 bk.now.length c5) bk.now) (by repeat constructor) fun h => slB_rd) (by omega)).mono ?_))
 rintro e w1 ⟨rfl, hk⟩
 replace hs := hs.ext hk
 refine ⟨_, rfl, ?_⟩; clear hf a; intro a hf
 refine s_m hf rfl ?_; clear hf a; intro a hf
 refine s_bool hf (k := 81) rfl (fun hg14_6 hf' => ?_) (fun hg14_6 hf' => ?_)
 ·clear hf
  have hf := hf'
  clear hf'
  first | simp only [zd1, zd2, zd3, zd4, ne_eq, Classical.not_not] at hg14_6 | skip
  refine s_pass hf rfl rfl ?_; clear hf a; intro a hf
  refine s_pass hf rfl rfl ?_; clear hf a; intro a hf
  refine s_pass hf rfl rfl ?_; clear hf a; intro a hf
  refine s_pass hf rfl rfl ?_; clear hf a; intro a hf
  refine s_pass hf rfl rfl ?_; clear hf a; intro a hf
  refine s_passU hf rfl rfl ?_; clear hf a; intro a hf
  refine s_passU hf rfl rfl ?_; clear hf a; intro a hf
  refine s_passU hf rfl rfl ?_; clear hf a; intro a hf
  refine s_passU hf rfl rfl ?_; clear hf a; intro a hf
  refine s_passU hf rfl rfl ?_; clear hf a; intro a hf
  refine s_passU hf rfl rfl ?_; clear hf a; intro a hf
  refine s_pass hf rfl rfl ?_; clear hf a; intro a hf
  refine s_v hf (x_pick_t (hf.eval rfl) (hf.eval rfl)) ?_; clear hf a; intro a hf
  refine s_a hf rfl ?_; clear hf a; intro a hf
  refine s_nil ?_
  refine then_n ?_
  refine wp_ret ?_
  refine r_1 hf Tryz.results6 rfl ?_
  exact ⟨by first | rfl | simp [ho2], hs.kept⟩
 clear hf
 have hf := hf'
 clear hf'
 first | simp only [zd1, zd2, zd3, zd4, ne_eq, Classical.not_not] at hg14_6 | skip
 obtain ⟨ho1, ho2⟩ := hout.resolve_left hg14_6
 have hvv := hvy ho1
 refine s_do hf (wanted_of hf rfl rfl rfl) (.value (x_move (hf.eval rfl) _) ?_); clear hf a; intro a hf
 refine s_do hf (wanted_of hf rfl rfl rfl) (.value (x_nilCheck (hf.eval rfl) _) ?_); clear hf a; intro a hf
 refine s_do hf (wanted_of hf rfl rfl rfl) (.value (x_fieldAddr fo78_3 (hf.eval rfl) _) ?_); clear hf a; intro a hf
 refine s_do hf (wanted_of hf rfl rfl rfl) (.value (x_load sc4 (hf.eval rfl) (by apply hs.cell <;> repeat constructor)) ?_); clear hf a; intro a hf
 refine s_do hf (wanted_of hf rfl rfl rfl) (.value (x_move (hf.eval rfl) _) ?_); clear hf a; intro a hf
 replace hf := hf.now (k := 86) (v' := .bool true) rfl (congrArg Value.bool (by rw [ho1]))
 refine s_do hf (wanted_of hf rfl rfl rfl) (.value (x_move (hf.eval rfl) _) ?_); clear hf a; intro a hf
 refine s_do hf (wanted_of hf rfl rfl rfl) (.value (x_move (hf.eval rfl) _) ?_); clear hf a; intro a hf
 refine s_do hf (wanted_of hf rfl rfl rfl) (.value (x_nilCheck (hf.eval rfl) _) ?_); clear hf a; intro a hf
 refine s_do hf (wanted_of hf rfl rfl rfl) (.value (x_fieldAddr fo78_2 (hf.eval rfl) _) ?_); clear hf a; intro a hf
 refine s_do hf (wanted_of hf rfl rfl rfl) (.value (x_load sc22 (hf.eval rfl) (by apply hs.cell <;> repeat constructor)) ?_); clear hf a; intro a hf
 replace hf := hf.now (k := 91) (v' := .slice an bk.next.length cn) rfl (hvv)
 refine s_do hf (wanted_of hf rfl rfl rfl) (y_call (hf.eval rfl) (hf.evals rfl) Tryz.call20 ((same_spec _ _ _ x (hs.rdB (A := slB 5 (.slice gx x.length cgx) x) (by repeat constructor) fun h => slB_rd) _ _ bk.next (hs.rdB (A := slB 5 (.slice an bk.next.length cn) bk.next) (by repeat constructor) fun h => slB_rd) (by omega)).mono ?_))
 rintro e w1 ⟨rfl, hk⟩
 replace hs := hs.ext hk
 refine ⟨_, rfl, ?_⟩; clear hf a; intro a hf
 refine s_do hf (wanted_of hf rfl rfl rfl) (.value (x_pick_t (hf.eval rfl) (hf.eval rfl) _) ?_); clear hf a; intro a hf
 refine s_v hf (x_pick_f (hf.eval rfl) (hf.eval rfl)) ?_; clear hf a; intro a hf
 refine s_a hf rfl ?_; clear hf a; intro a hf
 refine s_nil ?_
 refine then_n ?_
 refine wp_ret ?_
 refine r_1 hf Tryz.results6 rfl ?_
 exact ⟨by first | rfl | simp [ho2], hs.kept⟩
end Go.Proofs.YtehakfbfjpolfaaGreatDoor
