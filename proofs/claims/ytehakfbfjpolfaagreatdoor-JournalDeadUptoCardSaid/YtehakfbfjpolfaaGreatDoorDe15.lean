/- Texts 15 of 17 that the law rests on: the small library, contracts of functions, printed by a program. -/
import Derived.Test.YtehakfbfjpolfaaGreatDoorProg
import Derived.Test.YtehakfbfjpolfaaGreatDoorDe1
import Derived.Test.YtehakfbfjpolfaaGreatDoorDe2
import Derived.Test.YtehakfbfjpolfaaGreatDoorDe3
import Derived.Test.YtehakfbfjpolfaaGreatDoorDe4
import Derived.Test.YtehakfbfjpolfaaGreatDoorDe5
import Derived.Test.YtehakfbfjpolfaaGreatDoorDe6
import Derived.Test.YtehakfbfjpolfaaGreatDoorDe7
import Derived.Test.YtehakfbfjpolfaaGreatDoorDe8
import Derived.Test.YtehakfbfjpolfaaGreatDoorDe9
import Derived.Test.YtehakfbfjpolfaaGreatDoorDe10
import Derived.Test.YtehakfbfjpolfaaGreatDoorDe11
import Derived.Test.YtehakfbfjpolfaaGreatDoorDe12
import Derived.Test.YtehakfbfjpolfaaGreatDoorDe13
import Derived.Test.YtehakfbfjpolfaaGreatDoorDe14
set_option maxRecDepth 100000
set_option linter.all false
namespace Go.Proofs.YtehakfbfjpolfaaGreatDoor
open Go Vw
theorem inSize_spec (w : World) (n : Int) : Calls Tryz.prog 85 #[.int .i64 n] w fun e w' => e = .returned (.bool (decide (0 ≤ n ∧ n ≤ 16777216))) ∧ w' = w := by
 refine c_enter (N := 9) Tryz.func85 rfl Tryz.ntmps85 (by simp) ?_
 intro a hf
 refine wp_seq ?_
 refine wp_region_lit ?_
 refine s_a hf rfl ?_; clear hf a; intro a hf
 refine s_nil ?_
 refine then_n ?_
 refine wp_seq ?_
 refine wp_region_lit ?_
 refine s_m hf rfl ?_; clear hf a; intro a hf
 refine s_v hf (x_bin (hf.eval rfl) (hf.eval rfl) (r_ge _ _ _ _)) ?_; clear hf a; intro a hf
 refine s_m hf rfl ?_; clear hf a; intro a hf
 refine s_bool hf (k := 5) rfl (fun hg1_2 hf' => ?_) (fun hg1_2 hf' => ?_)
 ·clear hf
  have hf := hf'
  clear hf'
  simp only [zd1, zd2, zd3, zd4, zd5, zd6, zd7] at hg1_2
  refine s_do hf (wanted_of hf rfl rfl rfl) (.value (x_move (hf.eval rfl) _) ?_); clear hf a; intro a hf
  refine s_do hf (wanted_of hf rfl rfl rfl) (.value (x_bin (hf.eval rfl) (hf.eval rfl) (r_le _ _ _ _) _) ?_); clear hf a; intro a hf
  refine s_v hf (x_pick_t (hf.eval rfl) (hf.eval rfl)) ?_; clear hf a; intro a hf
  refine s_a hf rfl ?_; clear hf a; intro a hf
  refine s_nil ?_
  refine then_n ?_
  refine wp_ret ?_
  refine r_1 hf Tryz.results85 rfl ?_
  exact ⟨by congr 2; simp; omega, rfl⟩
 clear hf
 have hf := hf'
 clear hf'
 simp only [zd1, zd2, zd3, zd4, zd5, zd6, zd7] at hg1_2
 refine s_pass hf rfl rfl ?_; clear hf a; intro a hf
 refine s_pass hf rfl rfl ?_; clear hf a; intro a hf
 refine s_v hf (x_pick_f (hf.eval rfl) (hf.eval rfl)) ?_; clear hf a; intro a hf
 refine s_a hf rfl ?_; clear hf a; intro a hf
 refine s_nil ?_
 refine then_n ?_
 refine wp_ret ?_
 refine r_1 hf Tryz.results85 rfl ?_
 exact ⟨by congr 2; simp; omega, rfl⟩
theorem rright_spec (w0 : World) (size : Int) (hz : 0 ≤ size) (hz2 : size ≤ 16777216) (aw : Option Addr) (cw : Nat) (ws : List Wr) (hrw : RdS wF 2 (hp w0) (.slice aw ws.length cw) ws) (hlw : ws.length ≤ 1048576) : Calls Tryz.prog 99 #[.int .i64 size, .slice aw ws.length cw] w0 fun e w' => e = .returned (.bool (rgt size ws 0)) ∧ Kept w0 w' None_ := by
 have hs := St.start w0 None_
 refine c_enter (N := 50) Tryz.func99 rfl Tryz.ntmps99 (by simp) ?_
 intro a hf
 refine wp_seq ?_
 refine wp_region_lit ?_
 refine s_a hf rfl ?_; clear hf a; intro a hf
 refine s_nil ?_
 refine then_n ?_
 refine wp_seq ?_
 refine wp_region_lit ?_
 refine s_a hf rfl ?_; clear hf a; intro a hf
 refine s_nil ?_
 refine then_n ?_
 refine wp_seq ?_
 refine wp_seq ?_
 refine wp_region_lit ?_
 refine s_a hf rfl ?_; clear hf a; intro a hf
 refine s_nil ?_
 refine then_n ?_
 refine wp_block ?_
 refine c_loop (L0 := [(0, _), (1, _)]) (fun M w m => ∃ (i : Nat) (en : Int), M = [(5, .int .i64 en), (6, .int .i64 (i : Int))] ∧ ws.length - i = m ∧ i ≤ ws.length ∧ rgt size ws 0 = rgt size (ws.drop i) en ∧ 0 ≤ en ∧ en ≤ 16777216 ∧ St ⟨w0, None_⟩ w []) (M0 := [(5, .int .i64 0), (6, .int .i64 0)]) (⟨0, 0, rfl, rfl, Nat.zero_le _, rfl, by omega, by omega, hs⟩) (hf.sub ⟨rfl, rfl, rfl, rfl, trivial⟩) ?_
 clear hf hs a
 rintro M m a w ⟨i, en, rfl, rfl, hi, hinv, he0, he1, hs⟩ hf
 refine wp_seq ?_
 refine wp_seq ?_
 refine wp_region_lit ?_
 refine s_m hf rfl ?_; clear hf a; intro a hf
 refine s_m hf rfl ?_; clear hf a; intro a hf
 refine s_v hf (x_len Tryz.underlying23 (hf.eval rfl)) ?_; clear hf a; intro a hf
 refine s_v hf (x_bin (hf.eval rfl) (hf.eval rfl) (r_lt _ _ _ _)) ?_; clear hf a; intro a hf
 refine s_nil ?_
 refine then_n ?_
 refine c_cond hf rfl (fun hi0 => ?_) (fun hi0 => ?_)
 ·simp only [zd1, zd2, zd3, zd4, zd5, zd6, zd7] at hi0
  have hlt : i < ws.length := by omega
  obtain ⟨aw, rfl⟩ := hrw.some (by omega)
  refine wp_skip ?_
  refine then_n ?_
  refine wp_seq ?_
  refine wp_block ?_
  refine wp_seq ?_
  refine wp_region_lit ?_
  refine s_m hf rfl ?_; clear hf a; intro a hf
  refine s_m hf rfl ?_; clear hf a; intro a hf
  refine s_v hf (x_indexAddr sl23 (hf.eval rfl) (hf.eval rfl) (by omega) (by omega)) ?_; clear hf a; intro a hf
  refine s_r hf (x_loadS (f := wF) ag54 (fun _ => rfl) (hs.old hrw) (hf.eval rfl) (by simpa using hlt)) ?_; clear hf a; intro a hf
  refine s_do hf rfl (y_alloc hs Tryz.zeroValue54 ?_); clear hf hs a; intro b7 w hs a hf
  change St _ _ (cb b7 54 [.int .i64 0, .slice none 0 0] :: _) at hs
  refine s_do0 hf rfl (y_storeAgg (cs := wF ws[i]) hs (n := 2) (by kernel_rfl) (hf.eval rfl) (hf.eval rfl) (by simp [Value.oneCell', wF]) rfl rfl .k0 ?_); clear hf hs a; intro w hs a hf
  have hwl : wL ws[i] = (ws[i].2.2.2.length : Int) := rfl
  refine s_nil ?_
  refine then_n ?_
  refine wp_seq ?_
  refine wp_seq ?_
  refine wp_region_lit ?_
  refine s_v hf (x_fieldAddr fo54_1 (hf.eval rfl)) ?_; clear hf a; intro a hf
  refine s_r hf (x_load sc22 (hf.eval rfl) (by apply hs.cell <;> repeat constructor)) ?_; clear hf a; intro a hf
  refine s_v hf (x_len Tryz.underlying22 (hf.eval rfl)) ?_; clear hf a; intro a hf
  refine s_v hf (x_bin (hf.eval rfl) (hf.eval rfl) (r_eq _ _ _ _)) ?_; clear hf a; intro a hf
  refine s_m hf rfl ?_; clear hf a; intro a hf
  refine s_bool hf (k := 22) rfl (fun hg6_4 hf' => ?_) (fun hg6_4 hf' => ?_)
  ·clear hf
   have hf := hf'
   clear hf'
   simp only [zd1, zd2, zd3, zd4, zd5, zd6, zd7] at hg6_4
   refine s_pass hf rfl rfl ?_; clear hf a; intro a hf
   refine s_pass hf rfl rfl ?_; clear hf a; intro a hf
   refine s_pass hf rfl rfl ?_; clear hf a; intro a hf
   refine s_pass hf rfl rfl ?_; clear hf a; intro a hf
   refine s_v hf (x_pick_t (hf.eval rfl) (hf.eval rfl)) ?_; clear hf a; intro a hf
   refine s_m hf rfl ?_; clear hf a; intro a hf
   refine s_pass hf rfl rfl ?_; clear hf a; intro a hf
   refine s_pass hf rfl rfl ?_; clear hf a; intro a hf
   refine s_pass hf rfl rfl ?_; clear hf a; intro a hf
   refine s_pass hf rfl rfl ?_; clear hf a; intro a hf
   refine s_v hf (x_pick_t (hf.eval rfl) (hf.eval rfl)) ?_; clear hf a; intro a hf
   refine s_m hf rfl ?_; clear hf a; intro a hf
   refine s_pass hf rfl rfl ?_; clear hf a; intro a hf
   refine s_pass hf rfl rfl ?_; clear hf a; intro a hf
   refine s_pass hf rfl rfl ?_; clear hf a; intro a hf
   refine s_pass hf rfl rfl ?_; clear hf a; intro a hf
   refine s_pass hf rfl rfl ?_; clear hf a; intro a hf
   refine s_pass hf rfl rfl ?_; clear hf a; intro a hf
   refine s_pass hf rfl rfl ?_; clear hf a; intro a hf
   refine s_pass hf rfl rfl ?_; clear hf a; intro a hf
   refine s_v hf (x_pick_t (hf.eval rfl) (hf.eval rfl)) ?_; clear hf a; intro a hf
   refine s_nil ?_
   refine then_n ?_
   refine c_cond_t hf rfl rfl ?_
   refine wp_seq ?_
   refine wp_region_lit ?_
   refine s_a hf rfl ?_; clear hf a; intro a hf
   refine s_nil ?_
   refine then_n ?_
   refine wp_ret ?_
   refine then_r (blk_r (then_r (then_r (blk_r (then_r ?_)))))
   refine r_1 hf Tryz.results99 rfl ?_
   exact ⟨by rw [hinv, rgt_step size _ hlt, if_pos (by omega)], hs.kept⟩
  clear hf
  have hf := hf'
  clear hf'
  simp only [zd1, zd2, zd3, zd4, zd5, zd6, zd7] at hg6_4
  refine s_do hf (wanted_of hf rfl rfl rfl) (.value (x_fieldAddr fo54_0 (hf.eval rfl) _) ?_); clear hf a; intro a hf
  refine s_do hf (wanted_of hf rfl rfl rfl) (.value (x_load sc3 (hf.eval rfl) (by apply hs.cell <;> repeat constructor)) ?_); clear hf a; intro a hf
  refine s_do hf (wanted_of hf rfl rfl rfl) (.value (x_move (hf.eval rfl) _) ?_); clear hf a; intro a hf
  refine s_do hf (wanted_of hf rfl rfl rfl) (.value (x_bin (hf.eval rfl) (hf.eval rfl) (r_lt _ _ _ _) _) ?_); clear hf a; intro a hf
  refine s_v hf (x_pick_f (hf.eval rfl) (hf.eval rfl)) ?_; clear hf a; intro a hf
  refine s_m hf rfl ?_; clear hf a; intro a hf
  refine s_bool hf (k := 28) rfl (fun hg6_10 hf' => ?_) (fun hg6_10 hf' => ?_)
  ·clear hf
   have hf := hf'
   clear hf'
   simp only [zd1, zd2, zd3, zd4, zd5, zd6, zd7] at hg6_10
   refine s_pass hf rfl rfl ?_; clear hf a; intro a hf
   refine s_pass hf rfl rfl ?_; clear hf a; intro a hf
   refine s_pass hf rfl rfl ?_; clear hf a; intro a hf
   refine s_pass hf rfl rfl ?_; clear hf a; intro a hf
   refine s_v hf (x_pick_t (hf.eval rfl) (hf.eval rfl)) ?_; clear hf a; intro a hf
   refine s_m hf rfl ?_; clear hf a; intro a hf
   refine s_pass hf rfl rfl ?_; clear hf a; intro a hf
   refine s_pass hf rfl rfl ?_; clear hf a; intro a hf
   refine s_pass hf rfl rfl ?_; clear hf a; intro a hf
   refine s_pass hf rfl rfl ?_; clear hf a; intro a hf
   refine s_pass hf rfl rfl ?_; clear hf a; intro a hf
   refine s_pass hf rfl rfl ?_; clear hf a; intro a hf
   refine s_pass hf rfl rfl ?_; clear hf a; intro a hf
   refine s_pass hf rfl rfl ?_; clear hf a; intro a hf
   refine s_v hf (x_pick_t (hf.eval rfl) (hf.eval rfl)) ?_; clear hf a; intro a hf
   refine s_nil ?_
   refine then_n ?_
   refine c_cond_t hf rfl rfl ?_
   refine wp_seq ?_
   refine wp_region_lit ?_
   refine s_a hf rfl ?_; clear hf a; intro a hf
   refine s_nil ?_
   refine then_n ?_
   refine wp_ret ?_
   refine then_r (blk_r (then_r (then_r (blk_r (then_r ?_)))))
   refine r_1 hf Tryz.results99 rfl ?_
   exact ⟨by rw [hinv, rgt_step size _ hlt, if_pos (by omega)], hs.kept⟩
  clear hf
  have hf := hf'
  clear hf'
  simp only [zd1, zd2, zd3, zd4, zd5, zd6, zd7] at hg6_10
  refine s_do hf (wanted_of hf rfl rfl rfl) (.value (x_fieldAddr fo54_0 (hf.eval rfl) _) ?_); clear hf a; intro a hf
  refine s_do hf (wanted_of hf rfl rfl rfl) (.value (x_load sc3 (hf.eval rfl) (by apply hs.cell <;> repeat constructor)) ?_); clear hf a; intro a hf
  refine s_do hf (wanted_of hf rfl rfl rfl) (.value (x_move (hf.eval rfl) _) ?_); clear hf a; intro a hf
  refine s_do hf (wanted_of hf rfl rfl rfl) (.value (x_bin (hf.eval rfl) (hf.eval rfl) (r_gt _ _ _ _) _) ?_); clear hf a; intro a hf
  refine s_v hf (x_pick_f (hf.eval rfl) (hf.eval rfl)) ?_; clear hf a; intro a hf
  refine s_m hf rfl ?_; clear hf a; intro a hf
  refine s_bool hf (k := 34) rfl (fun hg6_16 hf' => ?_) (fun hg6_16 hf' => ?_)
  ·clear hf
   have hf := hf'
   clear hf'
   simp only [zd1, zd2, zd3, zd4, zd5, zd6, zd7] at hg6_16
   refine s_pass hf rfl rfl ?_; clear hf a; intro a hf
   refine s_pass hf rfl rfl ?_; clear hf a; intro a hf
   refine s_pass hf rfl rfl ?_; clear hf a; intro a hf
   refine s_pass hf rfl rfl ?_; clear hf a; intro a hf
   refine s_pass hf rfl rfl ?_; clear hf a; intro a hf
   refine s_pass hf rfl rfl ?_; clear hf a; intro a hf
   refine s_pass hf rfl rfl ?_; clear hf a; intro a hf
   refine s_pass hf rfl rfl ?_; clear hf a; intro a hf
   refine s_v hf (x_pick_t (hf.eval rfl) (hf.eval rfl)) ?_; clear hf a; intro a hf
   refine s_nil ?_
   refine then_n ?_
   refine c_cond_t hf rfl rfl ?_
   refine wp_seq ?_
   refine wp_region_lit ?_
   refine s_a hf rfl ?_; clear hf a; intro a hf
   refine s_nil ?_
   refine then_n ?_
   refine wp_ret ?_
   refine then_r (blk_r (then_r (then_r (blk_r (then_r ?_)))))
   refine r_1 hf Tryz.results99 rfl ?_
   exact ⟨by rw [hinv, rgt_step size _ hlt, if_pos (by omega)], hs.kept⟩
  clear hf
  have hf := hf'
  clear hf'
  simp only [zd1, zd2, zd3, zd4, zd5, zd6, zd7] at hg6_16
  refine s_do hf (wanted_of hf rfl rfl rfl) (.value (x_fieldAddr fo54_1 (hf.eval rfl) _) ?_); clear hf a; intro a hf
  refine s_do hf (wanted_of hf rfl rfl rfl) (.value (x_load sc22 (hf.eval rfl) (by apply hs.cell <;> repeat constructor)) ?_); clear hf a; intro a hf
  refine s_do hf (wanted_of hf rfl rfl rfl) (.value (x_len Tryz.underlying22 (hf.eval rfl) _) ?_); clear hf a; intro a hf
  refine s_do hf (wanted_of hf rfl rfl rfl) (.value (x_move (hf.eval rfl) _) ?_); clear hf a; intro a hf
  refine s_do hf (wanted_of hf rfl rfl rfl) (.value (x_fieldAddr fo54_0 (hf.eval rfl) _) ?_); clear hf a; intro a hf
  refine s_do hf (wanted_of hf rfl rfl rfl) (.value (x_load sc3 (hf.eval rfl) (by apply hs.cell <;> repeat constructor)) ?_); clear hf a; intro a hf
  refine s_do hf (wanted_of hf rfl rfl rfl) (.value (x_bin (hf.eval rfl) (hf.eval rfl) (r_subi _ (by omega) (by omega)) _) ?_); clear hf a; intro a hf
  refine s_do hf (wanted_of hf rfl rfl rfl) (.value (x_bin (hf.eval rfl) (hf.eval rfl) (r_gt _ _ _ _) _) ?_); clear hf a; intro a hf
  refine s_v hf (x_pick_f (hf.eval rfl) (hf.eval rfl)) ?_; clear hf a; intro a hf
  refine s_nil ?_
  refine then_n ?_
  refine c_cond hf rfl (fun hi1 => ?_) (fun hi1 => ?_)
  ·simp only [zd1, zd2, zd3, zd4, zd5, zd6, zd7] at hi1
   refine wp_seq ?_
   refine wp_region_lit ?_
   refine s_a hf rfl ?_; clear hf a; intro a hf
   refine s_nil ?_
   refine then_n ?_
   refine wp_ret ?_
   refine then_r (blk_r (then_r (then_r (blk_r (then_r ?_)))))
   refine r_1 hf Tryz.results99 rfl ?_
   exact ⟨by rw [hinv, rgt_step size _ hlt, if_pos (by omega)], hs.kept⟩
  simp only [zd1, zd2, zd3, zd4, zd5, zd6, zd7] at hi1
  refine wp_skip ?_
  refine then_n ?_
  refine wp_region_lit ?_
  refine s_v hf (x_fieldAddr fo54_0 (hf.eval rfl)) ?_; clear hf a; intro a hf
  refine s_r hf (x_load sc3 (hf.eval rfl) (by apply hs.cell <;> repeat constructor)) ?_; clear hf a; intro a hf
  refine s_v hf (x_fieldAddr fo54_1 (hf.eval rfl)) ?_; clear hf a; intro a hf
  refine s_r hf (x_load sc22 (hf.eval rfl) (by apply hs.cell <;> repeat constructor)) ?_; clear hf a; intro a hf
  refine s_v hf (x_len Tryz.underlying22 (hf.eval rfl)) ?_; clear hf a; intro a hf
  refine s_v hf (x_bin (hf.eval rfl) (hf.eval rfl) (r_addi _ (by omega) (by omega))) ?_; clear hf a; intro a hf
  refine s_a hf rfl ?_; clear hf a; intro a hf
  refine s_nil ?_
  refine blk_n ?_
  refine then_n ?_
  refine wp_region_lit ?_
  refine s_m hf rfl ?_; clear hf a; intro a hf
  refine s_v hf (x_bin (hf.eval rfl) (hf.eval rfl) (r_addi _ (by omega) (by omega))) ?_; clear hf a; intro a hf
  refine s_a hf rfl ?_; clear hf a; intro a hf
  refine s_nil ?_
  replace hinv : rgt size ws 0 = rgt size (ws.drop (i + 1)) (ws[i].1 + wL ws[i]) := by rw [hinv, rgt_step size _ hlt, if_neg (by omega)]
  exact ⟨_, _, ⟨i + 1, _, rfl, rfl, by omega, hinv, by omega, by omega, hs.drop⟩, by omega, hf.sub ⟨rfl, rfl, rfl, rfl, trivial⟩⟩
 simp only [zd1, zd2, zd3, zd4, zd5, zd6, zd7] at hi0
 refine wp_exit ?_
 refine then_x ?_
 refine then_x ?_
 refine blk_x ?_
 refine then_n ?_
 refine wp_seq ?_
 refine wp_region_lit ?_
 refine s_a hf rfl ?_; clear hf a; intro a hf
 refine s_nil ?_
 refine then_n ?_
 refine wp_ret ?_
 refine r_1 hf Tryz.results99 rfl ?_
 exact ⟨by rw [hinv, List.drop_of_length_le (by omega)]; rfl, hs.kept⟩
theorem spans_spec (w0 : World) (old : Int) (ho : 0 ≤ old) (ho2 : old ≤ 16777216) (aw : Option Addr) (cw : Nat) (ws : List Wr) (hrw : RdS wF 2 (hp w0) (.slice aw ws.length cw) ws) (hlw : ws.length ≤ 1048576) (hok : ∀ z ∈ ws, 0 ≤ z.1 ∧ z.1 + wL z ≤ 16777216) : Calls Tryz.prog 32 #[.int .i64 old, .slice aw ws.length cw] w0 fun e w' => ∃ v, e = .returned v ∧ St ⟨w0, None_⟩ w' [sl 119 2 v (savL old ws).length ((savL old ws).flatMap spF)] := by
 have hs := (St.start w0 None_).emp (A := sl 119 2 (.slice none 0 0) 0 []) (fun h => ⟨rfl, .inl ⟨rfl, rfl⟩⟩)
 refine c_enter (N := 48) Tryz.func32 rfl Tryz.ntmps32 (by simp) ?_
 intro a hf
 refine wp_seq ?_
 refine wp_region_lit ?_
 refine s_a hf rfl ?_; clear hf a; intro a hf
 refine s_nil ?_
 refine then_n ?_
 refine wp_seq ?_
 refine wp_region_lit ?_
 refine s_a hf rfl ?_; clear hf a; intro a hf
 refine s_nil ?_
 refine then_n ?_
 refine wp_seq ?_
 refine wp_seq ?_
 refine wp_region_lit ?_
 refine s_a hf rfl ?_; clear hf a; intro a hf
 refine s_nil ?_
 refine then_n ?_
 refine wp_block ?_
 refine c_loop (L0 := [(0, _), (1, _), (4, _)]) (fun M w m => ∃ (i : Nat) (v : Value), M = [(5, v), (6, .int .i64 (i : Int))] ∧ ws.length - i = m ∧ i ≤ ws.length ∧ (savL old (ws.take i)).length ≤ i ∧ St ⟨w0, None_⟩ w [sl 119 2 v (savL old (ws.take i)).length ((savL old (ws.take i)).flatMap spF)]) (M0 := [(5, .slice none 0 0), (6, .int .i64 0)]) (⟨0, _, rfl, rfl, Nat.zero_le _, Nat.le_refl _, hs⟩) (hf.sub ⟨rfl, rfl, rfl, rfl, rfl, trivial⟩) ?_
 clear hf hs a
 rintro M m a w ⟨i, v, rfl, rfl, hi, hln, hs⟩ hf
 refine wp_seq ?_
 refine wp_seq ?_
 refine wp_region_lit ?_
 refine s_m hf rfl ?_; clear hf a; intro a hf
 refine s_m hf rfl ?_; clear hf a; intro a hf
 refine s_v hf (x_len Tryz.underlying23 (hf.eval rfl)) ?_; clear hf a; intro a hf
 refine s_v hf (x_bin (hf.eval rfl) (hf.eval rfl) (r_lt _ _ _ _)) ?_; clear hf a; intro a hf
 refine s_nil ?_
 refine then_n ?_
 refine c_cond hf rfl (fun hi0 => ?_) (fun hi0 => ?_)
 ·simp only [zd1, zd2, zd3, zd4, zd5, zd6, zd7] at hi0
  have hlt : i < ws.length := by omega
  obtain ⟨aw, rfl⟩ := hrw.some (by omega)
  obtain ⟨ab, ao2, rfl⟩ := rdS_plain (sz := 2) (fun _ => rfl) (by decide) hrw (by omega)
  have hb := hok _ (List.getElem_mem hlt)
  have hwl : wL ws[i] = (ws[i].2.2.2.length : Int) := rfl
  refine wp_skip ?_
  refine then_n ?_
  refine wp_seq ?_
  refine wp_block ?_
  refine wp_seq ?_
  refine c_draw hs (fun _ => True) [.held, .held, .held, .held, .read, .held, .held, .held, .held, .read, .held, .held, .held] (by kernel_rfl) (by kernel_rfl) (fun _ _ _ => trivial) ?_
  clear hs; intro w hs hC hw
  refine m_held hf rfl (fun w' _ => x_move (hf.eval rfl) w') ?_; clear hf a; intro a hf
  refine m_held hf rfl (fun w' _ => x_move (hf.eval rfl) w') ?_; clear hf a; intro a hf
  refine m_held hf rfl (fun w' _ => x_indexAddr sl23 (hf.eval rfl) (hf.eval rfl) (by omega) (by omega) w') ?_; clear hf a; intro a hf
  replace hf := hf.now (k := 16) (v' := .pointer (some ⟨ab, ao2 + i * 2, none⟩)) rfl (by rw [addr_add]; rfl)
  refine m_held hf rfl (fun w' _ => x_fieldAddr fo54_0 (hf.eval rfl) w') ?_; clear hf a; intro a hf
  refine m_read hf rfl (x_load sc3 (hf.eval rfl) (rdS_cellAt (f := wF) (sz := 2) (fun _ => rfl) (hs.old hrw) (k := 0) hlt rfl)) ?_; clear hf a; intro a hf
  refine m_held hf rfl (fun w' _ => x_move (hf.eval rfl) w') ?_; clear hf a; intro a hf
  refine m_held hf rfl (fun w' _ => x_move (hf.eval rfl) w') ?_; clear hf a; intro a hf
  refine m_held hf rfl (fun w' _ => x_indexAddr sl23 (hf.eval rfl) (hf.eval rfl) (by omega) (by omega) w') ?_; clear hf a; intro a hf
  replace hf := hf.now (k := 21) (v' := .pointer (some ⟨ab, ao2 + i * 2, none⟩)) rfl (by rw [addr_add]; rfl)
  refine m_held hf rfl (fun w' _ => x_fieldAddr fo54_1 (hf.eval rfl) w') ?_; clear hf a; intro a hf
  refine m_read hf rfl (x_load sc22 (hf.eval rfl) (rdS_cellAt (f := wF) (sz := 2) (fun _ => rfl) (hs.old hrw) (k := 1) hlt rfl)) ?_; clear hf a; intro a hf
  refine m_held hf rfl (fun w' _ => x_len Tryz.underlying22 (hf.eval rfl) w') ?_; clear hf a; intro a hf
  refine m_held hf rfl (fun w' _ => x_bin (hf.eval rfl) (hf.eval rfl) (r_addi _ (by omega) (by omega)) w') ?_; clear hf a; intro a hf
  refine m_held hf rfl (fun w' _ => x_assign (hf.eval rfl) w') ?_; clear hf a; intro a hf
  refine m_nil ?_
  refine then_n ?_
  refine wp_seq ?_
  refine wp_seq ?_
  refine wp_region_lit ?_
  refine s_m hf rfl ?_; clear hf a; intro a hf
  refine s_m hf rfl ?_; clear hf a; intro a hf
  refine s_v hf (x_bin (hf.eval rfl) (hf.eval rfl) (r_gt _ _ _ _)) ?_; clear hf a; intro a hf
  refine s_nil ?_
  refine then_n ?_
  refine c_cond hf rfl (fun hi1 => ?_) (fun hi1 => ?_)
  ·simp only [zd1, zd2, zd3, zd4, zd5, zd6, zd7] at hi1
   refine wp_region_lit ?_
   refine s_m hf rfl ?_; clear hf a; intro a hf
   refine s_a hf rfl ?_; clear hf a; intro a hf
   refine s_nil ?_
   refine then_n ?_
   refine wp_seq ?_
   refine wp_region_lit ?_
   replace hf := hf.now (k := 7) (v' := .int .i64 (min old (ws[i].1 + wL ws[i]))) rfl (by congr 1; omega)
   refine s_m hf rfl ?_; clear hf a; intro a hf
   refine s_m hf rfl ?_; clear hf a; intro a hf
   refine s_v hf (x_indexAddr sl23 (hf.eval rfl) (hf.eval rfl) (by omega) (by omega)) ?_; clear hf a; intro a hf
   replace hf := hf.now (k := 32) (v' := .pointer (some ⟨ab, ao2 + i * 2, none⟩)) rfl (by rw [addr_add]; rfl)
   refine s_v hf (x_fieldAddr fo54_0 (hf.eval rfl)) ?_; clear hf a; intro a hf
   refine s_r hf (x_load sc3 (hf.eval rfl) (rdS_cellAt (f := wF) (sz := 2) (fun _ => rfl) (hs.old hrw) (k := 0) hlt rfl)) ?_; clear hf a; intro a hf
   refine s_m hf rfl ?_; clear hf a; intro a hf
   refine s_v hf (x_bin (hf.eval rfl) (hf.eval rfl) (r_lt _ _ _ _)) ?_; clear hf a; intro a hf
   refine s_nil ?_
   refine then_n ?_
   refine c_cond hf rfl (fun hi2 => ?_) (fun hi2 => ?_)
   ·simp only [decide_eq_true_eq, decide_eq_false_iff_not] at hi2
    refine wp_region_lit ?_
    refine s_m hf rfl ?_; clear hf a; intro a hf
    refine s_m hf rfl ?_; clear hf a; intro a hf
    refine s_m hf rfl ?_; clear hf a; intro a hf
    refine s_v hf (x_indexAddr sl23 (hf.eval rfl) (hf.eval rfl) (by omega) (by omega)) ?_; clear hf a; intro a hf
    replace hf := hf.now (k := 40) (v' := .pointer (some ⟨ab, ao2 + i * 2, none⟩)) rfl (by rw [addr_add]; rfl)
    refine s_v hf (x_fieldAddr fo54_0 (hf.eval rfl)) ?_; clear hf a; intro a hf
    refine s_r hf (x_load sc3 (hf.eval rfl) (rdS_cellAt (f := wF) (sz := 2) (fun _ => rfl) (hs.old hrw) (k := 0) hlt rfl)) ?_; clear hf a; intro a hf
    refine s_m hf rfl ?_; clear hf a; intro a hf
    refine s_r hf (x_build (v := .agg #[.int .i64 ws[i].1, .int .i64 (min old (ws[i].1 + wL ws[i]))]) (hf.parts rfl) (fun w => by kernel_rfl) _) ?_; clear hf a; intro a hf
    refine s_do hf rfl (y_lit (xs := [.tmp 44]) hs sl68 (hf.evals rfl) rfl (by simp [Value.cells]) (by decide) ?_); clear hf hs a; intro b2 w hs a hf
    refine s_do hf rfl (y_append (n := (savL old (ws.take i)).length) (m := 1) (ys := [.int .i64 ws[i].1, .int .i64 (min old (ws[i].1 + wL ws[i]))]) hs sl68 (hf.eval rfl) (hf.eval rfl) .k1 (hs.rd .k0 fun h hb => rd_rows hb rfl) (by simp [Value.oneCell']) (by omega) (by rw [maxLen_eq]; omega) ?_); clear hf hs a; intro v2 w hs hv a hf
    have hsv := savL_succ old hlt
    rw [if_pos hi2] at hsv
    have hln2 : (savL old (ws.take (i + 1))).length ≤ i + 1 := by rw [hsv]; simp; omega
    have hs2 : St ⟨w0, None_⟩ w [sl 119 2 v2 (savL old (ws.take (i + 1))).length ((savL old (ws.take (i + 1))).flatMap spF)] := by
      rw [hsv, List.length_append, List.flatMap_append]
      exact hs.lose .k1
    refine s_a hf rfl ?_; clear hf a; intro a hf
    refine s_nil ?_
    refine blk_n ?_
    refine then_n ?_
    refine wp_region_lit ?_
    refine s_m hf rfl ?_; clear hf a; intro a hf
    refine s_v hf (x_bin (hf.eval rfl) (hf.eval rfl) (r_addi _ (by omega) (by omega))) ?_; clear hf a; intro a hf
    refine s_a hf rfl ?_; clear hf a; intro a hf
    refine s_nil ?_
    exact ⟨_, _, ⟨i + 1, _, rfl, rfl, by omega, by first | exact hln2 | (rw [savL_succ old hlt, if_neg hi2]; simp; omega), by first | exact hs2 | (rw [savL_succ old hlt, if_neg hi2, List.append_nil]; exact hs)⟩, by omega, hf.sub ⟨rfl, rfl, rfl, rfl, rfl, trivial⟩⟩
   simp only [decide_eq_true_eq, decide_eq_false_iff_not] at hi2
   refine wp_skip ?_
   refine blk_n ?_
   refine then_n ?_
   refine wp_region_lit ?_
   refine s_m hf rfl ?_; clear hf a; intro a hf
   refine s_v hf (x_bin (hf.eval rfl) (hf.eval rfl) (r_addi _ (by omega) (by omega))) ?_; clear hf a; intro a hf
   refine s_a hf rfl ?_; clear hf a; intro a hf
   refine s_nil ?_
   exact ⟨_, _, ⟨i + 1, _, rfl, rfl, by omega, by first | exact hln2 | (rw [savL_succ old hlt, if_neg hi2]; simp; omega), by first | exact hs2 | (rw [savL_succ old hlt, if_neg hi2, List.append_nil]; exact hs)⟩, by omega, hf.sub ⟨rfl, rfl, rfl, rfl, rfl, trivial⟩⟩
  simp only [zd1, zd2, zd3, zd4, zd5, zd6, zd7] at hi1
  refine wp_skip ?_
  refine then_n ?_
  refine wp_seq ?_
  refine wp_region_lit ?_
  replace hf := hf.now (k := 7) (v' := .int .i64 (min old (ws[i].1 + wL ws[i]))) rfl (by congr 1; omega)
  refine s_m hf rfl ?_; clear hf a; intro a hf
  refine s_m hf rfl ?_; clear hf a; intro a hf
  refine s_v hf (x_indexAddr sl23 (hf.eval rfl) (hf.eval rfl) (by omega) (by omega)) ?_; clear hf a; intro a hf
  replace hf := hf.now (k := 32) (v' := .pointer (some ⟨ab, ao2 + i * 2, none⟩)) rfl (by rw [addr_add]; rfl)
  refine s_v hf (x_fieldAddr fo54_0 (hf.eval rfl)) ?_; clear hf a; intro a hf
  refine s_r hf (x_load sc3 (hf.eval rfl) (rdS_cellAt (f := wF) (sz := 2) (fun _ => rfl) (hs.old hrw) (k := 0) hlt rfl)) ?_; clear hf a; intro a hf
  refine s_m hf rfl ?_; clear hf a; intro a hf
  refine s_v hf (x_bin (hf.eval rfl) (hf.eval rfl) (r_lt _ _ _ _)) ?_; clear hf a; intro a hf
  refine s_nil ?_
  refine then_n ?_
  refine c_cond hf rfl (fun hi2 => ?_) (fun hi2 => ?_)
  ·simp only [decide_eq_true_eq, decide_eq_false_iff_not] at hi2
   refine wp_region_lit ?_
   refine s_m hf rfl ?_; clear hf a; intro a hf
   refine s_m hf rfl ?_; clear hf a; intro a hf
   refine s_m hf rfl ?_; clear hf a; intro a hf
   refine s_v hf (x_indexAddr sl23 (hf.eval rfl) (hf.eval rfl) (by omega) (by omega)) ?_; clear hf a; intro a hf
   replace hf := hf.now (k := 40) (v' := .pointer (some ⟨ab, ao2 + i * 2, none⟩)) rfl (by rw [addr_add]; rfl)
   refine s_v hf (x_fieldAddr fo54_0 (hf.eval rfl)) ?_; clear hf a; intro a hf
   refine s_r hf (x_load sc3 (hf.eval rfl) (rdS_cellAt (f := wF) (sz := 2) (fun _ => rfl) (hs.old hrw) (k := 0) hlt rfl)) ?_; clear hf a; intro a hf
   refine s_m hf rfl ?_; clear hf a; intro a hf
   refine s_r hf (x_build (v := .agg #[.int .i64 ws[i].1, .int .i64 (min old (ws[i].1 + wL ws[i]))]) (hf.parts rfl) (fun w => by kernel_rfl) _) ?_; clear hf a; intro a hf
   refine s_do hf rfl (y_lit (xs := [.tmp 44]) hs sl68 (hf.evals rfl) rfl (by simp [Value.cells]) (by decide) ?_); clear hf hs a; intro b2 w hs a hf
   refine s_do hf rfl (y_append (n := (savL old (ws.take i)).length) (m := 1) (ys := [.int .i64 ws[i].1, .int .i64 (min old (ws[i].1 + wL ws[i]))]) hs sl68 (hf.eval rfl) (hf.eval rfl) .k1 (hs.rd .k0 fun h hb => rd_rows hb rfl) (by simp [Value.oneCell']) (by omega) (by rw [maxLen_eq]; omega) ?_); clear hf hs a; intro v2 w hs hv a hf
   have hsv := savL_succ old hlt
   rw [if_pos hi2] at hsv
   have hln2 : (savL old (ws.take (i + 1))).length ≤ i + 1 := by rw [hsv]; simp; omega
   have hs2 : St ⟨w0, None_⟩ w [sl 119 2 v2 (savL old (ws.take (i + 1))).length ((savL old (ws.take (i + 1))).flatMap spF)] := by
     rw [hsv, List.length_append, List.flatMap_append]
     exact hs.lose .k1
   refine s_a hf rfl ?_; clear hf a; intro a hf
   refine s_nil ?_
   refine blk_n ?_
   refine then_n ?_
   refine wp_region_lit ?_
   refine s_m hf rfl ?_; clear hf a; intro a hf
   refine s_v hf (x_bin (hf.eval rfl) (hf.eval rfl) (r_addi _ (by omega) (by omega))) ?_; clear hf a; intro a hf
   refine s_a hf rfl ?_; clear hf a; intro a hf
   refine s_nil ?_
   exact ⟨_, _, ⟨i + 1, _, rfl, rfl, by omega, by first | exact hln2 | (rw [savL_succ old hlt, if_neg hi2]; simp; omega), by first | exact hs2 | (rw [savL_succ old hlt, if_neg hi2, List.append_nil]; exact hs)⟩, by omega, hf.sub ⟨rfl, rfl, rfl, rfl, rfl, trivial⟩⟩
  simp only [decide_eq_true_eq, decide_eq_false_iff_not] at hi2
  refine wp_skip ?_
  refine blk_n ?_
  refine then_n ?_
  refine wp_region_lit ?_
  refine s_m hf rfl ?_; clear hf a; intro a hf
  refine s_v hf (x_bin (hf.eval rfl) (hf.eval rfl) (r_addi _ (by omega) (by omega))) ?_; clear hf a; intro a hf
  refine s_a hf rfl ?_; clear hf a; intro a hf
  refine s_nil ?_
  exact ⟨_, _, ⟨i + 1, _, rfl, rfl, by omega, by first | exact hln2 | (rw [savL_succ old hlt, if_neg hi2]; simp; omega), by first | exact hs2 | (rw [savL_succ old hlt, if_neg hi2, List.append_nil]; exact hs)⟩, by omega, hf.sub ⟨rfl, rfl, rfl, rfl, rfl, trivial⟩⟩
 simp only [zd1, zd2, zd3, zd4, zd5, zd6, zd7] at hi0
 refine wp_exit ?_
 refine then_x ?_
 refine then_x ?_
 refine blk_x ?_
 refine then_n ?_
 refine wp_seq ?_
 refine wp_region_lit ?_
 refine s_m hf rfl ?_; clear hf a; intro a hf
 refine s_a hf rfl ?_; clear hf a; intro a hf
 refine s_nil ?_
 refine then_n ?_
 refine wp_ret ?_
 refine r_1 hf Tryz.results32 rfl ?_
 have hi9 : i = ws.length := by omega
 subst hi9
 rw [List.take_length] at hs
 exact ⟨_, rfl, hs⟩
theorem savL_len (old : Int) : ∀ l : List Wr, (savL old l).length ≤ l.length
  | [] => Nat.le_refl _
  | z :: l => by
    have := savL_len old l
    unfold savL at this ⊢
    simp only [List.flatMap_cons, List.length_append, List.length_cons]
    have h1 : (if z.1 < min old (z.1 + wL z) then [(z.1, min old (z.1 + wL z))] else []).length ≤ 1 := by split <;> simp
    omega
theorem savL_ok (old : Int) (ho2 : old ≤ 16777216) : ∀ l : List Wr, (∀ z ∈ l, 0 ≤ z.1 ∧ z.1 + wL z ≤ 16777216) → ∀ s ∈ savL old l, 0 ≤ s.1 ∧ s.1 ≤ s.2 ∧ s.2 ≤ 16777216
  | [], _, s, hs => absurd hs (by simp [savL])
  | z :: l, hok, s, hs => by
    have hz := hok z (by simp)
    unfold savL at hs
    simp only [List.flatMap_cons, List.mem_append] at hs
    rcases hs with hs | hs
    · split at hs
      · rename_i h
        simp only [List.mem_singleton] at hs
        subst hs
        simp only
        omega
      · cases hs
    · exact savL_ok old ho2 l (fun y hy => hok y (by simp [hy])) s hs
theorem rneed_b1 (w0 : World) (old size : Int) (aw : Option Addr) (cw : Nat) (ws : List Wr) (hrw : RdS wF 2 (hp w0) (.slice aw ws.length cw) ws) (hlw : ws.length ≤ 1048576) (hb : ¬ ((0 ≤ old ∧ old ≤ 16777216) ∧ (0 ≤ size ∧ size ≤ 16777216))) : Calls Tryz.prog 70 #[.int .i64 old, .int .i64 size, .slice aw ws.length cw] w0 fun e w' => e = .returned (.tuple #[.int .i64 (0), .int .i64 1]) ∧ Kept w0 w' None_ := by
 have hs := St.start w0 None_
 refine c_enter (N := 54) Tryz.func70 rfl Tryz.ntmps70 (by simp) ?_
 intro a hf
 refine wp_seq ?_
 refine wp_region_lit ?_
 refine s_a hf rfl ?_; clear hf a; intro a hf
 refine s_a hf rfl ?_; clear hf a; intro a hf
 refine s_nil ?_
 refine then_n ?_
 refine wp_seq ?_
 refine wp_seq ?_
 refine wp_region_lit ?_
 refine s_m hf rfl ?_; clear hf a; intro a hf
 refine s_do hf rfl (y_call (hf.eval rfl) (hf.evals rfl) Tryz.call85 ((inSize_spec _ _).mono ?_))
 rintro e w1 ⟨rfl, hw⟩
 replace hs : St ⟨w0, None_⟩ w1 [] := by rw [hw]; exact hs
 refine ⟨_, rfl, ?_⟩; clear hf a; intro a hf
 refine s_v hf (x_not (hf.eval rfl)) ?_; clear hf a; intro a hf
 refine s_m hf rfl ?_; clear hf a; intro a hf
 refine s_bool hf (k := 16) rfl (fun hg1_3 hf' => ?_) (fun hg1_3 hf' => ?_)
 ·clear hf
  have hf := hf'
  clear hf'
  simp only [Bool.not_eq_true', Bool.not_eq_false', decide_eq_true_eq, decide_eq_false_iff_not] at hg1_3
  refine s_pass hf rfl rfl ?_; clear hf a; intro a hf
  refine s_pass hf rfl rfl ?_; clear hf a; intro a hf
  refine s_pass hf rfl rfl ?_; clear hf a; intro a hf
  refine s_v hf (x_pick_t (hf.eval rfl) (hf.eval rfl)) ?_; clear hf a; intro a hf
  refine s_nil ?_
  refine then_n ?_
  refine c_cond_t hf rfl (by first | rfl | (simp; omega)) ?_
  refine wp_seq ?_
  refine wp_region_lit ?_
  refine s_a hf rfl ?_; clear hf a; intro a hf
  refine s_a hf rfl ?_; clear hf a; intro a hf
  refine s_nil ?_
  refine then_n ?_
  refine wp_ret ?_
  refine then_r ?_
  refine r_2 hf Tryz.results70 rfl rfl ?_
  exact ⟨rfl, hs.kept⟩
 clear hf
 have hf := hf'
 clear hf'
 simp only [Bool.not_eq_true', Bool.not_eq_false', decide_eq_true_eq, decide_eq_false_iff_not] at hg1_3
 refine s_do hf (wanted_of hf rfl rfl rfl) (.value (x_move (hf.eval rfl) _) ?_); clear hf a; intro a hf
 refine s_do hf (wanted_of hf rfl rfl rfl) (y_call (hf.eval rfl) (hf.evals rfl) Tryz.call85 ((inSize_spec _ _).mono ?_))
 rintro e w1 ⟨rfl, hw⟩
 replace hs : St ⟨w0, None_⟩ w1 [] := by rw [hw]; exact hs
 refine ⟨_, rfl, ?_⟩; clear hf a; intro a hf
 refine s_do hf (wanted_of hf rfl rfl rfl) (.value (x_not (hf.eval rfl) _) ?_); clear hf a; intro a hf
 refine s_v hf (x_pick_f (hf.eval rfl) (hf.eval rfl)) ?_; clear hf a; intro a hf
 refine s_nil ?_
 refine then_n ?_
 refine c_cond_t hf rfl (by first | rfl | (simp; omega)) ?_
 refine wp_seq ?_
 refine wp_region_lit ?_
 refine s_a hf rfl ?_; clear hf a; intro a hf
 refine s_a hf rfl ?_; clear hf a; intro a hf
 refine s_nil ?_
 refine then_n ?_
 refine wp_ret ?_
 refine then_r ?_
 refine r_2 hf Tryz.results70 rfl rfl ?_
 exact ⟨rfl, hs.kept⟩
theorem rneed_b2 (w0 : World) (old size : Int) (aw : Option Addr) (cw : Nat) (ws : List Wr) (hrw : RdS wF 2 (hp w0) (.slice aw ws.length cw) ws) (hlw : ws.length ≤ 1048576) (h1 : 0 ≤ old ∧ old ≤ 16777216) (h2 : 0 ≤ size ∧ size ≤ 16777216) (hr : rgt size ws 0 = false) : Calls Tryz.prog 70 #[.int .i64 old, .int .i64 size, .slice aw ws.length cw] w0 fun e w' => e = .returned (.tuple #[.int .i64 (0), .int .i64 143]) ∧ Kept w0 w' None_ := by
 have hs := St.start w0 None_
 refine c_enter (N := 54) Tryz.func70 rfl Tryz.ntmps70 (by simp) ?_
 intro a hf
 refine wp_seq ?_
 refine wp_region_lit ?_
 refine s_a hf rfl ?_; clear hf a; intro a hf
 refine s_a hf rfl ?_; clear hf a; intro a hf
 refine s_nil ?_
 refine then_n ?_
 refine wp_seq ?_
 refine wp_seq ?_
 refine wp_region_lit ?_
 refine s_m hf rfl ?_; clear hf a; intro a hf
 refine s_do hf rfl (y_call (hf.eval rfl) (hf.evals rfl) Tryz.call85 ((inSize_spec _ _).mono ?_))
 rintro e w1 ⟨rfl, hw⟩
 replace hs : St ⟨w0, None_⟩ w1 [] := by rw [hw]; exact hs
 refine ⟨_, rfl, ?_⟩; clear hf a; intro a hf
 refine s_v hf (x_not (hf.eval rfl)) ?_; clear hf a; intro a hf
 refine s_m hf rfl ?_; clear hf a; intro a hf
 replace hf := hf.now (k := 16) (v' := .bool false) rfl (congrArg Value.bool (by simp; omega))
 refine s_do hf (wanted_of hf rfl rfl rfl) (.value (x_move (hf.eval rfl) _) ?_); clear hf a; intro a hf
 refine s_do hf (wanted_of hf rfl rfl rfl) (y_call (hf.eval rfl) (hf.evals rfl) Tryz.call85 ((inSize_spec _ _).mono ?_))
 rintro e w1 ⟨rfl, hw⟩
 replace hs : St ⟨w0, None_⟩ w1 [] := by rw [hw]; exact hs
 refine ⟨_, rfl, ?_⟩; clear hf a; intro a hf
 refine s_do hf (wanted_of hf rfl rfl rfl) (.value (x_not (hf.eval rfl) _) ?_); clear hf a; intro a hf
 refine s_v hf (x_pick_f (hf.eval rfl) (hf.eval rfl)) ?_; clear hf a; intro a hf
 refine s_nil ?_
 refine then_n ?_
 refine c_cond_f hf rfl (by simp; omega) ?_
 refine wp_skip ?_
 refine then_n ?_
 refine wp_seq ?_
 refine wp_region_lit ?_
 refine s_m hf rfl ?_; clear hf a; intro a hf
 refine s_m hf rfl ?_; clear hf a; intro a hf
 refine s_do hf rfl (y_call (hf.eval rfl) (hf.evals rfl) Tryz.call99 ((rright_spec _ size h2.1 h2.2 _ _ ws (hs.old hrw) hlw).mono ?_))
 rintro e w1 ⟨rfl, hk⟩
 replace hs := hs.ext hk
 refine ⟨_, rfl, ?_⟩; clear hf a; intro a hf
 refine s_a hf rfl ?_; clear hf a; intro a hf
 refine s_nil ?_
 refine then_n ?_
 refine wp_seq ?_
 refine wp_seq ?_
 refine wp_region_lit ?_
 refine s_m hf rfl ?_; clear hf a; intro a hf
 refine s_v hf (x_not (hf.eval rfl)) ?_; clear hf a; intro a hf
 refine s_nil ?_
 refine then_n ?_
 refine c_cond_t hf rfl (by rw [hr]; rfl) ?_
 refine wp_seq ?_
 refine wp_region_lit ?_
 refine s_a hf rfl ?_; clear hf a; intro a hf
 refine s_a hf rfl ?_; clear hf a; intro a hf
 refine s_nil ?_
 refine then_n ?_
 refine wp_ret ?_
 refine then_r ?_
 refine r_2 hf Tryz.results70 rfl rfl ?_
 exact ⟨rfl, hs.kept⟩
theorem rneed_ok (w0 : World) (old size : Int) (aw : Option Addr) (cw : Nat) (ws : List Wr) (hrw : RdS wF 2 (hp w0) (.slice aw ws.length cw) ws) (hlw : ws.length ≤ 1048576) (h1 : 0 ≤ old ∧ old ≤ 16777216) (h2 : 0 ≤ size ∧ size ≤ 16777216) (hr : rgt size ws 0 = true) : Calls Tryz.prog 70 #[.int .i64 old, .int .i64 size, .slice aw ws.length cw] w0 fun e w' => e = .returned (.tuple #[.int .i64 (filZ old size (lonZ (savL old ws))), .int .i64 0]) ∧ Kept w0 w' None_ := by
 have hs := St.start w0 None_
 have hok : ∀ z ∈ ws, 0 ≤ z.1 ∧ z.1 + wL z ≤ 16777216 := fun z hz => by have := rgt_all size ws 0 (by omega) hr z hz; omega
 refine c_enter (N := 54) Tryz.func70 rfl Tryz.ntmps70 (by simp) ?_
 intro a hf
 refine wp_seq ?_
 refine wp_region_lit ?_
 refine s_a hf rfl ?_; clear hf a; intro a hf
 refine s_a hf rfl ?_; clear hf a; intro a hf
 refine s_nil ?_
 refine then_n ?_
 refine wp_seq ?_
 refine wp_seq ?_
 refine wp_region_lit ?_
 refine s_m hf rfl ?_; clear hf a; intro a hf
 refine s_do hf rfl (y_call (hf.eval rfl) (hf.evals rfl) Tryz.call85 ((inSize_spec _ _).mono ?_))
 rintro e w1 ⟨rfl, hw⟩
 replace hs : St ⟨w0, None_⟩ w1 [] := by rw [hw]; exact hs
 refine ⟨_, rfl, ?_⟩; clear hf a; intro a hf
 refine s_v hf (x_not (hf.eval rfl)) ?_; clear hf a; intro a hf
 refine s_m hf rfl ?_; clear hf a; intro a hf
 replace hf := hf.now (k := 16) (v' := .bool false) rfl (congrArg Value.bool (by simp; omega))
 refine s_do hf (wanted_of hf rfl rfl rfl) (.value (x_move (hf.eval rfl) _) ?_); clear hf a; intro a hf
 refine s_do hf (wanted_of hf rfl rfl rfl) (y_call (hf.eval rfl) (hf.evals rfl) Tryz.call85 ((inSize_spec _ _).mono ?_))
 rintro e w1 ⟨rfl, hw⟩
 replace hs : St ⟨w0, None_⟩ w1 [] := by rw [hw]; exact hs
 refine ⟨_, rfl, ?_⟩; clear hf a; intro a hf
 refine s_do hf (wanted_of hf rfl rfl rfl) (.value (x_not (hf.eval rfl) _) ?_); clear hf a; intro a hf
 refine s_v hf (x_pick_f (hf.eval rfl) (hf.eval rfl)) ?_; clear hf a; intro a hf
 refine s_nil ?_
 refine then_n ?_
 refine c_cond_f hf rfl (by simp; omega) ?_
 refine wp_skip ?_
 refine then_n ?_
 refine wp_seq ?_
 refine wp_region_lit ?_
 refine s_m hf rfl ?_; clear hf a; intro a hf
 refine s_m hf rfl ?_; clear hf a; intro a hf
 refine s_do hf rfl (y_call (hf.eval rfl) (hf.evals rfl) Tryz.call99 ((rright_spec _ size h2.1 h2.2 _ _ ws (hs.old hrw) hlw).mono ?_))
 rintro e w1 ⟨rfl, hk⟩
 replace hs := hs.ext hk
 refine ⟨_, rfl, ?_⟩; clear hf a; intro a hf
 refine s_a hf rfl ?_; clear hf a; intro a hf
 refine s_nil ?_
 refine then_n ?_
 refine wp_seq ?_
 refine wp_seq ?_
 refine wp_region_lit ?_
 refine s_m hf rfl ?_; clear hf a; intro a hf
 refine s_v hf (x_not (hf.eval rfl)) ?_; clear hf a; intro a hf
 refine s_nil ?_
 refine then_n ?_
 refine c_cond_f hf rfl (by rw [hr]; rfl) ?_
 refine wp_skip ?_
 refine then_n ?_
 refine wp_seq ?_
 refine wp_region_lit ?_
 refine s_a hf rfl ?_; clear hf a; intro a hf
 refine s_nil ?_
 refine then_n ?_
 refine wp_seq ?_
 refine wp_region_lit ?_
 refine s_m hf rfl ?_; clear hf a; intro a hf
 refine s_m hf rfl ?_; clear hf a; intro a hf
 refine s_do hf rfl (y_call (hf.eval rfl) (hf.evals rfl) Tryz.call32 ((spans_spec _ old h1.1 h1.2 _ _ ws (hs.old hrw) hlw hok).mono ?_))
 rintro e w1 ⟨v4, rfl, hj⟩
 replace hs := hs.join hj
 simp only [List.cons_append, List.nil_append] at hs
 obtain ⟨a4, c4, rfl⟩ := sl_shape hs
 have hsl4 := savL_len old ws
 refine ⟨_, rfl, ?_⟩; clear hf a; intro a hf
 refine s_a hf rfl ?_; clear hf a; intro a hf
 refine s_nil ?_
 refine then_n ?_
 refine wp_seq ?_
 refine wp_seq ?_
 refine wp_region_lit ?_
 refine s_a hf rfl ?_; clear hf a; intro a hf
 refine s_nil ?_
 refine then_n ?_
 refine wp_block ?_
 refine c_loop (L0 := [(0, _), (1, _), (6, _), (7, _), (10, _)]) (fun M w m => ∃ i : Nat, M = [(9, .int .i64 (lonZ ((savL old ws).take i))), (11, .int .i64 (i : Int))] ∧ (savL old ws).length - i = m ∧ i ≤ (savL old ws).length ∧ 0 ≤ lonZ ((savL old ws).take i) ∧ lonZ ((savL old ws).take i) ≤ 16777224 * i ∧ St ⟨w0, None_⟩ w [sl 119 2 (.slice a4 (savL old ws).length c4) (savL old ws).length ((savL old ws).flatMap spF)]) (M0 := [(9, .int .i64 0), (11, .int .i64 0)]) (⟨0, rfl, rfl, Nat.zero_le _, by simp [lonZ], by simp [lonZ], hs⟩) (hf.sub ⟨rfl, rfl, rfl, rfl, rfl, rfl, rfl, trivial⟩) ?_
 clear hf hs a
 rintro M m a w ⟨i, rfl, rfl, hi, hn0, hn1, hs⟩ hf
 refine wp_seq ?_
 refine wp_seq ?_
 refine wp_region_lit ?_
 refine s_m hf rfl ?_; clear hf a; intro a hf
 refine s_m hf rfl ?_; clear hf a; intro a hf
 refine s_v hf (x_len Tryz.underlying68 (hf.eval rfl)) ?_; clear hf a; intro a hf
 refine s_v hf (x_bin (hf.eval rfl) (hf.eval rfl) (r_lt _ _ _ _)) ?_; clear hf a; intro a hf
 refine s_nil ?_
 refine then_n ?_
 refine c_cond hf rfl (fun hi2 => ?_) (fun hi2 => ?_)
 ·simp only [zd1, zd2, zd3, zd4, zd5, zd6, zd7] at hi2
  have hlt : i < (savL old ws).length := by omega
  have hrd : RdS spF 2 (hp w) (.slice a4 (savL old ws).length c4) (savL old ws) := hs.rd .k0 fun h hh => sl_rd hh
  obtain ⟨a4, rfl⟩ := hrd.some (by omega)
  obtain ⟨ab, ao2, rfl⟩ := rdS_plain (sz := 2) (fun _ => rfl) (by decide) hrd (by omega)
  clear hrd
  have hb := savL_ok old h1.2 ws hok _ (List.getElem_mem hlt)
  refine wp_skip ?_
  refine then_n ?_
  refine wp_seq ?_
  refine wp_block ?_
  refine c_draw hs (fun _ => True) [.held, .held, .held, .held, .held, .held, .read, .held, .held, .held, .held, .held, .read, .held, .held] (by kernel_rfl) (by kernel_rfl) (fun _ _ _ => trivial) ?_
  clear hs; intro w hs hC hw
  have hrd : RdS spF 2 (hp w) (.slice (some ⟨ab, ao2, none⟩) (savL old ws).length c4) (savL old ws) := hs.rd .k0 fun h hh => sl_rd hh
  refine m_held hf rfl (fun w' _ => x_move (hf.eval rfl) w') ?_; clear hf a; intro a hf
  refine m_held hf rfl (fun w' _ => x_bin (hf.eval rfl) (hf.eval rfl) (r_addi _ (by omega) (by omega)) w') ?_; clear hf a; intro a hf
  refine m_held hf rfl (fun w' _ => x_move (hf.eval rfl) w') ?_; clear hf a; intro a hf
  refine m_held hf rfl (fun w' _ => x_move (hf.eval rfl) w') ?_; clear hf a; intro a hf
  refine m_held hf rfl (fun w' _ => x_indexAddr sl68 (hf.eval rfl) (hf.eval rfl) (by omega) (by omega) w') ?_; clear hf a; intro a hf
  replace hf := hf.now (k := 39) (v' := .pointer (some ⟨ab, ao2 + i * 2, none⟩)) rfl (by rw [addr_add]; rfl)
  refine m_held hf rfl (fun w' _ => x_fieldAddr fo119_1 (hf.eval rfl) w') ?_; clear hf a; intro a hf
  refine m_read hf rfl (x_load sc3 (hf.eval rfl) (rdS_cellAt (f := spF) (sz := 2) (fun _ => rfl) hrd (k := 1) hlt rfl)) ?_; clear hf a; intro a hf
  refine m_held hf rfl (fun w' _ => x_bin (hf.eval rfl) (hf.eval rfl) (r_addi _ (by omega) (by omega)) w') ?_; clear hf a; intro a hf
  refine m_held hf rfl (fun w' _ => x_move (hf.eval rfl) w') ?_; clear hf a; intro a hf
  refine m_held hf rfl (fun w' _ => x_move (hf.eval rfl) w') ?_; clear hf a; intro a hf
  refine m_held hf rfl (fun w' _ => x_indexAddr sl68 (hf.eval rfl) (hf.eval rfl) (by omega) (by omega) w') ?_; clear hf a; intro a hf
  replace hf := hf.now (k := 45) (v' := .pointer (some ⟨ab, ao2 + i * 2, none⟩)) rfl (by rw [addr_add]; rfl)
  refine m_held hf rfl (fun w' _ => x_fieldAddr fo119_0 (hf.eval rfl) w') ?_; clear hf a; intro a hf
  refine m_read hf rfl (x_load sc3 (hf.eval rfl) (rdS_cellAt (f := spF) (sz := 2) (fun _ => rfl) hrd (k := 0) hlt rfl)) ?_; clear hf a; intro a hf
  refine m_held hf rfl (fun w' _ => x_bin (hf.eval rfl) (hf.eval rfl) (r_subi _ (by omega) (by omega)) w') ?_; clear hf a; intro a hf
  refine m_held hf rfl (fun w' _ => x_assign (hf.eval rfl) w') ?_; clear hf a; intro a hf
  refine m_nil ?_
  refine blk_n ?_
  refine then_n ?_
  refine wp_region_lit ?_
  refine s_m hf rfl ?_; clear hf a; intro a hf
  refine s_v hf (x_bin (hf.eval rfl) (hf.eval rfl) (r_addi _ (by omega) (by omega))) ?_; clear hf a; intro a hf
  refine s_a hf rfl ?_; clear hf a; intro a hf
  refine s_nil ?_
  have hlz := lonZ_succ hlt
  replace hf := hf.now (k := 9) (v' := .int .i64 (lonZ ((savL old ws).take (i + 1)))) rfl (by rw [hlz]; congr 1; omega)
  exact ⟨_, _, ⟨i + 1, rfl, rfl, by omega, by omega, by omega, hs⟩, by omega, hf.sub ⟨rfl, rfl, rfl, rfl, rfl, rfl, rfl, trivial⟩⟩
 simp only [zd1, zd2, zd3, zd4, zd5, zd6, zd7] at hi2
 refine wp_exit ?_
 refine then_x ?_
 refine then_x ?_
 refine blk_x ?_
 refine then_n ?_
 refine wp_seq ?_
 refine wp_region_lit ?_
 refine s_m hf rfl ?_; clear hf a; intro a hf
 refine s_m hf rfl ?_; clear hf a; intro a hf
 refine s_m hf rfl ?_; clear hf a; intro a hf
 have hi9 : i = (savL old ws).length := by omega
 subst hi9
 rw [List.take_length] at hf hn0 hn1
 refine s_do hf rfl (y_call (hf.eval rfl) (hf.evals rfl) Tryz.call51 ((file_spec _ old size _ h1.1 h1.2 h2.1 h2.2 hn0 (by omega)).mono ?_))
 rintro e w1 ⟨rfl, hk⟩
 replace hs := hs.ext hk
 refine ⟨_, rfl, ?_⟩; clear hf a; intro a hf
 refine s_a hf rfl ?_; clear hf a; intro a hf
 refine s_nil ?_
 refine then_n ?_
 refine wp_seq ?_
 refine wp_region_lit ?_
 refine s_m hf rfl ?_; clear hf a; intro a hf
 refine s_a hf rfl ?_; clear hf a; intro a hf
 refine s_a hf rfl ?_; clear hf a; intro a hf
 refine s_nil ?_
 refine then_n ?_
 refine wp_ret ?_
 refine r_2 hf Tryz.results70 rfl rfl ?_
 exact ⟨rfl, hs.kept⟩
theorem rapply_spec (w0 : World) (a1 : Option Addr) (c1 : Nat) (content : List UInt8) (hr1 : RdB (hp w0) (.slice a1 content.length c1) content) (hl1 : content.length ≤ 140737488351232) (size : Int) (aw : Option Addr) (cw : Nat) (ws : List Wr) (hrw : RdS wF 2 (hp w0) (.slice aw ws.length cw) ws) (hlw : ws.length ≤ 1048576) (hgd : ∀ z ∈ ws, RdB (hp w0) (.slice z.2.1 z.2.2.2.length z.2.2.1) z.2.2.2 ∧ z.2.2.2.length ≤ 1048576) (V : List UInt8) (hV : V = aplR content size ws) (E : Int) (hE : E = aplE content.length size ws) : Calls Tryz.prog 69 #[.slice a1 content.length c1, .int .i64 size, .slice aw ws.length cw] w0 fun e w' => ∃ a c, e = .returned (.tuple #[.slice a V.length c, .int .i64 E]) ∧ St ⟨w0, None_⟩ w' [slB 5 (.slice a V.length c) V] := by
 have hs := St.start w0 None_
 refine c_enter (N := 80) Tryz.func69 rfl Tryz.ntmps69 (by simp) ?_
 intro a hf
 refine wp_seq ?_
 refine wp_region_lit ?_
 refine s_a hf rfl ?_; clear hf a; intro a hf
 refine s_a hf rfl ?_; clear hf a; intro a hf
 refine s_nil ?_
 refine then_n ?_
 refine wp_seq ?_
 refine wp_seq ?_
 refine wp_region_lit ?_
 refine s_m hf rfl ?_; clear hf a; intro a hf
 refine s_v hf (x_len Tryz.underlying22 (hf.eval rfl)) ?_; clear hf a; intro a hf
 refine s_v hf (x_bin (hf.eval rfl) (hf.eval rfl) (r_gt _ _ _ _)) ?_; clear hf a; intro a hf
 refine s_m hf rfl ?_; clear hf a; intro a hf
 refine s_bool hf (k := 16) rfl (fun hg1_3 hf' => ?_) (fun hg1_3 hf' => ?_)
 ·clear hf
  have hf := hf'
  clear hf'
  simp only [zd1, zd2, zd3, zd4] at hg1_3
  refine s_pass hf rfl rfl ?_; clear hf a; intro a hf
  refine s_pass hf rfl rfl ?_; clear hf a; intro a hf
  refine s_pass hf rfl rfl ?_; clear hf a; intro a hf
  refine s_v hf (x_pick_t (hf.eval rfl) (hf.eval rfl)) ?_; clear hf a; intro a hf
  refine s_nil ?_
  refine then_n ?_
  refine c_cond_t hf rfl rfl ?_
  refine wp_seq ?_
  refine wp_region_lit ?_
  refine s_a hf rfl ?_; clear hf a; intro a hf
  refine s_a hf rfl ?_; clear hf a; intro a hf
  refine s_nil ?_
  refine then_n ?_
  refine wp_ret ?_
  refine then_r ?_
  refine r_2 hf Tryz.results69 rfl rfl ?_
  have hE0 : E = 1 := by rw [hE]; unfold aplE; rw [if_pos (by omega)]
  have hV0 : V = [] := by rw [hV]; unfold aplR; rw [if_neg (by rw [← hE, hE0]; decide)]
  rw [hE0, hV0]
  exact ⟨none, 0, rfl, hs.emp (slB_nil _)⟩
 clear hf
 have hf := hf'
 clear hf'
 simp only [zd1, zd2, zd3, zd4] at hg1_3
 refine s_do hf (wanted_of hf rfl rfl rfl) (.value (x_move (hf.eval rfl) _) ?_); clear hf a; intro a hf
 refine s_do hf (wanted_of hf rfl rfl rfl) (y_call (hf.eval rfl) (hf.evals rfl) Tryz.call85 ((inSize_spec _ _).mono ?_))
 rintro e w1 ⟨rfl, hw9⟩
 rw [hw9]
 clear hw9 w1
 refine ⟨_, rfl, ?_⟩; clear hf a; intro a hf
 refine s_do hf (wanted_of hf rfl rfl rfl) (.value (x_not (hf.eval rfl) _) ?_); clear hf a; intro a hf
 refine s_v hf (x_pick_f (hf.eval rfl) (hf.eval rfl)) ?_; clear hf a; intro a hf
 refine s_nil ?_
 refine then_n ?_
 refine c_cond hf rfl (fun hi0 => ?_) (fun hi0 => ?_)
 ·first | simp only [zd1, zd2, zd3, zd4] at hi0 | skip
  refine wp_seq ?_
  refine wp_region_lit ?_
  refine s_a hf rfl ?_; clear hf a; intro a hf
  refine s_a hf rfl ?_; clear hf a; intro a hf
  refine s_nil ?_
  refine then_n ?_
  refine wp_ret ?_
  refine then_r ?_
  refine r_2 hf Tryz.results69 rfl rfl ?_
  have hE0 : E = 1 := by rw [hE]; unfold aplE; rw [if_pos (by omega)]
  have hV0 : V = [] := by rw [hV]; unfold aplR; rw [if_neg (by rw [← hE, hE0]; decide)]
  rw [hE0, hV0]
  exact ⟨none, 0, rfl, hs.emp (slB_nil _)⟩
 first | simp only [zd1, zd2, zd3, zd4] at hi0 | skip
 have hsz : 0 ≤ size ∧ size ≤ 16777216 := hi0
 refine wp_skip ?_
 refine then_n ?_
 refine wp_seq ?_
 refine wp_region_lit ?_
 refine s_m hf rfl ?_; clear hf a; intro a hf
 refine s_m hf rfl ?_; clear hf a; intro a hf
 refine s_do hf rfl (y_call (hf.eval rfl) (hf.evals rfl) Tryz.call99 ((rright_spec _ size hsz.1 hsz.2 _ _ ws (hs.old hrw) hlw).mono ?_))
 rintro e w1 ⟨rfl, hk⟩
 replace hs := hs.ext hk
 refine ⟨_, rfl, ?_⟩; clear hf a; intro a hf
 refine s_a hf rfl ?_; clear hf a; intro a hf
 refine s_nil ?_
 refine then_n ?_
 refine wp_seq ?_
 refine wp_seq ?_
 refine wp_region_lit ?_
 refine s_m hf rfl ?_; clear hf a; intro a hf
 refine s_v hf (x_not (hf.eval rfl)) ?_; clear hf a; intro a hf
 refine s_nil ?_
 refine then_n ?_
 refine c_cond hf rfl (fun hi1 => ?_) (fun hi1 => ?_)
 ·simp only [Bool.not_eq_true', Bool.not_eq_false'] at hi1
  refine wp_seq ?_
  refine wp_region_lit ?_
  refine s_a hf rfl ?_; clear hf a; intro a hf
  refine s_a hf rfl ?_; clear hf a; intro a hf
  refine s_nil ?_
  refine then_n ?_
  refine wp_ret ?_
  refine then_r ?_
  refine r_2 hf Tryz.results69 rfl rfl ?_
  have hE0 : E = 143 := by rw [hE]; unfold aplE; rw [if_neg (by omega), if_pos (by assumption)]
  have hV0 : V = [] := by rw [hV]; unfold aplR; rw [if_neg (by rw [← hE, hE0]; decide)]
  rw [hE0, hV0]
  exact ⟨none, 0, rfl, hs.emp (slB_nil _)⟩
 simp only [Bool.not_eq_true', Bool.not_eq_false'] at hi1
 have hrt : rgt size ws 0 = true := hi1
 obtain ⟨n, rfl⟩ := Int.eq_ofNat_of_zero_le (show 0 ≤ size by omega)
 have hok : ∀ z ∈ ws, 0 ≤ z.1 ∧ z.1 + wL z ≤ (n : Int) ∧ 0 < wL z := fun z hz => by have h8 := rgt_all (n : Int) ws 0 (by omega) hrt z hz; exact ⟨h8.1, h8.2, rgt_pos (n : Int) ws 0 hrt z hz⟩
 refine wp_skip ?_
 refine then_n ?_
 refine wp_seq ?_
 refine wp_region_lit ?_
 refine s_m hf rfl ?_; clear hf a; intro a hf
 refine s_do hf rfl (y_makeB (m := n) (c := n) hs sl22 (hf.eval rfl) (hf.eval rfl) rfl rfl (by omega) (by omega) ?_); clear hf hs a; intro b w hs a hf
 refine s_a hf rfl ?_; clear hf a; intro a hf
 refine s_nil ?_
 refine then_n ?_
 refine wp_seq ?_
 refine wp_seq ?_
 refine wp_region_lit ?_
 refine s_a hf rfl ?_; clear hf a; intro a hf
 refine s_nil ?_
 refine then_n ?_
 refine wp_block ?_
 refine c_loop (L0 := [(0, _), (1, _), (2, _), (6, _), (7, _), (9, _)]) (fun M w m => ∃ i : Nat, M = [(10, .int .i64 (i : Int))] ∧ n - i = m ∧ i ≤ n ∧ i ≤ content.length ∧ St ⟨w0, None_⟩ w [bb b 5 (content.take i ++ List.replicate (n - i) 0)]) (M0 := _) (⟨0, rfl, rfl, Nat.zero_le _, Nat.zero_le _, by simpa using hs⟩) (hf.sub ⟨rfl, rfl, rfl, rfl, rfl, rfl, rfl, trivial⟩) ?_
 clear hf hs a
 rintro M m a w ⟨i, rfl, rfl, hi, hi9, hs⟩ hf
 refine wp_seq ?_
 refine wp_seq ?_
 refine wp_region_lit ?_
 refine s_m hf rfl ?_; clear hf a; intro a hf
 refine s_m hf rfl ?_; clear hf a; intro a hf
 refine s_v hf (x_bin (hf.eval rfl) (hf.eval rfl) (r_lt _ _ _ _)) ?_; clear hf a; intro a hf
 refine s_m hf rfl ?_; clear hf a; intro a hf
 refine s_bool hf (k := 31) rfl (fun hg8_3 hf' => ?_) (fun hg8_3 hf' => ?_)
 ·clear hf
  have hf := hf'
  clear hf'
  simp only [zd1, zd2, zd3, zd4] at hg8_3
  refine s_do hf (wanted_of hf rfl rfl rfl) (.value (x_move (hf.eval rfl) _) ?_); clear hf a; intro a hf
  refine s_do hf (wanted_of hf rfl rfl rfl) (.value (x_move (hf.eval rfl) _) ?_); clear hf a; intro a hf
  refine s_do hf (wanted_of hf rfl rfl rfl) (.value (x_len Tryz.underlying22 (hf.eval rfl) _) ?_); clear hf a; intro a hf
  refine s_do hf (wanted_of hf rfl rfl rfl) (.value (x_bin (hf.eval rfl) (hf.eval rfl) (r_lt _ _ _ _) _) ?_); clear hf a; intro a hf
  refine s_v hf (x_pick_t (hf.eval rfl) (hf.eval rfl)) ?_; clear hf a; intro a hf
  refine s_nil ?_
  refine then_n ?_
  refine c_cond hf rfl (fun hi2 => ?_) (fun hi2 => ?_)
  ·first | simp only [decide_eq_true_eq, decide_eq_false_iff_not] at hi2 | skip
   have hlt : i < content.length := by omega
   obtain ⟨a1, rfl⟩ := hr1.some (by omega)
   refine wp_skip ?_
   refine then_n ?_
   refine wp_seq ?_
   refine wp_block ?_
   refine wp_region_lit ?_
   refine s_m hf rfl ?_; clear hf a; intro a hf
   refine s_m hf rfl ?_; clear hf a; intro a hf
   refine s_m hf rfl ?_; clear hf a; intro a hf
   refine s_m hf rfl ?_; clear hf a; intro a hf
   refine s_v hf (x_indexAddr sl22 (hf.eval rfl) (hf.eval rfl) (by omega) (by omega)) ?_; clear hf a; intro a hf
   refine s_r hf (x_loadB (i := (i : Int)) sc5 (hs.oldB hr1) (hf.eval rfl) (by simpa using hlt)) ?_; clear hf a; intro a hf
   replace hf := hf.now (k := 44) (v' := u8v content[i]) rfl (rfl)
   refine s_v hf (x_indexAddr sl22 (hf.eval rfl) (hf.eval rfl) (by omega) (by omega)) ?_; clear hf a; intro a hf
   replace hf := hf.now (k := 45) (v' := .pointer (some ⟨b, i, none⟩)) rfl (by rw [at_addN])
   refine s_do0 hf rfl (y_storeB (k := i) (u := content[i]) hs sc5 (hf.eval rfl) (hf.eval rfl) rfl .k0 (by simp; omega) ?_); clear hf hs a; intro w hs a hf
   rw [base_step (by omega) hlt] at hs
   refine s_nil ?_
   refine blk_n ?_
   refine then_n ?_
   refine wp_region_lit ?_
   refine s_m hf rfl ?_; clear hf a; intro a hf
   refine s_v hf (x_bin (hf.eval rfl) (hf.eval rfl) (r_addi _ (by omega) (by omega))) ?_; clear hf a; intro a hf
   refine s_a hf rfl ?_; clear hf a; intro a hf
   refine s_nil ?_
   exact ⟨_, _, ⟨i + 1, rfl, rfl, by omega, by omega, hs⟩, by omega, hf.sub ⟨rfl, rfl, rfl, rfl, rfl, rfl, rfl, trivial⟩⟩
  first | simp only [decide_eq_true_eq, decide_eq_false_iff_not] at hi2 | skip
  first | rw [base_end (n := n) (content := content) (i := i) (by omega) (by omega) (by omega)] at hs | skip
  refine wp_exit ?_
  refine then_x ?_
  refine then_x ?_
  refine blk_x ?_
  refine then_n ?_
  refine wp_seq ?_
  refine wp_seq ?_
  refine wp_region_lit ?_
  refine s_a hf rfl ?_; clear hf a; intro a hf
  refine s_nil ?_
  refine then_n ?_
  refine wp_block ?_
  refine c_loop (L0 := [(0, _), (1, _), (2, _), (6, _), (7, _), (9, _), (10, _), (28, _), (29, _), (30, _), (31, _), (32, _), (33, _), (34, _), (35, _), (36, _)]) (fun M w m => ∃ i : Nat, M = [(11, .int .i64 (i : Int))] ∧ ws.length - i = m ∧ i ≤ ws.length ∧ St ⟨w0, None_⟩ w [bb b 5 (appW (baseW content n) (ws.take i))]) (M0 := [(11, .int .i64 0)]) (⟨0, rfl, rfl, Nat.zero_le _, hs⟩) (hf.sub ⟨rfl, rfl, rfl, rfl, rfl, rfl, rfl, rfl, rfl, rfl, rfl, rfl, rfl, rfl, rfl, rfl, rfl, trivial⟩) ?_
  clear hf hs a
  rintro M m a w ⟨i, rfl, rfl, hi, hs⟩ hf
  refine wp_seq ?_
  refine wp_seq ?_
  refine wp_region_lit ?_
  refine s_m hf rfl ?_; clear hf a; intro a hf
  refine s_m hf rfl ?_; clear hf a; intro a hf
  refine s_v hf (x_len Tryz.underlying23 (hf.eval rfl)) ?_; clear hf a; intro a hf
  refine s_v hf (x_bin (hf.eval rfl) (hf.eval rfl) (r_lt _ _ _ _)) ?_; clear hf a; intro a hf
  refine s_nil ?_
  refine then_n ?_
  refine c_cond hf rfl (fun hi3 => ?_) (fun hi3 => ?_)
  ·simp only [zd1, zd2, zd3, zd4, zd5, zd6, zd7] at hi3
   have hlt : i < ws.length := by omega
   obtain ⟨aw, rfl⟩ := hrw.some (by omega)
   obtain ⟨ab, ao2, rfl⟩ := rdS_plain (sz := 2) (fun _ => rfl) (by decide) hrw (by omega)
   have hgi := hgd _ (List.getElem_mem hlt)
   obtain ⟨hzi1, hzi2, hzi3⟩ := hok _ (List.getElem_mem hlt)
   have hwl0 : wL ws[i] = (ws[i].2.2.2.length : Int) := rfl
   have hal : (appW (baseW content n) (ws.take i)).length = n := by rw [appW_len, baseW_len]
   refine wp_skip ?_
   refine then_n ?_
   refine wp_seq ?_
   refine wp_block ?_
   refine wp_seq ?_
   refine wp_region_lit ?_
   refine s_a hf rfl ?_; clear hf a; intro a hf
   refine s_nil ?_
   refine then_n ?_
   refine wp_block ?_
   refine c_loop (L0 := [(0, _), (1, _), (2, _), (6, _), (7, _), (9, _), (10, _), (11, _), (28, _), (29, _), (30, _), (31, _), (32, _), (33, _), (34, _), (35, _), (36, _), (46, _), (47, _), (48, _), (49, _)]) (fun M w m => ∃ k : Nat, M = [(12, .int .i64 (k : Int))] ∧ ws[i].2.2.2.length - k = m ∧ k ≤ ws[i].2.2.2.length ∧ St ⟨w0, None_⟩ w [bb b 5 (putP (appW (baseW content n) (ws.take i)) (ws[i].1.toNat, ws[i].2.2.2.take k))]) (M0 := [(12, .int .i64 0)]) (⟨0, rfl, rfl, Nat.zero_le _, by rw [putP_zero]; exact hs⟩) (hf.sub ⟨rfl, rfl, rfl, rfl, rfl, rfl, rfl, rfl, rfl, rfl, rfl, rfl, rfl, rfl, rfl, rfl, rfl, rfl, rfl, rfl, rfl, rfl, trivial⟩) ?_
   clear hf hs a
   rintro M m a w ⟨k, rfl, rfl, hk, hs⟩ hf
   refine wp_seq ?_
   refine wp_seq ?_
   refine wp_region_lit ?_
   refine s_m hf rfl ?_; clear hf a; intro a hf
   refine s_m hf rfl ?_; clear hf a; intro a hf
   refine s_m hf rfl ?_; clear hf a; intro a hf
   refine s_v hf (x_indexAddr sl23 (hf.eval rfl) (hf.eval rfl) (by omega) (by omega)) ?_; clear hf a; intro a hf
   replace hf := hf.now (k := 55) (v' := .pointer (some ⟨ab, ao2 + i * 2, none⟩)) rfl (by rw [addr_add]; rfl)
   refine s_v hf (x_fieldAddr fo54_1 (hf.eval rfl)) ?_; clear hf a; intro a hf
   refine s_r hf (x_load sc22 (hf.eval rfl) (rdS_cellAt (f := wF) (sz := 2) (fun _ => rfl) (hs.old hrw) (k := 1) hlt rfl)) ?_; clear hf a; intro a hf
   refine s_v hf (x_len Tryz.underlying22 (hf.eval rfl)) ?_; clear hf a; intro a hf
   refine s_v hf (x_bin (hf.eval rfl) (hf.eval rfl) (r_lt _ _ _ _)) ?_; clear hf a; intro a hf
   refine s_nil ?_
   refine then_n ?_
   refine c_cond hf rfl (fun hi4 => ?_) (fun hi4 => ?_)
   ·simp only [zd1, zd2, zd3, zd4, zd5, zd6, zd7] at hi4
    have hkl : k < ws[i].2.2.2.length := by omega
    obtain ⟨da, hda⟩ : ∃ x, ws[i].2.1 = some x := by
      rcases hgi.1.2 with ⟨c9, e9, hn9⟩ | ⟨x9, c9, e9, _⟩
      · omega
      · injection e9 with e9; exact ⟨x9, e9⟩
    have hgk : RdB (hp w0) (.slice (some da) ws[i].2.2.2.length ws[i].2.2.1) ws[i].2.2.2 := by rw [← hda]; exact hgi.1
    refine wp_skip ?_
    refine then_n ?_
    refine wp_seq ?_
    refine wp_block ?_
    refine c_draw hs (fun _ => True) [.held, .held, .held, .held, .held, .read, .held, .held, .held, .held, .held, .held, .read, .held, .held, .read, .held, .fin] (by kernel_rfl) (by kernel_rfl) (fun _ _ _ => trivial) ?_
    clear hs; intro w hs hC hw
    refine m_held hf rfl (fun w' _ => x_move (hf.eval rfl) w') ?_; clear hf a; intro a hf
    refine m_held hf rfl (fun w' _ => x_move (hf.eval rfl) w') ?_; clear hf a; intro a hf
    refine m_held hf rfl (fun w' _ => x_move (hf.eval rfl) w') ?_; clear hf a; intro a hf
    refine m_held hf rfl (fun w' _ => x_indexAddr sl23 (hf.eval rfl) (hf.eval rfl) (by omega) (by omega) w') ?_; clear hf a; intro a hf
    replace hf := hf.now (k := 65) (v' := .pointer (some ⟨ab, ao2 + i * 2, none⟩)) rfl (by rw [addr_add]; rfl)
    refine m_held hf rfl (fun w' _ => x_fieldAddr fo54_0 (hf.eval rfl) w') ?_; clear hf a; intro a hf
    refine m_read hf rfl (x_load sc3 (hf.eval rfl) (rdS_cellAt (f := wF) (sz := 2) (fun _ => rfl) (hs.old hrw) (k := 0) hlt rfl)) ?_; clear hf a; intro a hf
    refine m_held hf rfl (fun w' _ => x_move (hf.eval rfl) w') ?_; clear hf a; intro a hf
    refine m_held hf rfl (fun w' _ => x_bin (hf.eval rfl) (hf.eval rfl) (r_addi _ (by omega) (by omega)) w') ?_; clear hf a; intro a hf
    replace hf := hf.now (k := 69) (v' := .int .i64 ((ws[i].1.toNat + k : Nat) : Int)) rfl (by congr 1; omega)
    refine m_held hf rfl (fun w' _ => x_move (hf.eval rfl) w') ?_; clear hf a; intro a hf
    refine m_held hf rfl (fun w' _ => x_move (hf.eval rfl) w') ?_; clear hf a; intro a hf
    refine m_held hf rfl (fun w' _ => x_indexAddr sl23 (hf.eval rfl) (hf.eval rfl) (by omega) (by omega) w') ?_; clear hf a; intro a hf
    replace hf := hf.now (k := 72) (v' := .pointer (some ⟨ab, ao2 + i * 2, none⟩)) rfl (by rw [addr_add]; rfl)
    refine m_held hf rfl (fun w' _ => x_fieldAddr fo54_1 (hf.eval rfl) w') ?_; clear hf a; intro a hf
    refine m_read hf rfl (x_load sc22 (hf.eval rfl) (rdS_cellAt (f := wF) (sz := 2) (fun _ => rfl) (hs.old hrw) (k := 1) hlt rfl)) ?_; clear hf a; intro a hf
    replace hf := hf.now (k := 74) (v' := .slice (some da) ws[i].2.2.2.length ws[i].2.2.1) rfl (by rw [← hda])
    refine m_held hf rfl (fun w' _ => x_move (hf.eval rfl) w') ?_; clear hf a; intro a hf
    refine m_held hf rfl (fun w' _ => x_indexAddr sl22 (hf.eval rfl) (hf.eval rfl) (by omega) (by omega) w') ?_; clear hf a; intro a hf
    refine m_read hf rfl (x_loadB (i := (k : Int)) sc5 (hs.oldB hgk) (hf.eval rfl) (by simpa using hkl)) ?_; clear hf a; intro a hf
    replace hf := hf.now (k := 77) (v' := u8v ws[i].2.2.2[k]) rfl (rfl)
    refine m_held hf rfl (fun w' _ => x_indexAddr sl22 (hf.eval rfl) (hf.eval rfl) (by omega) (by omega) w') ?_; clear hf a; intro a hf
    replace hf := hf.now (k := 78) (v' := .pointer (some ⟨b, ws[i].1.toNat + k, none⟩)) rfl (by rw [at_addN])
    refine m_fin0 hf rfl (y_storeB (k := ws[i].1.toNat + k) (u := ws[i].2.2.2[k]) hs sc5 (hf.eval rfl) (hf.eval rfl) rfl .k0 (by rw [putP_len, hal]; omega) ?_); clear hf hs a; intro w hs; intro a hf
    rw [putP_step (by rw [hal]; omega) hkl] at hs
    refine blk_n ?_
    refine then_n ?_
    refine wp_region_lit ?_
    refine s_m hf rfl ?_; clear hf a; intro a hf
    refine s_v hf (x_bin (hf.eval rfl) (hf.eval rfl) (r_addi _ (by omega) (by omega))) ?_; clear hf a; intro a hf
    refine s_a hf rfl ?_; clear hf a; intro a hf
    refine s_nil ?_
    exact ⟨_, _, ⟨k + 1, rfl, rfl, by omega, hs⟩, by omega, hf.sub ⟨rfl, rfl, rfl, rfl, rfl, rfl, rfl, rfl, rfl, rfl, rfl, rfl, rfl, rfl, rfl, rfl, rfl, rfl, rfl, rfl, rfl, rfl, trivial⟩⟩
   simp only [zd1, zd2, zd3, zd4, zd5, zd6, zd7] at hi4
   rw [show List.take k ws[i].2.2.2 = ws[i].2.2.2 from List.take_of_length_le (by omega), ← appW_succ hlt] at hs
   refine wp_exit ?_
   refine then_x ?_
   refine then_x ?_
   refine blk_x ?_
   refine blk_n ?_
   refine then_n ?_
   refine wp_region_lit ?_
   refine s_m hf rfl ?_; clear hf a; intro a hf
   refine s_v hf (x_bin (hf.eval rfl) (hf.eval rfl) (r_addi _ (by omega) (by omega))) ?_; clear hf a; intro a hf
   refine s_a hf rfl ?_; clear hf a; intro a hf
   refine s_nil ?_
   exact ⟨_, _, ⟨i + 1, rfl, rfl, by omega, hs⟩, by omega, hf.sub ⟨rfl, rfl, rfl, rfl, rfl, rfl, rfl, rfl, rfl, rfl, rfl, rfl, rfl, rfl, rfl, rfl, rfl, trivial⟩⟩
  simp only [zd1, zd2, zd3, zd4, zd5, zd6, zd7] at hi3
  refine wp_exit ?_
  refine then_x ?_
  refine then_x ?_
  refine blk_x ?_
  refine then_n ?_
  refine wp_seq ?_
  refine wp_region_lit ?_
  refine s_m hf rfl ?_; clear hf a; intro a hf
  refine s_a hf rfl ?_; clear hf a; intro a hf
  refine s_a hf rfl ?_; clear hf a; intro a hf
  refine s_nil ?_
  refine then_n ?_
  refine wp_ret ?_
  refine r_2 hf Tryz.results69 rfl rfl ?_
  obtain rfl : i = ws.length := by omega
  rw [List.take_length] at hs
  have hE0 : E = 0 := by rw [hE]; unfold aplE; rw [if_neg (by omega), if_neg (by rw [hrt]; simp)]
  have hV0 : V = appW (baseW content n) ws := by rw [hV]; unfold aplR; rw [if_pos (by rw [← hE, hE0]), Int.toNat_natCast]
  have hVl : V.length = n := by rw [hV0, appW_len, baseW_len]
  rw [hE0, hVl]
  rw [← hV0] at hs
  exact ⟨_, _, rfl, St.ofBb hs hVl (by omega)⟩
 clear hf
 have hf := hf'
 clear hf'
 simp only [zd1, zd2, zd3, zd4] at hg8_3
 rw [base_end (n := n) (content := content) (i := i) (by omega) (by omega) (by omega)] at hs
 refine s_pass hf rfl rfl ?_; clear hf a; intro a hf
 refine s_pass hf rfl rfl ?_; clear hf a; intro a hf
 refine s_pass hf rfl rfl ?_; clear hf a; intro a hf
 refine s_pass hf rfl rfl ?_; clear hf a; intro a hf
 refine s_v hf (x_pick_f (hf.eval rfl) (hf.eval rfl)) ?_; clear hf a; intro a hf
 refine s_nil ?_
 refine then_n ?_
 refine c_cond_f hf rfl rfl ?_
 first | rw [base_end (n := n) (content := content) (i := i) (by omega) (by omega) (by omega)] at hs | skip
 refine wp_exit ?_
 refine then_x ?_
 refine then_x ?_
 refine blk_x ?_
 refine then_n ?_
 refine wp_seq ?_
 refine wp_seq ?_
 refine wp_region_lit ?_
 refine s_a hf rfl ?_; clear hf a; intro a hf
 refine s_nil ?_
 refine then_n ?_
 refine wp_block ?_
 refine c_loop (L0 := [(0, _), (1, _), (2, _), (6, _), (7, _), (9, _), (10, _), (28, _), (29, _), (30, _), (31, _), (32, _), (33, _), (34, _), (35, _), (36, _)]) (fun M w m => ∃ i : Nat, M = [(11, .int .i64 (i : Int))] ∧ ws.length - i = m ∧ i ≤ ws.length ∧ St ⟨w0, None_⟩ w [bb b 5 (appW (baseW content n) (ws.take i))]) (M0 := [(11, .int .i64 0)]) (⟨0, rfl, rfl, Nat.zero_le _, hs⟩) (hf.sub ⟨rfl, rfl, rfl, rfl, rfl, rfl, rfl, rfl, rfl, rfl, rfl, rfl, rfl, rfl, rfl, rfl, rfl, trivial⟩) ?_
 clear hf hs a
 rintro M m a w ⟨i, rfl, rfl, hi, hs⟩ hf
 refine wp_seq ?_
 refine wp_seq ?_
 refine wp_region_lit ?_
 refine s_m hf rfl ?_; clear hf a; intro a hf
 refine s_m hf rfl ?_; clear hf a; intro a hf
 refine s_v hf (x_len Tryz.underlying23 (hf.eval rfl)) ?_; clear hf a; intro a hf
 refine s_v hf (x_bin (hf.eval rfl) (hf.eval rfl) (r_lt _ _ _ _)) ?_; clear hf a; intro a hf
 refine s_nil ?_
 refine then_n ?_
 refine c_cond hf rfl (fun hi3 => ?_) (fun hi3 => ?_)
 ·simp only [zd1, zd2, zd3, zd4, zd5, zd6, zd7] at hi3
  have hlt : i < ws.length := by omega
  obtain ⟨aw, rfl⟩ := hrw.some (by omega)
  obtain ⟨ab, ao2, rfl⟩ := rdS_plain (sz := 2) (fun _ => rfl) (by decide) hrw (by omega)
  have hgi := hgd _ (List.getElem_mem hlt)
  obtain ⟨hzi1, hzi2, hzi3⟩ := hok _ (List.getElem_mem hlt)
  have hwl0 : wL ws[i] = (ws[i].2.2.2.length : Int) := rfl
  have hal : (appW (baseW content n) (ws.take i)).length = n := by rw [appW_len, baseW_len]
  refine wp_skip ?_
  refine then_n ?_
  refine wp_seq ?_
  refine wp_block ?_
  refine wp_seq ?_
  refine wp_region_lit ?_
  refine s_a hf rfl ?_; clear hf a; intro a hf
  refine s_nil ?_
  refine then_n ?_
  refine wp_block ?_
  refine c_loop (L0 := [(0, _), (1, _), (2, _), (6, _), (7, _), (9, _), (10, _), (11, _), (28, _), (29, _), (30, _), (31, _), (32, _), (33, _), (34, _), (35, _), (36, _), (46, _), (47, _), (48, _), (49, _)]) (fun M w m => ∃ k : Nat, M = [(12, .int .i64 (k : Int))] ∧ ws[i].2.2.2.length - k = m ∧ k ≤ ws[i].2.2.2.length ∧ St ⟨w0, None_⟩ w [bb b 5 (putP (appW (baseW content n) (ws.take i)) (ws[i].1.toNat, ws[i].2.2.2.take k))]) (M0 := [(12, .int .i64 0)]) (⟨0, rfl, rfl, Nat.zero_le _, by rw [putP_zero]; exact hs⟩) (hf.sub ⟨rfl, rfl, rfl, rfl, rfl, rfl, rfl, rfl, rfl, rfl, rfl, rfl, rfl, rfl, rfl, rfl, rfl, rfl, rfl, rfl, rfl, rfl, trivial⟩) ?_
  clear hf hs a
  rintro M m a w ⟨k, rfl, rfl, hk, hs⟩ hf
  refine wp_seq ?_
  refine wp_seq ?_
  refine wp_region_lit ?_
  refine s_m hf rfl ?_; clear hf a; intro a hf
  refine s_m hf rfl ?_; clear hf a; intro a hf
  refine s_m hf rfl ?_; clear hf a; intro a hf
  refine s_v hf (x_indexAddr sl23 (hf.eval rfl) (hf.eval rfl) (by omega) (by omega)) ?_; clear hf a; intro a hf
  replace hf := hf.now (k := 55) (v' := .pointer (some ⟨ab, ao2 + i * 2, none⟩)) rfl (by rw [addr_add]; rfl)
  refine s_v hf (x_fieldAddr fo54_1 (hf.eval rfl)) ?_; clear hf a; intro a hf
  refine s_r hf (x_load sc22 (hf.eval rfl) (rdS_cellAt (f := wF) (sz := 2) (fun _ => rfl) (hs.old hrw) (k := 1) hlt rfl)) ?_; clear hf a; intro a hf
  refine s_v hf (x_len Tryz.underlying22 (hf.eval rfl)) ?_; clear hf a; intro a hf
  refine s_v hf (x_bin (hf.eval rfl) (hf.eval rfl) (r_lt _ _ _ _)) ?_; clear hf a; intro a hf
  refine s_nil ?_
  refine then_n ?_
  refine c_cond hf rfl (fun hi4 => ?_) (fun hi4 => ?_)
  ·simp only [zd1, zd2, zd3, zd4, zd5, zd6, zd7] at hi4
   have hkl : k < ws[i].2.2.2.length := by omega
   obtain ⟨da, hda⟩ : ∃ x, ws[i].2.1 = some x := by
     rcases hgi.1.2 with ⟨c9, e9, hn9⟩ | ⟨x9, c9, e9, _⟩
     · omega
     · injection e9 with e9; exact ⟨x9, e9⟩
   have hgk : RdB (hp w0) (.slice (some da) ws[i].2.2.2.length ws[i].2.2.1) ws[i].2.2.2 := by rw [← hda]; exact hgi.1
   refine wp_skip ?_
   refine then_n ?_
   refine wp_seq ?_
   refine wp_block ?_
   refine c_draw hs (fun _ => True) [.held, .held, .held, .held, .held, .read, .held, .held, .held, .held, .held, .held, .read, .held, .held, .read, .held, .fin] (by kernel_rfl) (by kernel_rfl) (fun _ _ _ => trivial) ?_
   clear hs; intro w hs hC hw
   refine m_held hf rfl (fun w' _ => x_move (hf.eval rfl) w') ?_; clear hf a; intro a hf
   refine m_held hf rfl (fun w' _ => x_move (hf.eval rfl) w') ?_; clear hf a; intro a hf
   refine m_held hf rfl (fun w' _ => x_move (hf.eval rfl) w') ?_; clear hf a; intro a hf
   refine m_held hf rfl (fun w' _ => x_indexAddr sl23 (hf.eval rfl) (hf.eval rfl) (by omega) (by omega) w') ?_; clear hf a; intro a hf
   replace hf := hf.now (k := 65) (v' := .pointer (some ⟨ab, ao2 + i * 2, none⟩)) rfl (by rw [addr_add]; rfl)
   refine m_held hf rfl (fun w' _ => x_fieldAddr fo54_0 (hf.eval rfl) w') ?_; clear hf a; intro a hf
   refine m_read hf rfl (x_load sc3 (hf.eval rfl) (rdS_cellAt (f := wF) (sz := 2) (fun _ => rfl) (hs.old hrw) (k := 0) hlt rfl)) ?_; clear hf a; intro a hf
   refine m_held hf rfl (fun w' _ => x_move (hf.eval rfl) w') ?_; clear hf a; intro a hf
   refine m_held hf rfl (fun w' _ => x_bin (hf.eval rfl) (hf.eval rfl) (r_addi _ (by omega) (by omega)) w') ?_; clear hf a; intro a hf
   replace hf := hf.now (k := 69) (v' := .int .i64 ((ws[i].1.toNat + k : Nat) : Int)) rfl (by congr 1; omega)
   refine m_held hf rfl (fun w' _ => x_move (hf.eval rfl) w') ?_; clear hf a; intro a hf
   refine m_held hf rfl (fun w' _ => x_move (hf.eval rfl) w') ?_; clear hf a; intro a hf
   refine m_held hf rfl (fun w' _ => x_indexAddr sl23 (hf.eval rfl) (hf.eval rfl) (by omega) (by omega) w') ?_; clear hf a; intro a hf
   replace hf := hf.now (k := 72) (v' := .pointer (some ⟨ab, ao2 + i * 2, none⟩)) rfl (by rw [addr_add]; rfl)
   refine m_held hf rfl (fun w' _ => x_fieldAddr fo54_1 (hf.eval rfl) w') ?_; clear hf a; intro a hf
   refine m_read hf rfl (x_load sc22 (hf.eval rfl) (rdS_cellAt (f := wF) (sz := 2) (fun _ => rfl) (hs.old hrw) (k := 1) hlt rfl)) ?_; clear hf a; intro a hf
   replace hf := hf.now (k := 74) (v' := .slice (some da) ws[i].2.2.2.length ws[i].2.2.1) rfl (by rw [← hda])
   refine m_held hf rfl (fun w' _ => x_move (hf.eval rfl) w') ?_; clear hf a; intro a hf
   refine m_held hf rfl (fun w' _ => x_indexAddr sl22 (hf.eval rfl) (hf.eval rfl) (by omega) (by omega) w') ?_; clear hf a; intro a hf
   refine m_read hf rfl (x_loadB (i := (k : Int)) sc5 (hs.oldB hgk) (hf.eval rfl) (by simpa using hkl)) ?_; clear hf a; intro a hf
   replace hf := hf.now (k := 77) (v' := u8v ws[i].2.2.2[k]) rfl (rfl)
   refine m_held hf rfl (fun w' _ => x_indexAddr sl22 (hf.eval rfl) (hf.eval rfl) (by omega) (by omega) w') ?_; clear hf a; intro a hf
   replace hf := hf.now (k := 78) (v' := .pointer (some ⟨b, ws[i].1.toNat + k, none⟩)) rfl (by rw [at_addN])
   refine m_fin0 hf rfl (y_storeB (k := ws[i].1.toNat + k) (u := ws[i].2.2.2[k]) hs sc5 (hf.eval rfl) (hf.eval rfl) rfl .k0 (by rw [putP_len, hal]; omega) ?_); clear hf hs a; intro w hs; intro a hf
   rw [putP_step (by rw [hal]; omega) hkl] at hs
   refine blk_n ?_
   refine then_n ?_
   refine wp_region_lit ?_
   refine s_m hf rfl ?_; clear hf a; intro a hf
   refine s_v hf (x_bin (hf.eval rfl) (hf.eval rfl) (r_addi _ (by omega) (by omega))) ?_; clear hf a; intro a hf
   refine s_a hf rfl ?_; clear hf a; intro a hf
   refine s_nil ?_
   exact ⟨_, _, ⟨k + 1, rfl, rfl, by omega, hs⟩, by omega, hf.sub ⟨rfl, rfl, rfl, rfl, rfl, rfl, rfl, rfl, rfl, rfl, rfl, rfl, rfl, rfl, rfl, rfl, rfl, rfl, rfl, rfl, rfl, rfl, trivial⟩⟩
  simp only [zd1, zd2, zd3, zd4, zd5, zd6, zd7] at hi4
  rw [show List.take k ws[i].2.2.2 = ws[i].2.2.2 from List.take_of_length_le (by omega), ← appW_succ hlt] at hs
  refine wp_exit ?_
  refine then_x ?_
  refine then_x ?_
  refine blk_x ?_
  refine blk_n ?_
  refine then_n ?_
  refine wp_region_lit ?_
  refine s_m hf rfl ?_; clear hf a; intro a hf
  refine s_v hf (x_bin (hf.eval rfl) (hf.eval rfl) (r_addi _ (by omega) (by omega))) ?_; clear hf a; intro a hf
  refine s_a hf rfl ?_; clear hf a; intro a hf
  refine s_nil ?_
  exact ⟨_, _, ⟨i + 1, rfl, rfl, by omega, hs⟩, by omega, hf.sub ⟨rfl, rfl, rfl, rfl, rfl, rfl, rfl, rfl, rfl, rfl, rfl, rfl, rfl, rfl, rfl, rfl, rfl, trivial⟩⟩
 simp only [zd1, zd2, zd3, zd4, zd5, zd6, zd7] at hi3
 refine wp_exit ?_
 refine then_x ?_
 refine then_x ?_
 refine blk_x ?_
 refine then_n ?_
 refine wp_seq ?_
 refine wp_region_lit ?_
 refine s_m hf rfl ?_; clear hf a; intro a hf
 refine s_a hf rfl ?_; clear hf a; intro a hf
 refine s_a hf rfl ?_; clear hf a; intro a hf
 refine s_nil ?_
 refine then_n ?_
 refine wp_ret ?_
 refine r_2 hf Tryz.results69 rfl rfl ?_
 obtain rfl : i = ws.length := by omega
 rw [List.take_length] at hs
 have hE0 : E = 0 := by rw [hE]; unfold aplE; rw [if_neg (by omega), if_neg (by rw [hrt]; simp)]
 have hV0 : V = appW (baseW content n) ws := by rw [hV]; unfold aplR; rw [if_pos (by rw [← hE, hE0]), Int.toNat_natCast]
 have hVl : V.length = n := by rw [hV0, appW_len, baseW_len]
 rw [hE0, hVl]
 rw [← hV0] at hs
 exact ⟨_, _, rfl, St.ofBb hs hVl (by omega)⟩
theorem rneed_all (w0 : World) (cl : Nat) (size : Int) (aw : Option Addr) (cw : Nat) (ws : List Wr) (hrw : RdS wF 2 (hp w0) (.slice aw ws.length cw) ws) (hlw : ws.length ≤ 1048576) : Calls Tryz.prog 70 #[.int .i64 (cl : Int), .int .i64 size, .slice aw ws.length cw] w0 fun e w' => e = .returned (.tuple #[.int .i64 (if aplE cl size ws = 0 then filZ (cl : Int) size (lonZ (savL (cl : Int) ws)) else 0), .int .i64 (aplE cl size ws)]) ∧ Kept w0 w' None_ := by
  by_cases hb : ((cl : Int) ≤ 16777216 ∧ 0 ≤ size ∧ size ≤ 16777216)
  · cases hr : rgt size ws 0 with
    | false =>
      have e : aplE cl size ws = 143 := by unfold aplE; rw [if_neg (fun h => h hb), if_pos hr]
      rw [e, if_neg (by decide)]
      exact rneed_b2 w0 cl size aw cw ws hrw hlw ⟨by omega, hb.1⟩ hb.2 hr
    | true =>
      have e : aplE cl size ws = 0 := by unfold aplE; rw [if_neg (fun h => h hb), if_neg (by rw [hr]; simp)]
      rw [e, if_pos rfl]
      exact rneed_ok w0 cl size aw cw ws hrw hlw ⟨by omega, hb.1⟩ hb.2 hr
  · have e : aplE cl size ws = 1 := by unfold aplE; rw [if_pos hb]
    rw [e, if_neg (by decide)]
    exact rneed_b1 w0 cl size aw cw ws hrw hlw (by omega)
theorem fil_fil {c : List UInt8} {size : Int} {ws : List Wr} (h : rgt size ws 0 = true) : filZ (c.length : Int) size (lonZ (savL (c.length : Int) ws)) = filU c size ws := by
  have hs := sav_spc (old := (c.length : Int)) h
  have e1 := lonZ_eq hs
  have e2 := body_len hs
  unfold filU bodU
  rw [e1, e2]
def toP (z : Wr) : Pt := (z.1.toNat, .slice z.2.1 z.2.2.2.length z.2.2.1, z.2.2.2)
def dkY (z : Wr) : Int × List UInt8 := (z.1, z.2.2.2)
attribute [local irreducible] Vw.sl Vw.lkV Vw.aplR Vw.aplE Vw.filU Vw.filZ Vw.lonZ Vw.savL
def mayR (c : List UInt8) (seq size : Int) (ws : List Wr) : List UInt8 × Int × Bool := if aplE c.length size ws ≠ 0 ∨ inF seq = false ∨ 16777216 < filU c size ws then ([], 0, false) else (aplR c size ws, filU c size ws, decide ((lkV c).1.1 = 0) && decide ((lkV (aplR c size ws)).1.1 = 0))
end Go.Proofs.YtehakfbfjpolfaaGreatDoor

namespace Go.Proofs.YtehakfbfjpolfaaGreatDoor
open Go Vw
theorem carried_spec (σ : Sig) (w : World) (R : List Asrt) (p : Nat) (s : DS) (hs : St σ w (refA 88 152 5 3 p s :: R)) (hf1 : s.fuse ≤ 9223372036854775807) (hf0 : -1 ≤ s.fuse) (hcl : s.calls ≤ 4611686018427387904) : Calls Tryz.prog 40 #[.pointer (some ⟨p, 0, none⟩)] w fun e w' => e = .returned (.bool (decide (s.fuse ≠ 0))) ∧ St σ w' (refA 88 152 5 3 p (spent s) :: R) := by
 obtain ⟨⟨v1, v2, v3, v4, ps⟩, hps, hs⟩ := refA_open hs
 dsimp only at hps hs
 obtain ⟨a1, c1, rfl, hc1⟩ := slB_shape (hs.take .k1)
 obtain ⟨a2, c2, rfl, hc2⟩ := slB_shape (hs.take .k2)
 obtain ⟨a3, c3, rfl⟩ := sl_shape (hs.take .k3)
 obtain ⟨a4, c4, rfl⟩ := sl_shape (hs.take .k5)
 refine c_enter (N := 30) Tryz.func40 rfl Tryz.ntmps40 (by simp) ?_
 intro a hf
 refine wp_seq ?_
 refine wp_region_lit ?_
 refine s_a hf rfl ?_; clear hf a; intro a hf
 refine s_nil ?_
 refine then_n ?_
 refine wp_seq ?_
 refine wp_seq ?_
 refine wp_region_lit ?_
 refine s_m hf rfl ?_; clear hf a; intro a hf
 refine s_v hf (x_nilCheck (hf.eval rfl)) ?_; clear hf a; intro a hf
 refine s_v hf (x_fieldAddr fo88_6 (hf.eval rfl)) ?_; clear hf a; intro a hf
 refine s_r hf (x_load sc3 (hf.eval rfl) (by apply hs.cell <;> repeat constructor)) ?_; clear hf a; intro a hf
 refine s_v hf (x_bin (hf.eval rfl) (hf.eval rfl) (r_eq _ _ _ _)) ?_; clear hf a; intro a hf
 refine s_nil ?_
 refine then_n ?_
 refine c_cond hf rfl (fun hi0 => ?_) (fun hi0 => ?_)
 ·simp only [zd1, zd2, zd3, zd4, zd5, zd6, zd7] at hi0
  refine wp_seq ?_
  refine wp_region_lit ?_
  refine s_m hf rfl ?_; clear hf a; intro a hf
  refine s_v hf (x_nilCheck (hf.eval rfl)) ?_; clear hf a; intro a hf
  refine s_v hf (x_fieldAddr fo88_7 (hf.eval rfl)) ?_; clear hf a; intro a hf
  refine s_do0 hf rfl (y_store hs sc4 (hf.eval rfl) (hf.eval rfl) rfl (by repeat constructor) (by simp) ?_); clear hf hs a; intro w hs a hf
  refine s_nil ?_
  refine then_n ?_
  refine wp_seq ?_
  refine wp_region_lit ?_
  refine s_a hf rfl ?_; clear hf a; intro a hf
  refine s_nil ?_
  refine then_n ?_
  refine wp_ret ?_
  refine then_r ?_
  refine r_1 hf Tryz.results40 rfl ?_
  have hz : s.fuse = 0 := hi0
  refine ⟨by simp [hz], ?_⟩
  rw [spent_0 hz]
  exact refA_close (x := ⟨.slice a1 s.now.length c1, .slice a2 s.dur.length c2, .slice a3 ps.length c3, .slice a4 s.sizes.length c4, ps⟩) hps hs
 simp only [zd1, zd2, zd3, zd4, zd5, zd6, zd7] at hi0
 refine wp_skip ?_
 refine then_n ?_
 refine wp_seq ?_
 refine wp_seq ?_
 refine wp_region_lit ?_
 refine s_m hf rfl ?_; clear hf a; intro a hf
 refine s_v hf (x_nilCheck (hf.eval rfl)) ?_; clear hf a; intro a hf
 refine s_v hf (x_fieldAddr fo88_6 (hf.eval rfl)) ?_; clear hf a; intro a hf
 refine s_r hf (x_load sc3 (hf.eval rfl) (by apply hs.cell <;> repeat constructor)) ?_; clear hf a; intro a hf
 refine s_v hf (x_bin (hf.eval rfl) (hf.eval rfl) (r_gt _ _ _ _)) ?_; clear hf a; intro a hf
 refine s_nil ?_
 refine then_n ?_
 refine c_cond hf rfl (fun hi1 => ?_) (fun hi1 => ?_)
 ·simp only [zd1, zd2, zd3, zd4, zd5, zd6, zd7] at hi1
  refine wp_region_lit ?_
  refine s_m hf rfl ?_; clear hf a; intro a hf
  refine s_v hf (x_nilCheck (hf.eval rfl)) ?_; clear hf a; intro a hf
  refine s_v hf (x_fieldAddr fo88_6 (hf.eval rfl)) ?_; clear hf a; intro a hf
  refine s_r hf (x_load sc3 (hf.eval rfl) (by apply hs.cell <;> repeat constructor)) ?_; clear hf a; intro a hf
  refine s_v hf (x_bin (hf.eval rfl) (hf.eval rfl) (r_subi _ (by omega) (by omega))) ?_; clear hf a; intro a hf
  refine s_v hf (x_nilCheck (hf.eval rfl)) ?_; clear hf a; intro a hf
  refine s_v hf (x_fieldAddr fo88_6 (hf.eval rfl)) ?_; clear hf a; intro a hf
  refine s_do0 hf rfl (y_store hs sc3 (hf.eval rfl) (hf.eval rfl) rfl (by repeat constructor) (by simp) ?_); clear hf hs a; intro w hs a hf
  refine s_nil ?_
  refine then_n ?_
  refine wp_seq ?_
  refine wp_region_lit ?_
  refine s_m hf rfl ?_; clear hf a; intro a hf
  refine s_v hf (x_nilCheck (hf.eval rfl)) ?_; clear hf a; intro a hf
  refine s_v hf (x_fieldAddr fo88_5 (hf.eval rfl)) ?_; clear hf a; intro a hf
  refine s_r hf (x_load sc3 (hf.eval rfl) (by apply hs.cell <;> repeat constructor)) ?_; clear hf a; intro a hf
  refine s_v hf (x_bin (hf.eval rfl) (hf.eval rfl) (r_addi _ (by omega) (by omega))) ?_; clear hf a; intro a hf
  replace hf := hf.now (k := 27) (v' := .int .i64 ((s.calls + 1 : Nat) : Int)) rfl (by push_cast; rfl)
  refine s_v hf (x_nilCheck (hf.eval rfl)) ?_; clear hf a; intro a hf
  refine s_v hf (x_fieldAddr fo88_5 (hf.eval rfl)) ?_; clear hf a; intro a hf
  refine s_do0 hf rfl (y_store hs sc3 (hf.eval rfl) (hf.eval rfl) rfl (by repeat constructor) (by simp) ?_); clear hf hs a; intro w hs a hf
  refine s_nil ?_
  refine then_n ?_
  refine wp_seq ?_
  refine wp_region_lit ?_
  refine s_a hf rfl ?_; clear hf a; intro a hf
  refine s_nil ?_
  refine then_n ?_
  refine wp_ret ?_
  refine r_1 hf Tryz.results40 rfl ?_
  refine ⟨by simp; omega, ?_⟩
  first | rw [spent_pos (show 0 < s.fuse by omega)] | rw [spent_neg (show s.fuse < 0 by omega)]
  exact refA_close (x := ⟨.slice a1 s.now.length c1, .slice a2 s.dur.length c2, .slice a3 ps.length c3, .slice a4 s.sizes.length c4, ps⟩) hps hs
 simp only [zd1, zd2, zd3, zd4, zd5, zd6, zd7] at hi1
 refine wp_skip ?_
 refine then_n ?_
 refine wp_seq ?_
 refine wp_region_lit ?_
 refine s_m hf rfl ?_; clear hf a; intro a hf
 refine s_v hf (x_nilCheck (hf.eval rfl)) ?_; clear hf a; intro a hf
 refine s_v hf (x_fieldAddr fo88_5 (hf.eval rfl)) ?_; clear hf a; intro a hf
 refine s_r hf (x_load sc3 (hf.eval rfl) (by apply hs.cell <;> repeat constructor)) ?_; clear hf a; intro a hf
 refine s_v hf (x_bin (hf.eval rfl) (hf.eval rfl) (r_addi _ (by omega) (by omega))) ?_; clear hf a; intro a hf
 replace hf := hf.now (k := 27) (v' := .int .i64 ((s.calls + 1 : Nat) : Int)) rfl (by push_cast; rfl)
 refine s_v hf (x_nilCheck (hf.eval rfl)) ?_; clear hf a; intro a hf
 refine s_v hf (x_fieldAddr fo88_5 (hf.eval rfl)) ?_; clear hf a; intro a hf
 refine s_do0 hf rfl (y_store hs sc3 (hf.eval rfl) (hf.eval rfl) rfl (by repeat constructor) (by simp) ?_); clear hf hs a; intro w hs a hf
 refine s_nil ?_
 refine then_n ?_
 refine wp_seq ?_
 refine wp_region_lit ?_
 refine s_a hf rfl ?_; clear hf a; intro a hf
 refine s_nil ?_
 refine then_n ?_
 refine wp_ret ?_
 refine r_1 hf Tryz.results40 rfl ?_
 refine ⟨by simp; omega, ?_⟩
 first | rw [spent_pos (show 0 < s.fuse by omega)] | rw [spent_neg (show s.fuse < 0 by omega)]
 exact refA_close (x := ⟨.slice a1 s.now.length c1, .slice a2 s.dur.length c2, .slice a3 ps.length c3, .slice a4 s.sizes.length c4, ps⟩) hps hs
theorem rFuse_spec (σ : Sig) (w : World) (R : List Asrt) (p : Nat) (s : DS) (hs : St σ w (refA 88 152 5 3 p s :: R)) (n : Int) : Calls Tryz.prog 10 #[.pointer (some ⟨p, 0, none⟩), .int .i64 n] w fun e w' => e = .returned (.tuple #[]) ∧ St σ w' (refA 88 152 5 3 p (fuS s n) :: R) := by
 obtain ⟨⟨v1, v2, v3, v4, ps⟩, hps, hs⟩ := refA_open hs
 dsimp only at hps hs
 obtain ⟨a1, c1, rfl, hc1⟩ := slB_shape (hs.take .k1)
 obtain ⟨a2, c2, rfl, hc2⟩ := slB_shape (hs.take .k2)
 obtain ⟨a3, c3, rfl⟩ := sl_shape (hs.take .k3)
 obtain ⟨a4, c4, rfl⟩ := sl_shape (hs.take .k5)
 refine c_enter (N := 22) Tryz.func10 rfl Tryz.ntmps10 (by simp) ?_
 intro a hf
 refine wp_seq ?_
 refine wp_seq ?_
 refine wp_region_lit ?_
 refine s_m hf rfl ?_; clear hf a; intro a hf
 refine s_v hf (x_eqNil Tryz.underlying28 (hf.eval rfl) (hf.eval rfl)) ?_; clear hf a; intro a hf
 replace hf := hf.now (k := 5) (v' := .bool false) rfl rfl
 refine s_m hf rfl ?_; clear hf a; intro a hf
 refine s_do hf (wanted_of hf rfl rfl rfl) (.value (x_move (hf.eval rfl) _) ?_); clear hf a; intro a hf
 refine s_do hf (wanted_of hf rfl rfl rfl) (.value (x_nilCheck (hf.eval rfl) _) ?_); clear hf a; intro a hf
 refine s_do hf (wanted_of hf rfl rfl rfl) (.value (x_fieldAddr fo88_7 (hf.eval rfl) _) ?_); clear hf a; intro a hf
 refine s_do hf (wanted_of hf rfl rfl rfl) (.value (x_load sc4 (hf.eval rfl) (by apply hs.cell <;> repeat constructor)) ?_); clear hf a; intro a hf
 refine s_do hf (wanted_of hf rfl rfl rfl) (.value (x_not (hf.eval rfl) _) ?_); clear hf a; intro a hf
 refine s_v hf (x_pick_f (hf.eval rfl) (hf.eval rfl)) ?_; clear hf a; intro a hf
 refine s_nil ?_
 refine then_n ?_
 refine c_cond hf rfl (fun hi0 => ?_) (fun hi0 => ?_)
 ·simp only [Bool.not_eq_true', Bool.not_eq_false', Bool.not_not] at hi0
  refine wp_ret ?_
  refine then_r ?_
  refine r_0 hf Tryz.results10 ?_
  have e : fuS s n = s := by unfold fuS; rw [if_pos hi0]
  rw [e]
  exact ⟨rfl, refA_close (x := ⟨_, _, _, _, ps⟩) hps hs⟩
 simp only [Bool.not_eq_true', Bool.not_eq_false', Bool.not_not] at hi0
 refine wp_skip ?_
 refine then_n ?_
 refine wp_seq ?_
 refine wp_region_lit ?_
 refine s_m hf rfl ?_; clear hf a; intro a hf
 refine s_m hf rfl ?_; clear hf a; intro a hf
 refine s_v hf (x_nilCheck (hf.eval rfl)) ?_; clear hf a; intro a hf
 refine s_v hf (x_fieldAddr fo88_6 (hf.eval rfl)) ?_; clear hf a; intro a hf
 refine s_do0 hf rfl (y_store hs sc3 (hf.eval rfl) (hf.eval rfl) rfl (by repeat constructor) (by simp) ?_); clear hf hs a; intro w hs a hf
 refine s_nil ?_
 refine then_n ?_
 refine wp_seq ?_
 refine wp_region_lit ?_
 refine s_m hf rfl ?_; clear hf a; intro a hf
 refine s_v hf (x_bin (hf.eval rfl) (hf.eval rfl) (r_lt _ _ _ _)) ?_; clear hf a; intro a hf
 refine s_nil ?_
 refine then_n ?_
 refine c_cond hf rfl (fun hi1 => ?_) (fun hi1 => ?_)
 ·simp only [zd1, zd2, zd3, zd4, zd5, zd6, zd7] at hi1
  refine wp_region_lit ?_
  refine s_m hf rfl ?_; clear hf a; intro a hf
  refine s_v hf (x_nilCheck (hf.eval rfl)) ?_; clear hf a; intro a hf
  refine s_v hf (x_fieldAddr fo88_6 (hf.eval rfl)) ?_; clear hf a; intro a hf
  refine s_do0 hf rfl (y_store hs sc3 (hf.eval rfl) (hf.eval rfl) rfl (by repeat constructor) (by simp) ?_); clear hf hs a; intro w hs a hf
  refine s_nil ?_
  refine r_0n hf Tryz.results10 ?_
  have e : fuS s n = { s with fuse := max n (-1) } := by unfold fuS; rw [if_neg (by simp [hi0])]
  rw [e]
  first | rw [show max n (-1) = -1 by omega] | rw [show max n (-1) = n by omega]
  exact ⟨rfl, refA_close (x := ⟨.slice a1 s.now.length c1, .slice a2 s.dur.length c2, .slice a3 ps.length c3, .slice a4 s.sizes.length c4, ps⟩) hps hs⟩
 simp only [zd1, zd2, zd3, zd4, zd5, zd6, zd7] at hi1
 refine wp_skip ?_
 refine r_0n hf Tryz.results10 ?_
 have e : fuS s n = { s with fuse := max n (-1) } := by unfold fuS; rw [if_neg (by simp [hi0])]
 rw [e]
 first | rw [show max n (-1) = -1 by omega] | rw [show max n (-1) = n by omega]
 exact ⟨rfl, refA_close (x := ⟨.slice a1 s.now.length c1, .slice a2 s.dur.length c2, .slice a3 ps.length c3, .slice a4 s.sizes.length c4, ps⟩) hps hs⟩
theorem rCapacity_spec (σ : Sig) (w : World) (R : List Asrt) (p : Nat) (s : DS) (hs : St σ w (refA 88 152 5 3 p s :: R)) : Calls Tryz.prog 86 #[.pointer (some ⟨p, 0, none⟩)] w fun e w' => e = .returned (.int .i64 s.room) ∧ w' = w := by
 obtain ⟨⟨v1, v2, v3, v4, ps⟩, hps, hs⟩ := refA_open hs
 dsimp only at hps hs
 obtain ⟨a1, c1, rfl, hc1⟩ := slB_shape (hs.take .k1)
 obtain ⟨a2, c2, rfl, hc2⟩ := slB_shape (hs.take .k2)
 obtain ⟨a3, c3, rfl⟩ := sl_shape (hs.take .k3)
 obtain ⟨a4, c4, rfl⟩ := sl_shape (hs.take .k5)
 refine c_enter (N := 9) Tryz.func86 rfl Tryz.ntmps86 (by simp) ?_
 intro a hf
 refine wp_seq ?_
 refine wp_region_lit ?_
 refine s_a hf rfl ?_; clear hf a; intro a hf
 refine s_nil ?_
 refine then_n ?_
 refine wp_seq ?_
 refine wp_seq ?_
 refine wp_region_lit ?_
 refine s_m hf rfl ?_; clear hf a; intro a hf
 refine s_v hf (x_eqNil Tryz.underlying28 (hf.eval rfl) (hf.eval rfl)) ?_; clear hf a; intro a hf
 replace hf := hf.now (k := 4) (v' := .bool false) rfl rfl
 refine s_nil ?_
 refine then_n ?_
 refine c_cond_f hf rfl rfl ?_
 refine wp_skip ?_
 refine then_n ?_
 refine wp_seq ?_
 refine wp_region_lit ?_
 refine s_m hf rfl ?_; clear hf a; intro a hf
 refine s_v hf (x_nilCheck (hf.eval rfl)) ?_; clear hf a; intro a hf
 refine s_v hf (x_fieldAddr fo88_0 (hf.eval rfl)) ?_; clear hf a; intro a hf
 refine s_r hf (x_load sc3 (hf.eval rfl) (by apply hs.cell <;> repeat constructor)) ?_; clear hf a; intro a hf
 refine s_a hf rfl ?_; clear hf a; intro a hf
 refine s_nil ?_
 refine then_n ?_
 refine wp_ret ?_
 refine r_1 hf Tryz.results86 rfl ?_
 exact ⟨rfl, rfl⟩
theorem rCalls_spec (σ : Sig) (w : World) (R : List Asrt) (p : Nat) (s : DS) (hs : St σ w (refA 88 152 5 3 p s :: R)) : Calls Tryz.prog 19 #[.pointer (some ⟨p, 0, none⟩)] w fun e w' => e = .returned (.int .i64 (s.calls : Int)) ∧ w' = w := by
 obtain ⟨⟨v1, v2, v3, v4, ps⟩, hps, hs⟩ := refA_open hs
 dsimp only at hps hs
 obtain ⟨a1, c1, rfl, hc1⟩ := slB_shape (hs.take .k1)
 obtain ⟨a2, c2, rfl, hc2⟩ := slB_shape (hs.take .k2)
 obtain ⟨a3, c3, rfl⟩ := sl_shape (hs.take .k3)
 obtain ⟨a4, c4, rfl⟩ := sl_shape (hs.take .k5)
 refine c_enter (N := 9) Tryz.func19 rfl Tryz.ntmps19 (by simp) ?_
 intro a hf
 refine wp_seq ?_
 refine wp_region_lit ?_
 refine s_a hf rfl ?_; clear hf a; intro a hf
 refine s_nil ?_
 refine then_n ?_
 refine wp_seq ?_
 refine wp_seq ?_
 refine wp_region_lit ?_
 refine s_m hf rfl ?_; clear hf a; intro a hf
 refine s_v hf (x_eqNil Tryz.underlying28 (hf.eval rfl) (hf.eval rfl)) ?_; clear hf a; intro a hf
 replace hf := hf.now (k := 4) (v' := .bool false) rfl rfl
 refine s_nil ?_
 refine then_n ?_
 refine c_cond_f hf rfl rfl ?_
 refine wp_skip ?_
 refine then_n ?_
 refine wp_seq ?_
 refine wp_region_lit ?_
 refine s_m hf rfl ?_; clear hf a; intro a hf
 refine s_v hf (x_nilCheck (hf.eval rfl)) ?_; clear hf a; intro a hf
 refine s_v hf (x_fieldAddr fo88_5 (hf.eval rfl)) ?_; clear hf a; intro a hf
 refine s_r hf (x_load sc3 (hf.eval rfl) (by apply hs.cell <;> repeat constructor)) ?_; clear hf a; intro a hf
 refine s_a hf rfl ?_; clear hf a; intro a hf
 refine s_nil ?_
 refine then_n ?_
 refine wp_ret ?_
 refine r_1 hf Tryz.results19 rfl ?_
 exact ⟨rfl, rfl⟩
theorem rAlive_spec (σ : Sig) (w : World) (R : List Asrt) (p : Nat) (s : DS) (hs : St σ w (refA 88 152 5 3 p s :: R)) : Calls Tryz.prog 61 #[.pointer (some ⟨p, 0, none⟩)] w fun e w' => e = .returned (.bool (!s.dead)) ∧ w' = w := by
 obtain ⟨⟨v1, v2, v3, v4, ps⟩, hps, hs⟩ := refA_open hs
 dsimp only at hps hs
 obtain ⟨a1, c1, rfl, hc1⟩ := slB_shape (hs.take .k1)
 obtain ⟨a2, c2, rfl, hc2⟩ := slB_shape (hs.take .k2)
 obtain ⟨a3, c3, rfl⟩ := sl_shape (hs.take .k3)
 obtain ⟨a4, c4, rfl⟩ := sl_shape (hs.take .k5)
 refine c_enter (N := 11) Tryz.func61 rfl Tryz.ntmps61 (by simp) ?_
 intro a hf
 refine wp_seq ?_
 refine wp_region_lit ?_
 refine s_a hf rfl ?_; clear hf a; intro a hf
 refine s_nil ?_
 refine then_n ?_
 refine wp_seq ?_
 refine wp_region_lit ?_
 refine s_m hf rfl ?_; clear hf a; intro a hf
 refine s_v hf (x_neNil Tryz.underlying28 (hf.eval rfl) (hf.eval rfl)) ?_; clear hf a; intro a hf
 replace hf := hf.now (k := 4) (v' := .bool true) rfl rfl
 refine s_m hf rfl ?_; clear hf a; intro a hf
 refine s_do hf (wanted_of hf rfl rfl rfl) (.value (x_move (hf.eval rfl) _) ?_); clear hf a; intro a hf
 refine s_do hf (wanted_of hf rfl rfl rfl) (.value (x_nilCheck (hf.eval rfl) _) ?_); clear hf a; intro a hf
 refine s_do hf (wanted_of hf rfl rfl rfl) (.value (x_fieldAddr fo88_7 (hf.eval rfl) _) ?_); clear hf a; intro a hf
 refine s_do hf (wanted_of hf rfl rfl rfl) (.value (x_load sc4 (hf.eval rfl) (by apply hs.cell <;> repeat constructor)) ?_); clear hf a; intro a hf
 refine s_v hf (x_pick_t (hf.eval rfl) (hf.eval rfl)) ?_; clear hf a; intro a hf
 refine s_a hf rfl ?_; clear hf a; intro a hf
 refine s_nil ?_
 refine then_n ?_
 refine wp_ret ?_
 refine r_1 hf Tryz.results61 rfl ?_
 exact ⟨rfl, rfl⟩
theorem rImage_spec (σ : Sig) (w : World) (R : List Asrt) (p : Nat) (s : DS) (hs : St σ w (refA 88 152 5 3 p s :: R)) (hn : s.now.length ≤ 140737488351232) : Calls Tryz.prog 22 #[.pointer (some ⟨p, 0, none⟩)] w fun e w' => ∃ a c, e = .returned (.slice a s.now.length c) ∧ St σ w' (slB 5 (.slice a s.now.length c) s.now :: refA 88 152 5 3 p s :: R) := by
 obtain ⟨⟨v1, v2, v3, v4, ps⟩, hps, hs⟩ := refA_open hs
 dsimp only at hps hs
 obtain ⟨a1, c1, rfl, hc1⟩ := slB_shape (hs.take .k1)
 obtain ⟨a2, c2, rfl, hc2⟩ := slB_shape (hs.take .k2)
 obtain ⟨a3, c3, rfl⟩ := sl_shape (hs.take .k3)
 obtain ⟨a4, c4, rfl⟩ := sl_shape (hs.take .k5)
 refine c_enter (N := 10) Tryz.func22 rfl Tryz.ntmps22 (by simp) ?_
 intro a hf
 refine wp_seq ?_
 refine wp_region_lit ?_
 refine s_a hf rfl ?_; clear hf a; intro a hf
 refine s_nil ?_
 refine then_n ?_
 refine wp_seq ?_
 refine wp_seq ?_
 refine wp_region_lit ?_
 refine s_m hf rfl ?_; clear hf a; intro a hf
 refine s_v hf (x_eqNil Tryz.underlying28 (hf.eval rfl) (hf.eval rfl)) ?_; clear hf a; intro a hf
 replace hf := hf.now (k := 4) (v' := .bool false) rfl rfl
 refine s_nil ?_
 refine then_n ?_
 refine c_cond_f hf rfl rfl ?_
 refine wp_skip ?_
 refine then_n ?_
 refine wp_seq ?_
 refine wp_region_lit ?_
 refine s_m hf rfl ?_; clear hf a; intro a hf
 refine s_v hf (x_nilCheck (hf.eval rfl)) ?_; clear hf a; intro a hf
 refine s_v hf (x_fieldAddr fo88_1 (hf.eval rfl)) ?_; clear hf a; intro a hf
 refine s_r hf (x_load sc22 (hf.eval rfl) (by apply hs.cell <;> repeat constructor)) ?_; clear hf a; intro a hf
 refine s_do hf rfl (y_call (hf.eval rfl) (hf.evals rfl) Tryz.call38 ((rclone_spec _ _ _ s.now (hs.rdB .k1 fun h => slB_rd) (by omega)).mono ?_))
 rintro e w1 ⟨e1, fe1, rfl, hj⟩
 replace hs := hs.join hj
 simp only [List.cons_append, List.nil_append] at hs
 refine ⟨_, rfl, ?_⟩; clear hf a; intro a hf
 refine s_a hf rfl ?_; clear hf a; intro a hf
 refine s_nil ?_
 refine then_n ?_
 refine wp_ret ?_
 refine r_1 hf Tryz.results22 rfl ?_
 refine ⟨_, _, rfl, ?_⟩
 exact (refA_close (s := s) (x := ⟨_, _, _, _, ps⟩) (R := slB 5 _ s.now :: R) hps (St.give (L := _) hs .k6)).take .k1
theorem rNew_in (w0 : World) (a1 : Option Addr) (c1 : Nat) (image : List UInt8) (hr1 : RdB (hp w0) (.slice a1 image.length c1) image) (hl1 : image.length ≤ 140737488351232) (cap : Int) (hc1 : 0 ≤ cap) (hc2 : cap ≤ 16777216) (hc3 : image.length ≤ cap) : Calls Tryz.prog 8 #[.slice a1 image.length c1, .int .i64 cap] w0 fun e w' => ∃ p, e = .returned (.tuple #[.pointer (some ⟨p, 0, none⟩), .int .i64 0]) ∧ St ⟨w0, None_⟩ w' [refA 88 152 5 3 p (newS image cap)] := by
  refine (rNew_ok w0 a1 c1 image hr1 hl1 cap hc1 hc2 hc3).mono fun e w' h => ?_
  obtain ⟨q, u1, u2, rfl, hs⟩ := h
  refine ⟨q, rfl, ?_⟩
  replace hs := St.give (L := _) (hs.emp (A := sl 152 3 (.slice none 0 0) 0 []) (fun _ => ⟨rfl, .inl ⟨rfl, rfl⟩⟩)) .k3
  replace hs := St.give (L := _) (hs.emp (A := datA 5 []) (fun _ => trivial)) .k4
  replace hs := St.give (L := _) (hs.emp (A := sl 3 1 (.slice none 0 0) 0 []) (fun _ => ⟨rfl, .inl ⟨rfl, rfl⟩⟩)) .k5
  exact refA_close (s := newS image cap) (x := ⟨u1, u2, .slice none 0 0, .slice none 0 0, []⟩) rfl hs
theorem rlay_spec (σ : Sig) (w : World) (R : List Asrt) (p : Nat) (s : DS) (hs : St σ w (refA 88 152 5 3 p s :: R)) (at_ : Nat) (ad : Option Addr) (cd : Nat) (data : List UInt8) (hr : Rdy σ R (.slice ad data.length cd) data) (hd : data ≠ []) (hat : at_ ≤ s.now.length) (hsz : at_ + data.length ≤ 16777216) (hnow : s.now.length ≤ 16777216) (hpc : s.pcs.length ≤ 1099511627776) : Calls Tryz.prog 90 #[.pointer (some ⟨p, 0, none⟩), .int .i64 (at_ : Int), .slice ad data.length cd] w fun e w' => e = .returned (.tuple #[]) ∧ St σ w' (refA 88 152 5 3 p (layS s at_ data) :: R) := by
 have hdl : 0 < data.length := List.length_pos_iff.2 hd
 have hcd : data.length ≤ cd := (hr _ [_] hs).cap
 refine c_enter (N := 85) Tryz.func90 rfl Tryz.ntmps90 (by simp) ?_
 intro a hf
 refine wp_seq ?_
 refine wp_seq ?_
 refine wp_region_lit ?_
 refine s_a hf rfl ?_; clear hf a; intro a hf
 refine s_nil ?_
 refine then_n ?_
 refine wp_block ?_
 refine c_loop (L0 := [(0, _), (1, _), (2, _)]) (fun M w m => ∃ (k : Nat) (P : List Pc), M = [(6, .int .i64 (k : Int))] ∧ data.length - k = m ∧ k ≤ data.length ∧ P ++ cut (at_ + k) (data.drop k) = s.pcs ++ cut at_ data ∧ St σ w (refA 88 152 5 3 p { s with pcs := P } :: R)) (M0 := [(6, .int .i64 0)]) (⟨0, s.pcs, rfl, rfl, Nat.zero_le _, rfl, hs⟩) (hf.sub ⟨rfl, rfl, rfl, rfl, trivial⟩) ?_
 clear hf hs a
 rintro M m a w ⟨k, P, rfl, rfl, hk, hP, hs⟩ hf
 refine wp_seq ?_
 refine wp_seq ?_
 refine wp_region_lit ?_
 refine s_m hf rfl ?_; clear hf a; intro a hf
 refine s_m hf rfl ?_; clear hf a; intro a hf
 refine s_v hf (x_len Tryz.underlying22 (hf.eval rfl)) ?_; clear hf a; intro a hf
 refine s_v hf (x_bin (hf.eval rfl) (hf.eval rfl) (r_lt _ _ _ _)) ?_; clear hf a; intro a hf
 refine s_nil ?_
 refine then_n ?_
 refine c_cond hf rfl (fun hi0 => ?_) (fun hi0 => ?_)
 ·simp only [zd1, zd2, zd3, zd4, zd5, zd6, zd7] at hi0
  have hlt : k < data.length := by omega
  obtain ⟨q, hq⟩ : ∃ q, q = secN (at_ + k) (data.length - k) := ⟨_, rfl⟩
  have hq0 : 0 < q := by rw [hq]; exact secN_pos (by omega)
  have hq1 : q ≤ data.length - k := by rw [hq]; exact secN_le _ _
  have hdk : (data.drop k).length = data.length - k := List.length_drop ..
  have hcq : ((data.drop k).take q).length = q := by rw [List.length_take]; omega
  have hP9 : P.length ≤ 1099511700000 := by have h9 := congrArg List.length hP; simp only [List.length_append] at h9; have := cut_len data.length at_ data (Nat.le_refl _); omega
  have hP2 : P ++ [(at_ + k, (data.drop k).take q)] ++ cut (at_ + (k + q)) (data.drop (k + q)) = s.pcs ++ cut at_ data := by rw [← hP, cut_cons (l := data.drop k) (by intro h9; rw [h9] at hdk; simp at hdk; omega), hdk, ← hq, List.drop_drop, Nat.add_assoc, List.append_assoc]; rfl
  obtain ⟨⟨v1, v2, v3, v4, ps⟩, hps, hs⟩ := refA_open hs
  dsimp only at hps hs
  obtain ⟨a1, c1, rfl, hc1⟩ := slB_shape (hs.take .k1)
  obtain ⟨a2, c2, rfl, hc2⟩ := slB_shape (hs.take .k2)
  obtain ⟨a3, c3, rfl⟩ := sl_shape (hs.take .k3)
  obtain ⟨a4, c4, rfl⟩ := sl_shape (hs.take .k5)
  have hpl : ps.length = P.length := by have h9 := congrArg List.length hps; rw [List.length_map] at h9; exact h9
  refine wp_skip ?_
  refine then_n ?_
  refine wp_block ?_
  refine wp_seq ?_
  refine wp_region_lit ?_
  refine s_m hf rfl ?_; clear hf a; intro a hf
  refine s_m hf rfl ?_; clear hf a; intro a hf
  refine s_v hf (x_bin (hf.eval rfl) (hf.eval rfl) (r_addi _ (by omega) (by omega))) ?_; clear hf a; intro a hf
  refine s_v hf (x_bin (hf.eval rfl) (hf.eval rfl) (r_quon _ (by omega) (by omega) (by omega))) ?_; clear hf a; intro a hf
  replace hf := hf.now (k := 16) (v' := .int .i64 (((at_ + k) / 512 : Nat) : Int)) rfl (rfl)
  refine s_a hf rfl ?_; clear hf a; intro a hf
  refine s_nil ?_
  refine then_n ?_
  refine wp_seq ?_
  refine wp_region_lit ?_
  refine s_m hf rfl ?_; clear hf a; intro a hf
  refine s_v hf (x_bin (hf.eval rfl) (hf.eval rfl) (r_addi _ (by omega) (by omega))) ?_; clear hf a; intro a hf
  refine s_v hf (x_bin (hf.eval rfl) (hf.eval rfl) (r_muli _ (by omega) (by omega))) ?_; clear hf a; intro a hf
  refine s_m hf rfl ?_; clear hf a; intro a hf
  refine s_m hf rfl ?_; clear hf a; intro a hf
  refine s_v hf (x_bin (hf.eval rfl) (hf.eval rfl) (r_addi _ (by omega) (by omega))) ?_; clear hf a; intro a hf
  refine s_v hf (x_bin (hf.eval rfl) (hf.eval rfl) (r_subi _ (by omega) (by omega))) ?_; clear hf a; intro a hf
  refine s_a hf rfl ?_; clear hf a; intro a hf
  refine s_nil ?_
  refine then_n ?_
  refine wp_seq ?_
  refine wp_seq ?_
  refine wp_region_lit ?_
  refine s_m hf rfl ?_; clear hf a; intro a hf
  refine s_m hf rfl ?_; clear hf a; intro a hf
  refine s_v hf (x_len Tryz.underlying22 (hf.eval rfl)) ?_; clear hf a; intro a hf
  refine s_m hf rfl ?_; clear hf a; intro a hf
  refine s_v hf (x_bin (hf.eval rfl) (hf.eval rfl) (r_subi _ (by omega) (by omega))) ?_; clear hf a; intro a hf
  refine s_v hf (x_bin (hf.eval rfl) (hf.eval rfl) (r_gt _ _ _ _)) ?_; clear hf a; intro a hf
  refine s_nil ?_
  refine then_n ?_
  refine c_cond hf rfl (fun hi1 => ?_) (fun hi1 => ?_)
  ·simp only [zd1, zd2, zd3, zd4, zd5, zd6, zd7] at hi1
   refine wp_region_lit ?_
   refine s_m hf rfl ?_; clear hf a; intro a hf
   refine s_v hf (x_len Tryz.underlying22 (hf.eval rfl)) ?_; clear hf a; intro a hf
   refine s_m hf rfl ?_; clear hf a; intro a hf
   refine s_v hf (x_bin (hf.eval rfl) (hf.eval rfl) (r_subi _ (by omega) (by omega))) ?_; clear hf a; intro a hf
   refine s_a hf rfl ?_; clear hf a; intro a hf
   replace hf := hf.now (k := 8) (v' := .int .i64 (q : Int)) rfl (by rw [hq]; unfold secN; congr 1; omega)
   refine s_nil ?_
   refine then_n ?_
   refine wp_seq ?_
   refine c_draw hs (fun w' => w'.cell? ⟨p, 3, none⟩ = some (.slice a3 ps.length c3) ∧ RdB (hp w') (.slice ad data.length cd) data) [.held, .held, .held, .held, .held, .held, .held, .held, .held, .held, .held, .held, .held, .held, .held, .eff, .held, .eff, .eff, .held, .held, .fin] (by kernel_rfl) (by kernel_rfl) (fun w' _ hs => ⟨hs.cell (k := 3) .k0 rfl, hr _ [_, _, _, _, _, _] hs⟩) ?_
   clear hs; intro w hs hC hw
   refine m_held hf rfl (fun w' _ => x_move (hf.eval rfl) w') ?_; clear hf a; intro a hf
   refine m_held hf rfl (fun w' _ => x_move (hf.eval rfl) w') ?_; clear hf a; intro a hf
   refine m_held hf rfl (fun w' _ => x_nilCheck (hf.eval rfl) w') ?_; clear hf a; intro a hf
   refine m_held hf rfl (fun w' _ => x_fieldAddr fo88_3 (hf.eval rfl) w') ?_; clear hf a; intro a hf
   refine m_held hf rfl (fun w' hc => x_load sc86 (hf.eval rfl) hc.1) ?_; clear hf a; intro a hf
   refine m_held hf rfl (fun w' _ => x_move (hf.eval rfl) w') ?_; clear hf a; intro a hf
   refine m_held hf rfl (fun w' _ => x_move (hf.eval rfl) w') ?_; clear hf a; intro a hf
   refine m_held hf rfl (fun w' _ => x_move (hf.eval rfl) w') ?_; clear hf a; intro a hf
   refine m_held hf rfl (fun w' _ => x_bin (hf.eval rfl) (hf.eval rfl) (r_addi _ (by omega) (by omega)) w') ?_; clear hf a; intro a hf
   replace hf := hf.now (k := 42) (v' := .int .i64 ((at_ + k : Nat) : Int)) rfl (by congr 1)
   refine m_held hf rfl (fun w' _ => x_move (hf.eval rfl) w') ?_; clear hf a; intro a hf
   refine m_held hf rfl (fun w' _ => x_move (hf.eval rfl) w') ?_; clear hf a; intro a hf
   refine m_held hf rfl (fun w' _ => x_move (hf.eval rfl) w') ?_; clear hf a; intro a hf
   refine m_held hf rfl (fun w' _ => x_move (hf.eval rfl) w') ?_; clear hf a; intro a hf
   refine m_held hf rfl (fun w' _ => x_bin (hf.eval rfl) (hf.eval rfl) (r_addi _ (by omega) (by omega)) w') ?_; clear hf a; intro a hf
   refine m_held hf rfl (fun w' _ => x_slice sl22 (hf.eval rfl) (hf.eval rfl) (hf.eval rfl)  (by omega) (by omega) (by omega)  w') ?_; clear hf a; intro a hf
   replace hf := hf.now (k := 48) (v' := .slice (subA ad cd k 1) ((data.drop k).take q).length (cd - k)) rfl (by rw [hcq]; congr 1; omega)
   refine m_eff hf rfl (y_call (hf.eval rfl) (hf.evals rfl) Tryz.call38 ((rclone_spec _ _ _ ((data.drop k).take q) (by have := RdB.sub (i := k) (j := k + q) hC.2 rfl (by omega) (by omega); rw [show k + q - k = q by omega] at this; rw [hcq]; exact this) (by omega)).mono ?_))
   rintro e w1 ⟨e1, fe1, rfl, hj⟩
   replace hs := hs.join hj
   simp only [List.cons_append, List.nil_append] at hs
   refine ⟨_, rfl, ⟨⟨hs.cell (k := 3) .k1 rfl, hr _ [_, _, _, _, _, _, _] hs⟩, ?_⟩⟩; clear hf a; intro a hf
   refine m_held hf rfl (fun w' hc => x_build (v := .agg #[.int .i64 (((at_ + k) / 512 : Nat) : Int), .int .i64 ((at_ + k : Nat) : Int), .slice e1 ((data.drop k).take q).length fe1]) (hf.parts rfl) (fun w => by kernel_rfl) _) ?_; clear hf a; intro a hf
   refine m_eff hf rfl (y_lit (xs := [.tmp 50]) hs sl86 (hf.evals rfl) rfl (by simp [Value.cells]) (by decide) ?_); clear hf hs a; intro b2 w hs; refine ⟨⟨hs.cell (k := 3) .k2 rfl, hr _ [_, _, _, _, _, _, _, _] hs⟩, ?_⟩; intro a hf
   refine m_eff hf rfl (y_append (n := ps.length) (m := 1) (ys := [.int .i64 (((at_ + k) / 512 : Nat) : Int), .int .i64 ((at_ + k : Nat) : Int), .slice e1 ((data.drop k).take q).length fe1]) hs sl86 (hf.eval rfl) (hf.eval rfl) .k5 (hs.rd .k0 fun h hb => rd_rows hb rfl) (by simp [Value.oneCell']) (by omega) (by rw [maxLen_eq]; omega) ?_); clear hf hs a; intro v2 w hs hv; refine ⟨⟨hs.cell (k := 3) .k3 rfl, hr _ [_, _, _, _, _, _, _, _] hs⟩, ?_⟩; intro a hf
   obtain ⟨a8, c8, rfl⟩ := sl_shape hs
   obtain ⟨ps2, hps2⟩ : ∃ ps2, ps2 = ps ++ [((at_ + k, .slice e1 ((data.drop k).take q).length fe1, (data.drop k).take q) : Pt)] := ⟨_, rfl⟩
   have hl2 : ps.length + 1 = ps2.length := by rw [hps2]; simp
   have hx2 : ps.flatMap rpF ++ [.int .i64 (((at_ + k) / 512 : Nat) : Int), .int .i64 ((at_ + k : Nat) : Int), .slice e1 ((data.drop k).take q).length fe1] = ps2.flatMap rpF := by rw [hps2]; simp [rpF]
   rw [hl2, hx2] at hs
   replace hf := hf.now (k := 52) (v' := .slice a8 ps2.length c8) rfl (by rw [← hl2])
   refine m_held hf rfl (fun w' _ => x_nilCheck (hf.eval rfl) w') ?_; clear hf a; intro a hf
   refine m_held hf rfl (fun w' _ => x_fieldAddr fo88_3 (hf.eval rfl) w') ?_; clear hf a; intro a hf
   refine m_fin0 hf rfl (y_store hs sc86 (hf.eval rfl) (hf.eval rfl) rfl (by repeat constructor) (by simp) ?_); clear hf hs a; intro w hs; intro a hf
   replace hs := (((hs.lose .k1).take .k1).take .k5)
   replace hs := datA_push (p := ((at_ + k, .slice e1 ((data.drop k).take q).length fe1, (data.drop k).take q) : Pt)) hs
   rw [← hps2] at hs
   replace hs := St.give (L := _) (St.give (L := _) hs .k4) .k3
   replace hs := refA_close (s := { s with pcs := P ++ [(at_ + k, (data.drop k).take q)] }) (x := ⟨.slice a1 s.now.length c1, .slice a2 s.dur.length c2, .slice a8 ps2.length c8, .slice a4 s.sizes.length c4, ps2⟩) (by rw [hps2, List.map_append, hps]; rfl) hs
   refine then_n ?_
   refine wp_region_lit ?_
   refine s_m hf rfl ?_; clear hf a; intro a hf
   refine s_m hf rfl ?_; clear hf a; intro a hf
   refine s_v hf (x_bin (hf.eval rfl) (hf.eval rfl) (r_addi _ (by omega) (by omega))) ?_; clear hf a; intro a hf
   replace hf := hf.now (k := 57) (v' := .int .i64 ((k + q : Nat) : Int)) rfl (by push_cast; rfl)
   refine s_a hf rfl ?_; clear hf a; intro a hf
   refine s_nil ?_
   refine blk_n ?_
   exact ⟨_, _, ⟨k + q, P ++ [(at_ + k, (data.drop k).take q)], rfl, rfl, by omega, hP2, hs⟩, by omega, hf.sub ⟨rfl, rfl, rfl, rfl, trivial⟩⟩
  simp only [zd1, zd2, zd3, zd4, zd5, zd6, zd7] at hi1
  replace hf := hf.now (k := 8) (v' := .int .i64 (q : Int)) rfl (by rw [hq]; unfold secN; congr 1; omega)
  refine wp_skip ?_
  refine then_n ?_
  refine wp_seq ?_
  refine c_draw hs (fun w' => w'.cell? ⟨p, 3, none⟩ = some (.slice a3 ps.length c3) ∧ RdB (hp w') (.slice ad data.length cd) data) [.held, .held, .held, .held, .held, .held, .held, .held, .held, .held, .held, .held, .held, .held, .held, .eff, .held, .eff, .eff, .held, .held, .fin] (by kernel_rfl) (by kernel_rfl) (fun w' _ hs => ⟨hs.cell (k := 3) .k0 rfl, hr _ [_, _, _, _, _, _] hs⟩) ?_
  clear hs; intro w hs hC hw
  refine m_held hf rfl (fun w' _ => x_move (hf.eval rfl) w') ?_; clear hf a; intro a hf
  refine m_held hf rfl (fun w' _ => x_move (hf.eval rfl) w') ?_; clear hf a; intro a hf
  refine m_held hf rfl (fun w' _ => x_nilCheck (hf.eval rfl) w') ?_; clear hf a; intro a hf
  refine m_held hf rfl (fun w' _ => x_fieldAddr fo88_3 (hf.eval rfl) w') ?_; clear hf a; intro a hf
  refine m_held hf rfl (fun w' hc => x_load sc86 (hf.eval rfl) hc.1) ?_; clear hf a; intro a hf
  refine m_held hf rfl (fun w' _ => x_move (hf.eval rfl) w') ?_; clear hf a; intro a hf
  refine m_held hf rfl (fun w' _ => x_move (hf.eval rfl) w') ?_; clear hf a; intro a hf
  refine m_held hf rfl (fun w' _ => x_move (hf.eval rfl) w') ?_; clear hf a; intro a hf
  refine m_held hf rfl (fun w' _ => x_bin (hf.eval rfl) (hf.eval rfl) (r_addi _ (by omega) (by omega)) w') ?_; clear hf a; intro a hf
  replace hf := hf.now (k := 42) (v' := .int .i64 ((at_ + k : Nat) : Int)) rfl (by congr 1)
  refine m_held hf rfl (fun w' _ => x_move (hf.eval rfl) w') ?_; clear hf a; intro a hf
  refine m_held hf rfl (fun w' _ => x_move (hf.eval rfl) w') ?_; clear hf a; intro a hf
  refine m_held hf rfl (fun w' _ => x_move (hf.eval rfl) w') ?_; clear hf a; intro a hf
  refine m_held hf rfl (fun w' _ => x_move (hf.eval rfl) w') ?_; clear hf a; intro a hf
  refine m_held hf rfl (fun w' _ => x_bin (hf.eval rfl) (hf.eval rfl) (r_addi _ (by omega) (by omega)) w') ?_; clear hf a; intro a hf
  refine m_held hf rfl (fun w' _ => x_slice sl22 (hf.eval rfl) (hf.eval rfl) (hf.eval rfl)  (by omega) (by omega) (by omega)  w') ?_; clear hf a; intro a hf
  replace hf := hf.now (k := 48) (v' := .slice (subA ad cd k 1) ((data.drop k).take q).length (cd - k)) rfl (by rw [hcq]; congr 1; omega)
  refine m_eff hf rfl (y_call (hf.eval rfl) (hf.evals rfl) Tryz.call38 ((rclone_spec _ _ _ ((data.drop k).take q) (by have := RdB.sub (i := k) (j := k + q) hC.2 rfl (by omega) (by omega); rw [show k + q - k = q by omega] at this; rw [hcq]; exact this) (by omega)).mono ?_))
  rintro e w1 ⟨e1, fe1, rfl, hj⟩
  replace hs := hs.join hj
  simp only [List.cons_append, List.nil_append] at hs
  refine ⟨_, rfl, ⟨⟨hs.cell (k := 3) .k1 rfl, hr _ [_, _, _, _, _, _, _] hs⟩, ?_⟩⟩; clear hf a; intro a hf
  refine m_held hf rfl (fun w' hc => x_build (v := .agg #[.int .i64 (((at_ + k) / 512 : Nat) : Int), .int .i64 ((at_ + k : Nat) : Int), .slice e1 ((data.drop k).take q).length fe1]) (hf.parts rfl) (fun w => by kernel_rfl) _) ?_; clear hf a; intro a hf
  refine m_eff hf rfl (y_lit (xs := [.tmp 50]) hs sl86 (hf.evals rfl) rfl (by simp [Value.cells]) (by decide) ?_); clear hf hs a; intro b2 w hs; refine ⟨⟨hs.cell (k := 3) .k2 rfl, hr _ [_, _, _, _, _, _, _, _] hs⟩, ?_⟩; intro a hf
  refine m_eff hf rfl (y_append (n := ps.length) (m := 1) (ys := [.int .i64 (((at_ + k) / 512 : Nat) : Int), .int .i64 ((at_ + k : Nat) : Int), .slice e1 ((data.drop k).take q).length fe1]) hs sl86 (hf.eval rfl) (hf.eval rfl) .k5 (hs.rd .k0 fun h hb => rd_rows hb rfl) (by simp [Value.oneCell']) (by omega) (by rw [maxLen_eq]; omega) ?_); clear hf hs a; intro v2 w hs hv; refine ⟨⟨hs.cell (k := 3) .k3 rfl, hr _ [_, _, _, _, _, _, _, _] hs⟩, ?_⟩; intro a hf
  obtain ⟨a8, c8, rfl⟩ := sl_shape hs
  obtain ⟨ps2, hps2⟩ : ∃ ps2, ps2 = ps ++ [((at_ + k, .slice e1 ((data.drop k).take q).length fe1, (data.drop k).take q) : Pt)] := ⟨_, rfl⟩
  have hl2 : ps.length + 1 = ps2.length := by rw [hps2]; simp
  have hx2 : ps.flatMap rpF ++ [.int .i64 (((at_ + k) / 512 : Nat) : Int), .int .i64 ((at_ + k : Nat) : Int), .slice e1 ((data.drop k).take q).length fe1] = ps2.flatMap rpF := by rw [hps2]; simp [rpF]
  rw [hl2, hx2] at hs
  replace hf := hf.now (k := 52) (v' := .slice a8 ps2.length c8) rfl (by rw [← hl2])
  refine m_held hf rfl (fun w' _ => x_nilCheck (hf.eval rfl) w') ?_; clear hf a; intro a hf
  refine m_held hf rfl (fun w' _ => x_fieldAddr fo88_3 (hf.eval rfl) w') ?_; clear hf a; intro a hf
  refine m_fin0 hf rfl (y_store hs sc86 (hf.eval rfl) (hf.eval rfl) rfl (by repeat constructor) (by simp) ?_); clear hf hs a; intro w hs; intro a hf
  replace hs := (((hs.lose .k1).take .k1).take .k5)
  replace hs := datA_push (p := ((at_ + k, .slice e1 ((data.drop k).take q).length fe1, (data.drop k).take q) : Pt)) hs
  rw [← hps2] at hs
  replace hs := St.give (L := _) (St.give (L := _) hs .k4) .k3
  replace hs := refA_close (s := { s with pcs := P ++ [(at_ + k, (data.drop k).take q)] }) (x := ⟨.slice a1 s.now.length c1, .slice a2 s.dur.length c2, .slice a8 ps2.length c8, .slice a4 s.sizes.length c4, ps2⟩) (by rw [hps2, List.map_append, hps]; rfl) hs
  refine then_n ?_
  refine wp_region_lit ?_
  refine s_m hf rfl ?_; clear hf a; intro a hf
  refine s_m hf rfl ?_; clear hf a; intro a hf
  refine s_v hf (x_bin (hf.eval rfl) (hf.eval rfl) (r_addi _ (by omega) (by omega))) ?_; clear hf a; intro a hf
  replace hf := hf.now (k := 57) (v' := .int .i64 ((k + q : Nat) : Int)) rfl (by push_cast; rfl)
  refine s_a hf rfl ?_; clear hf a; intro a hf
  refine s_nil ?_
  refine blk_n ?_
  exact ⟨_, _, ⟨k + q, P ++ [(at_ + k, (data.drop k).take q)], rfl, rfl, by omega, hP2, hs⟩, by omega, hf.sub ⟨rfl, rfl, rfl, rfl, trivial⟩⟩
 simp only [zd1, zd2, zd3, zd4, zd5, zd6, zd7] at hi0
 have hk9 : k = data.length := by omega
 subst hk9
 rw [List.drop_length, cut_nil, List.append_nil] at hP
 subst hP
 refine wp_exit ?_
 refine then_x ?_
 refine then_x ?_
 refine blk_x ?_
 refine then_n ?_
 refine wp_seq ?_
 refine wp_block ?_
 refine c_loop (L0 := [(0, _), (1, _), (2, _), (6, _), (9, _), (10, _), (11, _), (12, _)]) (fun M w m => ∃ (j : Nat), M = [] ∧ (at_ + data.length - (s.now.length + j)) = m ∧ s.now.length + j ≤ max s.now.length (at_ + data.length) ∧ St σ w (refA 88 152 5 3 p { s with now := s.now ++ List.replicate j 0, pcs := s.pcs ++ cut at_ data } :: R)) (M0 := _) (⟨0, rfl, rfl, by omega, by rw [List.replicate_zero, List.append_nil]; exact hs⟩) (hf.sub ⟨rfl, rfl, rfl, rfl, rfl, rfl, rfl, rfl, trivial⟩) ?_
 clear hf hs a
 rintro M m a w ⟨j, rfl, rfl, hj, hs⟩ hf
 obtain ⟨⟨v1, v2, v3, v4, ps⟩, hps, hs⟩ := refA_open hs
 dsimp only at hps hs
 obtain ⟨a1, c1, rfl, hc1⟩ := slB_shape (hs.take .k1)
 obtain ⟨a2, c2, rfl, hc2⟩ := slB_shape (hs.take .k2)
 obtain ⟨a3, c3, rfl⟩ := sl_shape (hs.take .k3)
 obtain ⟨a4, c4, rfl⟩ := sl_shape (hs.take .k5)
 have hNl : (s.now ++ List.replicate j (0 : UInt8)).length = s.now.length + j := by simp
 refine wp_seq ?_
 refine wp_seq ?_
 refine wp_region_lit ?_
 refine s_m hf rfl ?_; clear hf a; intro a hf
 refine s_v hf (x_nilCheck (hf.eval rfl)) ?_; clear hf a; intro a hf
 refine s_v hf (x_fieldAddr fo88_1 (hf.eval rfl)) ?_; clear hf a; intro a hf
 refine s_r hf (x_load sc22 (hf.eval rfl) (by apply hs.cell <;> repeat constructor)) ?_; clear hf a; intro a hf
 refine s_v hf (x_len Tryz.underlying22 (hf.eval rfl)) ?_; clear hf a; intro a hf
 refine s_m hf rfl ?_; clear hf a; intro a hf
 refine s_m hf rfl ?_; clear hf a; intro a hf
 refine s_v hf (x_len Tryz.underlying22 (hf.eval rfl)) ?_; clear hf a; intro a hf
 refine s_v hf (x_bin (hf.eval rfl) (hf.eval rfl) (r_addi _ (by omega) (by omega))) ?_; clear hf a; intro a hf
 refine s_v hf (x_bin (hf.eval rfl) (hf.eval rfl) (r_lt _ _ _ _)) ?_; clear hf a; intro a hf
 refine s_nil ?_
 refine then_n ?_
 refine c_cond hf rfl (fun hi2 => ?_) (fun hi2 => ?_)
 ·simp only [zd1, zd2, zd3, zd4, zd5, zd6, zd7] at hi2
  refine wp_skip ?_
  refine then_n ?_
  refine wp_block ?_
  refine wp_region_lit ?_
  refine s_m hf rfl ?_; clear hf a; intro a hf
  refine s_m hf rfl ?_; clear hf a; intro a hf
  refine s_v hf (x_nilCheck (hf.eval rfl)) ?_; clear hf a; intro a hf
  refine s_v hf (x_fieldAddr fo88_1 (hf.eval rfl)) ?_; clear hf a; intro a hf
  refine s_r hf (x_load sc22 (hf.eval rfl) (by apply hs.cell <;> repeat constructor)) ?_; clear hf a; intro a hf
  refine s_do hf rfl (y_lit (xs := [.const (.int .u8 0)]) hs sl22 (hf.evals rfl) rfl (by simp [Value.cells]) (by decide) ?_); clear hf hs a; intro b2 w hs a hf
  refine s_do hf rfl (y_appendB (s := [0]) hs sl22 rfl (hf.eval rfl) (hf.eval rfl) .k2 (hs.rdB .k0 fun h hb => rdB_of_bb (T := 5) (l := [0]) hb (by simp) (by simp)) (by simp; omega) ?_); clear hf hs a; intro v2 w hs hv a hf
  rw [List.append_assoc, ← List.replicate_succ'] at hs
  obtain ⟨a9, c9, rfl, hc9⟩ := slB_shape hs
  refine s_v hf (x_nilCheck (hf.eval rfl)) ?_; clear hf a; intro a hf
  refine s_v hf (x_fieldAddr fo88_1 (hf.eval rfl)) ?_; clear hf a; intro a hf
  refine s_do0 hf rfl (y_store hs sc22 (hf.eval rfl) (hf.eval rfl) rfl (by repeat constructor) (by simp) ?_); clear hf hs a; intro w hs a hf
  replace hs := (hs.lose .k1).take .k1
  replace hs := refA_close (s := { s with now := s.now ++ List.replicate (j + 1) 0, pcs := s.pcs ++ cut at_ data }) (x := ⟨.slice a9 (s.now ++ List.replicate (j + 1) 0).length c9, .slice a2 s.dur.length c2, .slice a3 ps.length c3, .slice a4 s.sizes.length c4, ps⟩) hps hs
  refine s_nil ?_
  refine blk_n ?_
  exact ⟨_, _, ⟨j + 1, rfl, rfl, by omega, hs⟩, by omega, hf.sub ⟨rfl, rfl, rfl, rfl, rfl, rfl, rfl, rfl, trivial⟩⟩
 simp only [zd1, zd2, zd3, zd4, zd5, zd6, zd7] at hi2
 obtain ⟨E, hE⟩ : ∃ E, E = ext s.now (at_ + data.length) := ⟨_, rfl⟩
 have hEl : E.length = max s.now.length (at_ + data.length) := by rw [hE, ext_length]
 have hE2 : s.now ++ List.replicate j (0 : UInt8) = E := by rw [hE, show j = at_ + data.length - s.now.length by omega]; rfl
 rw [hE2] at hs hc1
 obtain ⟨b1, cc, hb1, _⟩ := slB_block (hs.take .k1) (by omega)
 injection hb1 with hb1 _ hb1c
 subst hb1
 subst hb1c
 refine wp_exit ?_
 refine then_x ?_
 refine then_x ?_
 refine blk_x ?_
 refine then_n ?_
 refine wp_region_lit ?_
 refine s_m hf rfl ?_; clear hf a; intro a hf
 refine s_v hf (x_nilCheck (hf.eval rfl)) ?_; clear hf a; intro a hf
 refine s_v hf (x_fieldAddr fo88_1 (hf.eval rfl)) ?_; clear hf a; intro a hf
 refine s_r hf (x_load sc22 (hf.eval rfl) (by apply hs.cell <;> repeat constructor)) ?_; clear hf a; intro a hf
 refine s_m hf rfl ?_; clear hf a; intro a hf
 refine s_v hf (x_slice_lo sl22 (hf.eval rfl) (hf.eval rfl)  (by omega) (by omega) ) ?_; clear hf a; intro a hf
 replace hf := hf.now (k := 82) (v' := .slice (subA (some ⟨b1, 0, none⟩) c1 at_ 1) (E.length - at_) (c1 - at_)) rfl (by first | rfl | (rw [← hE2]; rfl))
 refine s_m hf rfl ?_; clear hf a; intro a hf
 refine s_do hf rfl (y_copyAt (T := 5) (n := E.length) (o := at_) (s := data) hs sl22 (hf.eval rfl) rfl (hf.eval rfl) .k1 (hr _ [_, _, _, _, _, _] hs) (by omega) rfl ?_); clear hf hs a; intro w hs a hf
 rw [show min data.length (E.length - at_) = data.length by omega, List.take_length] at hs
 have hXl : (spl E at_ data).length = E.length := spl_length _ _ _ (by omega)
 rw [← hXl] at hs
 replace hs := refA_close (s := { s with now := spl E at_ data, pcs := s.pcs ++ cut at_ data }) (x := ⟨.slice (some ⟨b1, 0, none⟩) (spl E at_ data).length c1, .slice a2 s.dur.length c2, .slice a3 ps.length c3, .slice a4 s.sizes.length c4, ps⟩) hps (hs.take .k1)
 rw [hE] at hs
 refine s_nil ?_
 refine r_0n hf Tryz.results90 ?_
 exact ⟨rfl, hs⟩
end Go.Proofs.YtehakfbfjpolfaaGreatDoor

namespace Go.Proofs.YtehakfbfjpolfaaGreatDoor
open Go Vw
theorem hole_eq (n : Nat) (data : List UInt8) : List.replicate n (0 : UInt8) ++ data = spl (List.replicate (n + data.length) 0) n (data.take (min data.length data.length)) := by
  unfold spl
  rw [Nat.min_self, List.take_length, List.take_replicate, List.drop_replicate, Nat.min_eq_left (by omega), Nat.sub_self, List.replicate_zero, List.append_nil]
theorem rWrite_spec (σ : Sig) (w : World) (R : List Asrt) (p : Nat) (s : DS) (hs : St σ w (refA 88 152 5 3 p s :: R)) (off : Int) (ad : Option Addr) (cd : Nat) (data : List UInt8) (hr : Rdy σ R (.slice ad data.length cd) data) (hdl : data.length ≤ 140737488351232) (ho : DOk s) (hcl : s.calls ≤ 4611686018427387904) (hpc : s.pcs.length ≤ 1099511600000) (hsl : s.sizes.length ≤ 1099511600000) : Calls Tryz.prog 57 #[.pointer (some ⟨p, 0, none⟩), .int .i64 off, .slice ad data.length cd] w fun e w' => e = .returned (.int .i64 (wrS s off data).1) ∧ St σ w' (refA 88 152 5 3 p (wrS s off data).2 :: R) := by
 have hroom0 := ho.room0
 have hroom1 := ho.room1
 have hnow1 := ho.now
 obtain ⟨⟨v1, v2, v3, v4, ps⟩, hps, hs⟩ := refA_open hs
 dsimp only at hps hs
 obtain ⟨a1, c1, rfl, hc1⟩ := slB_shape (hs.take .k1)
 obtain ⟨a2, c2, rfl, hc2⟩ := slB_shape (hs.take .k2)
 obtain ⟨a3, c3, rfl⟩ := sl_shape (hs.take .k3)
 obtain ⟨a4, c4, rfl⟩ := sl_shape (hs.take .k5)
 refine c_enter (N := 94) Tryz.func57 rfl Tryz.ntmps57 (by simp) ?_
 intro a hf
 refine wp_seq ?_
 refine wp_region_lit ?_
 refine s_a hf rfl ?_; clear hf a; intro a hf
 refine s_nil ?_
 refine then_n ?_
 refine wp_seq ?_
 refine wp_seq ?_
 refine wp_region_lit ?_
 refine s_m hf rfl ?_; clear hf a; intro a hf
 refine s_v hf (x_eqNil Tryz.underlying28 (hf.eval rfl) (hf.eval rfl)) ?_; clear hf a; intro a hf
 replace hf := hf.now (k := 11) (v' := .bool false) rfl rfl
 refine s_nil ?_
 refine then_n ?_
 refine c_cond_f hf rfl rfl ?_
 refine wp_skip ?_
 refine then_n ?_
 refine wp_seq ?_
 refine wp_seq ?_
 refine wp_region_lit ?_
 refine s_m hf rfl ?_; clear hf a; intro a hf
 refine s_v hf (x_nilCheck (hf.eval rfl)) ?_; clear hf a; intro a hf
 refine s_v hf (x_fieldAddr fo88_7 (hf.eval rfl)) ?_; clear hf a; intro a hf
 refine s_r hf (x_load sc4 (hf.eval rfl) (by apply hs.cell <;> repeat constructor)) ?_; clear hf a; intro a hf
 refine s_v hf (x_not (hf.eval rfl)) ?_; clear hf a; intro a hf
 refine s_nil ?_
 refine then_n ?_
 refine c_cond hf rfl (fun hi1 => ?_) (fun hi1 => ?_)
 ·simp only [Bool.not_not] at hi1
  refine wp_seq ?_
  refine wp_region_lit ?_
  refine s_a hf rfl ?_; clear hf a; intro a hf
  refine s_nil ?_
  refine then_n ?_
  refine wp_ret ?_
  refine then_r ?_
  refine r_1 hf Tryz.results57 rfl ?_
  rw [wrS_dead hi1]
  exact ⟨rfl, refA_close (x := ⟨_, _, _, _, ps⟩) hps hs⟩
 simp only [Bool.not_not] at hi1
 refine wp_skip ?_
 refine then_n ?_
 refine wp_seq ?_
 refine wp_seq ?_
 refine wp_region_lit ?_
 refine s_m hf rfl ?_; clear hf a; intro a hf
 refine s_v hf (x_bin (hf.eval rfl) (hf.eval rfl) (r_lt _ _ _ _)) ?_; clear hf a; intro a hf
 refine s_nil ?_
 refine then_n ?_
 refine c_cond hf rfl (fun hi2 => ?_) (fun hi2 => ?_)
 ·simp only [zd1, zd2, zd3, zd4, zd5, zd6, zd7] at hi2
  refine wp_seq ?_
  refine wp_region_lit ?_
  refine s_a hf rfl ?_; clear hf a; intro a hf
  refine s_nil ?_
  refine then_n ?_
  refine wp_ret ?_
  refine then_r ?_
  refine r_1 hf Tryz.results57 rfl ?_
  rw [wrS_neg hi1 (by omega)]
  exact ⟨rfl, refA_close (x := ⟨_, _, _, _, ps⟩) hps hs⟩
 simp only [zd1, zd2, zd3, zd4, zd5, zd6, zd7] at hi2
 refine wp_skip ?_
 refine then_n ?_
 refine wp_seq ?_
 refine wp_seq ?_
 refine wp_region_lit ?_
 refine s_m hf rfl ?_; clear hf a; intro a hf
 refine s_m hf rfl ?_; clear hf a; intro a hf
 refine s_v hf (x_nilCheck (hf.eval rfl)) ?_; clear hf a; intro a hf
 refine s_v hf (x_fieldAddr fo88_0 (hf.eval rfl)) ?_; clear hf a; intro a hf
 refine s_r hf (x_load sc3 (hf.eval rfl) (by apply hs.cell <;> repeat constructor)) ?_; clear hf a; intro a hf
 refine s_v hf (x_bin (hf.eval rfl) (hf.eval rfl) (r_gt _ _ _ _)) ?_; clear hf a; intro a hf
 refine s_m hf rfl ?_; clear hf a; intro a hf
 refine s_bool hf (k := 25) rfl (fun hg7_6 hf' => ?_) (fun hg7_6 hf' => ?_)
 ·clear hf
  have hf := hf'
  clear hf'
  simp only [decide_eq_true_eq, decide_eq_false_iff_not] at hg7_6
  refine s_pass hf rfl rfl ?_; clear hf a; intro a hf
  refine s_pass hf rfl rfl ?_; clear hf a; intro a hf
  refine s_pass hf rfl rfl ?_; clear hf a; intro a hf
  refine s_pass hf rfl rfl ?_; clear hf a; intro a hf
  refine s_pass hf rfl rfl ?_; clear hf a; intro a hf
  refine s_pass hf rfl rfl ?_; clear hf a; intro a hf
  refine s_pass hf rfl rfl ?_; clear hf a; intro a hf
  refine s_pass hf rfl rfl ?_; clear hf a; intro a hf
  refine s_pass hf rfl rfl ?_; clear hf a; intro a hf
  refine s_v hf (x_pick_t (hf.eval rfl) (hf.eval rfl)) ?_; clear hf a; intro a hf
  refine s_nil ?_
  refine then_n ?_
  refine c_cond_t hf rfl rfl ?_
  refine wp_seq ?_
  refine wp_region_lit ?_
  refine s_a hf rfl ?_; clear hf a; intro a hf
  refine s_nil ?_
  refine then_n ?_
  refine wp_ret ?_
  refine then_r ?_
  refine r_1 hf Tryz.results57 rfl ?_
  rw [wrS_big hi1 (by omega) (by omega)]
  exact ⟨rfl, refA_close (x := ⟨_, _, _, _, ps⟩) hps hs⟩
 clear hf
 have hf := hf'
 clear hf'
 simp only [decide_eq_true_eq, decide_eq_false_iff_not] at hg7_6
 refine s_do hf (wanted_of hf rfl rfl rfl) (.value (x_move (hf.eval rfl) _) ?_); clear hf a; intro a hf
 refine s_do hf (wanted_of hf rfl rfl rfl) (.value (x_len Tryz.underlying22 (hf.eval rfl) _) ?_); clear hf a; intro a hf
 refine s_do hf (wanted_of hf rfl rfl rfl) (.value (x_move (hf.eval rfl) _) ?_); clear hf a; intro a hf
 refine s_do hf (wanted_of hf rfl rfl rfl) (.value (x_nilCheck (hf.eval rfl) _) ?_); clear hf a; intro a hf
 refine s_do hf (wanted_of hf rfl rfl rfl) (.value (x_fieldAddr fo88_0 (hf.eval rfl) _) ?_); clear hf a; intro a hf
 refine s_do hf (wanted_of hf rfl rfl rfl) (.value (x_load sc3 (hf.eval rfl) (by apply hs.cell <;> repeat constructor)) ?_); clear hf a; intro a hf
 refine s_do hf (wanted_of hf rfl rfl rfl) (.value (x_move (hf.eval rfl) _) ?_); clear hf a; intro a hf
 refine s_do hf (wanted_of hf rfl rfl rfl) (.value (x_bin (hf.eval rfl) (hf.eval rfl) (r_subi _ (by omega) (by omega)) _) ?_); clear hf a; intro a hf
 refine s_do hf (wanted_of hf rfl rfl rfl) (.value (x_bin (hf.eval rfl) (hf.eval rfl) (r_gt _ _ _ _) _) ?_); clear hf a; intro a hf
 refine s_v hf (x_pick_f (hf.eval rfl) (hf.eval rfl)) ?_; clear hf a; intro a hf
 refine s_nil ?_
 refine then_n ?_
 refine c_cond hf rfl (fun hi3 => ?_) (fun hi3 => ?_)
 ·simp only [zd1, zd2, zd3, zd4, zd5, zd6, zd7] at hi3
  refine wp_seq ?_
  refine wp_region_lit ?_
  refine s_a hf rfl ?_; clear hf a; intro a hf
  refine s_nil ?_
  refine then_n ?_
  refine wp_ret ?_
  refine then_r ?_
  refine r_1 hf Tryz.results57 rfl ?_
  rw [wrS_big hi1 (by omega) (by omega)]
  exact ⟨rfl, refA_close (x := ⟨_, _, _, _, ps⟩) hps hs⟩
 simp only [zd1, zd2, zd3, zd4, zd5, zd6, zd7] at hi3
 refine wp_skip ?_
 refine then_n ?_
 refine wp_seq ?_
 refine wp_region_lit ?_
 refine s_m hf rfl ?_; clear hf a; intro a hf
 replace hs := refA_close (s := s) (x := ⟨_, _, _, _, ps⟩) hps hs
 refine s_do hf rfl (y_call (hf.eval rfl) (hf.evals rfl) Tryz.call40 ((carried_spec _ _ _ p s hs ho.fuse.2 ho.fuse.1 hcl).mono ?_))
 rintro e w1 ⟨rfl, hs⟩
 obtain ⟨t, ht⟩ : ∃ t, t = spent s := ⟨_, rfl⟩
 rw [← ht] at hs
 obtain ⟨htn, htr, htd, htp, hts⟩ := spent_now s
 rw [← ht] at htn htr htd htp hts
 have hto := spent_ok ho
 rw [← ht] at hto
 have htn2 : t.now.length = s.now.length := by rw [htn]
 have htp2 : t.pcs.length = s.pcs.length := by rw [htp]
 have hts2 : t.sizes.length = s.sizes.length := by rw [hts]
 refine ⟨_, rfl, ?_⟩; clear hf a; intro a hf
 refine s_a hf rfl ?_; clear hf a; intro a hf
 refine s_nil ?_
 refine then_n ?_
 refine wp_seq ?_
 refine wp_seq ?_
 refine wp_region_lit ?_
 refine s_m hf rfl ?_; clear hf a; intro a hf
 refine s_v hf (x_not (hf.eval rfl)) ?_; clear hf a; intro a hf
 refine s_nil ?_
 refine then_n ?_
 refine c_cond hf rfl (fun hi4 => ?_) (fun hi4 => ?_)
 ·simp only [Bool.not_eq_true', Bool.not_eq_false', decide_eq_true_eq, decide_eq_false_iff_not, ne_eq, Decidable.not_not] at hi4
  refine wp_seq ?_
  refine wp_region_lit ?_
  refine s_a hf rfl ?_; clear hf a; intro a hf
  refine s_nil ?_
  refine then_n ?_
  refine wp_ret ?_
  refine then_r ?_
  refine r_1 hf Tryz.results57 rfl ?_
  rw [wrS_fuse hi1 (by omega) (by omega) hi4, ← ht]
  exact ⟨rfl, hs⟩
 simp only [Bool.not_eq_true', Bool.not_eq_false', decide_eq_true_eq, decide_eq_false_iff_not, ne_eq, Decidable.not_not] at hi4
 refine wp_skip ?_
 refine then_n ?_
 refine wp_seq ?_
 refine wp_seq ?_
 refine wp_region_lit ?_
 refine s_m hf rfl ?_; clear hf a; intro a hf
 refine s_v hf (x_len Tryz.underlying22 (hf.eval rfl)) ?_; clear hf a; intro a hf
 refine s_v hf (x_bin (hf.eval rfl) (hf.eval rfl) (r_eq _ _ _ _)) ?_; clear hf a; intro a hf
 refine s_nil ?_
 refine then_n ?_
 refine c_cond hf rfl (fun hi5 => ?_) (fun hi5 => ?_)
 ·simp only [zd1, zd2, zd3, zd4, zd5, zd6, zd7] at hi5
  refine wp_seq ?_
  refine wp_region_lit ?_
  refine s_a hf rfl ?_; clear hf a; intro a hf
  refine s_nil ?_
  refine then_n ?_
  refine wp_ret ?_
  refine then_r ?_
  refine r_1 hf Tryz.results57 rfl ?_
  rw [wrS_none hi1 (by omega) (by omega) hi4 (List.eq_nil_of_length_eq_zero (by omega)), ← ht]
  exact ⟨rfl, hs⟩
 simp only [zd1, zd2, zd3, zd4, zd5, zd6, zd7] at hi5
 have hd : data ≠ [] := by intro h9; subst h9; simp at hi5
 obtain ⟨⟨v1, v2, v3, v4, ps⟩, hps, hs⟩ := refA_open hs
 dsimp only at hps hs
 obtain ⟨a1, c1, rfl, hc1⟩ := slB_shape (hs.take .k1)
 obtain ⟨a2, c2, rfl, hc2⟩ := slB_shape (hs.take .k2)
 obtain ⟨a3, c3, rfl⟩ := sl_shape (hs.take .k3)
 obtain ⟨a4, c4, rfl⟩ := sl_shape (hs.take .k5)
 refine wp_skip ?_
 refine then_n ?_
 refine wp_seq ?_
 refine wp_region_lit ?_
 refine s_m hf rfl ?_; clear hf a; intro a hf
 refine s_v hf (x_nilCheck (hf.eval rfl)) ?_; clear hf a; intro a hf
 refine s_v hf (x_fieldAddr fo88_1 (hf.eval rfl)) ?_; clear hf a; intro a hf
 refine s_r hf (x_load sc22 (hf.eval rfl) (by apply hs.cell <;> repeat constructor)) ?_; clear hf a; intro a hf
 refine s_v hf (x_len Tryz.underlying22 (hf.eval rfl)) ?_; clear hf a; intro a hf
 refine s_a hf rfl ?_; clear hf a; intro a hf
 refine s_nil ?_
 refine then_n ?_
 refine wp_seq ?_
 refine wp_seq ?_
 refine wp_region_lit ?_
 refine s_m hf rfl ?_; clear hf a; intro a hf
 refine s_m hf rfl ?_; clear hf a; intro a hf
 refine s_v hf (x_bin (hf.eval rfl) (hf.eval rfl) (r_le _ _ _ _)) ?_; clear hf a; intro a hf
 refine s_nil ?_
 refine then_n ?_
 refine c_cond hf rfl (fun hi6 => ?_) (fun hi6 => ?_)
 ·simp only [zd1, zd2, zd3, zd4, zd5, zd6, zd7] at hi6
  refine wp_region_lit ?_
  refine s_m hf rfl ?_; clear hf a; intro a hf
  refine s_m hf rfl ?_; clear hf a; intro a hf
  replace hf := hf.now (k := 52) (v' := .int .i64 (off.toNat : Int)) rfl (by congr 1; omega)
  refine s_m hf rfl ?_; clear hf a; intro a hf
  replace hs := refA_close (s := t) (x := ⟨_, _, _, _, ps⟩) hps hs
  refine s_do hf rfl (y_call (hf.eval rfl) (hf.evals rfl) Tryz.call90 ((rlay_spec σ _ _ p t hs off.toNat ad cd data hr hd (by omega) (by omega) (by omega) (by omega)).mono ?_))
  rintro e w1 ⟨rfl, hs⟩
  rw [← layW_in (by omega)] at hs
  obtain ⟨u, hu⟩ : ∃ u, u = layW t off.toNat data := ⟨_, rfl⟩
  rw [← hu] at hs
  have hul : u.now.length = max t.now.length (off.toNat + data.length) := by rw [hu, layW_len]
  have husz : u.sizes = t.sizes := by rw [hu]; unfold layW; split <;> rfl
  have husz2 : u.sizes.length = t.sizes.length := by rw [husz]
  obtain ⟨⟨v1, v2, v3, v4, ps⟩, hps, hs⟩ := refA_open hs
  dsimp only at hps hs
  obtain ⟨a1, c1, rfl, hc1⟩ := slB_shape (hs.take .k1)
  obtain ⟨a2, c2, rfl, hc2⟩ := slB_shape (hs.take .k2)
  obtain ⟨a3, c3, rfl⟩ := sl_shape (hs.take .k3)
  obtain ⟨a4, c4, rfl⟩ := sl_shape (hs.take .k5)
  refine ⟨_, rfl, ?_⟩; clear hf a; intro a hf
  refine s_nil ?_
  refine then_n ?_
  refine wp_seq ?_
  refine wp_seq ?_
  refine wp_region_lit ?_
  refine s_m hf rfl ?_; clear hf a; intro a hf
  refine s_v hf (x_nilCheck (hf.eval rfl)) ?_; clear hf a; intro a hf
  refine s_v hf (x_fieldAddr fo88_1 (hf.eval rfl)) ?_; clear hf a; intro a hf
  refine s_r hf (x_load sc22 (hf.eval rfl) (by apply hs.cell <;> repeat constructor)) ?_; clear hf a; intro a hf
  refine s_v hf (x_len Tryz.underlying22 (hf.eval rfl)) ?_; clear hf a; intro a hf
  refine s_m hf rfl ?_; clear hf a; intro a hf
  refine s_v hf (x_bin (hf.eval rfl) (hf.eval rfl) (r_ne _ _ _ _)) ?_; clear hf a; intro a hf
  refine s_nil ?_
  refine then_n ?_
  refine c_cond hf rfl (fun hi7 => ?_) (fun hi7 => ?_)
  ·simp only [zd1, zd2, zd3, zd4, zd5, zd6, zd7] at hi7
   refine c_draw hs (fun w' => w'.cell? ⟨p, 4, none⟩ = some (.slice a4 u.sizes.length c4)) [.held, .held, .held, .held, .held, .held, .held, .held, .read, .held, .eff, .eff, .held, .held, .fin] (by kernel_rfl) (by kernel_rfl) (fun w' _ hs => hs.cell (k := 4) .k0 rfl) ?_
   clear hs; intro w hs hC hw
   refine m_held hf rfl (fun w' _ => x_move (hf.eval rfl) w') ?_; clear hf a; intro a hf
   refine m_held hf rfl (fun w' _ => x_move (hf.eval rfl) w') ?_; clear hf a; intro a hf
   refine m_held hf rfl (fun w' _ => x_nilCheck (hf.eval rfl) w') ?_; clear hf a; intro a hf
   refine m_held hf rfl (fun w' _ => x_fieldAddr fo88_4 (hf.eval rfl) w') ?_; clear hf a; intro a hf
   refine m_held hf rfl (fun w' hc => x_load sc62 (hf.eval rfl) hc) ?_; clear hf a; intro a hf
   refine m_held hf rfl (fun w' _ => x_move (hf.eval rfl) w') ?_; clear hf a; intro a hf
   refine m_held hf rfl (fun w' _ => x_nilCheck (hf.eval rfl) w') ?_; clear hf a; intro a hf
   refine m_held hf rfl (fun w' _ => x_fieldAddr fo88_1 (hf.eval rfl) w') ?_; clear hf a; intro a hf
   refine m_read hf rfl (x_load sc22 (hf.eval rfl) (by apply hs.cell <;> repeat constructor)) ?_; clear hf a; intro a hf
   refine m_held hf rfl (fun w' _ => x_len Tryz.underlying22 (hf.eval rfl) w') ?_; clear hf a; intro a hf
   refine m_eff hf rfl (y_lit (xs := [.tmp 89]) hs sl62 (hf.evals rfl) rfl (by simp [Value.cells]) (by decide) ?_); clear hf hs a; intro b2 w hs; refine ⟨hs.cell (k := 4) .k1 rfl, ?_⟩; intro a hf
   refine m_eff hf rfl (y_append (n := u.sizes.length) (m := 1) (ys := [.int .i64 (u.now.length : Int)]) hs sl62 (hf.eval rfl) (hf.eval rfl) .k6 (hs.rd .k0 fun h hb => rd_rows hb rfl) (by simp [Value.oneCell']) (by omega) (by rw [maxLen_eq]; omega) ?_); clear hf hs a; intro v2 w hs hv; refine ⟨hs.cell (k := 4) .k2 rfl, ?_⟩; intro a hf
   rw [← szC_append, show u.sizes.length + 1 = (u.sizes ++ [u.now.length]).length by simp] at hs
   obtain ⟨a7, c7, rfl⟩ := sl_shape hs
   refine m_held hf rfl (fun w' _ => x_nilCheck (hf.eval rfl) w') ?_; clear hf a; intro a hf
   refine m_held hf rfl (fun w' _ => x_fieldAddr fo88_4 (hf.eval rfl) w') ?_; clear hf a; intro a hf
   refine m_fin0 hf rfl (y_store hs sc62 (hf.eval rfl) (hf.eval rfl) rfl (by repeat constructor) (by simp) ?_); clear hf hs a; intro w hs; intro a hf
   replace hs := St.give (L := _) (hs.lose .k1) .k5
   refine then_n ?_
   refine wp_seq ?_
   refine wp_region_lit ?_
   refine s_a hf rfl ?_; clear hf a; intro a hf
   refine s_nil ?_
   refine then_n ?_
   refine wp_ret ?_
   refine r_1 hf Tryz.results57 rfl ?_
   rw [wrS_some hi1 (by omega) (by omega) hi4 hd, ← ht, ← hu]
   first | (rw [sized_eq (by omega)]; exact ⟨rfl, refA_close (x := ⟨_, _, _, _, ps⟩) hps hs⟩) | (rw [sized_ne (by omega)]; exact ⟨rfl, refA_close (x := ⟨.slice a1 u.now.length c1, .slice a2 u.dur.length c2, .slice a3 ps.length c3, .slice a7 (u.sizes ++ [u.now.length]).length c7, ps⟩) hps hs⟩)
  simp only [zd1, zd2, zd3, zd4, zd5, zd6, zd7] at hi7
  refine wp_skip ?_
  refine then_n ?_
  refine wp_seq ?_
  refine wp_region_lit ?_
  refine s_a hf rfl ?_; clear hf a; intro a hf
  refine s_nil ?_
  refine then_n ?_
  refine wp_ret ?_
  refine r_1 hf Tryz.results57 rfl ?_
  rw [wrS_some hi1 (by omega) (by omega) hi4 hd, ← ht, ← hu]
  first | (rw [sized_eq (by omega)]; exact ⟨rfl, refA_close (x := ⟨_, _, _, _, ps⟩) hps hs⟩) | (rw [sized_ne (by omega)]; exact ⟨rfl, refA_close (x := ⟨.slice a1 u.now.length c1, .slice a2 u.dur.length c2, .slice a3 ps.length c3, .slice a7 (u.sizes ++ [u.now.length]).length c7, ps⟩) hps hs⟩)
 simp only [zd1, zd2, zd3, zd4, zd5, zd6, zd7] at hi6
 refine wp_seq ?_
 refine wp_region_lit ?_
 refine s_m hf rfl ?_; clear hf a; intro a hf
 refine s_m hf rfl ?_; clear hf a; intro a hf
 refine s_v hf (x_bin (hf.eval rfl) (hf.eval rfl) (r_subi _ (by omega) (by omega))) ?_; clear hf a; intro a hf
 refine s_m hf rfl ?_; clear hf a; intro a hf
 refine s_v hf (x_len Tryz.underlying22 (hf.eval rfl)) ?_; clear hf a; intro a hf
 refine s_v hf (x_bin (hf.eval rfl) (hf.eval rfl) (r_addi _ (by omega) (by omega))) ?_; clear hf a; intro a hf
 refine s_do hf rfl (y_makeB (m := off.toNat - t.now.length + data.length) (c := off.toNat - t.now.length + data.length) hs sl22 (hf.eval rfl) (hf.eval rfl) (by omega) (by omega) (Nat.le_refl _) (by omega) ?_); clear hf hs a; intro b w hs a hf
 refine s_a hf rfl ?_; clear hf a; intro a hf
 refine s_nil ?_
 refine then_n ?_
 refine wp_seq ?_
 refine wp_region_lit ?_
 refine s_m hf rfl ?_; clear hf a; intro a hf
 refine s_m hf rfl ?_; clear hf a; intro a hf
 refine s_m hf rfl ?_; clear hf a; intro a hf
 refine s_v hf (x_bin (hf.eval rfl) (hf.eval rfl) (r_subi _ (by omega) (by omega))) ?_; clear hf a; intro a hf
 refine s_v hf (x_slice_lo sl22 (hf.eval rfl) (hf.eval rfl)  (by omega) (by omega) ) ?_; clear hf a; intro a hf
 replace hf := hf.now (k := 66) (v' := .slice (subA (some ⟨b, 0, none⟩) (off.toNat - t.now.length + data.length) (off.toNat - t.now.length) 1) data.length data.length) rfl (by rw [show (off - (t.now.length : Int)).toNat = off.toNat - t.now.length by omega]; congr 1; omega; omega)
 refine s_m hf rfl ?_; clear hf a; intro a hf
 rw [subA_at (by have := List.length_pos_iff.2 hd; omega)] at hf
 refine s_do hf rfl (y_copyB (o := off.toNat - t.now.length) (cur' := (List.replicate (off.toNat - t.now.length) (0 : UInt8)) ++ data) hs sl22 (hf.eval rfl) (hf.eval rfl) (fun _ => rfl) (hr _ [_, _, _, _, _, _, _] hs) rfl .k0 (hole_eq _ _) (by simp) ?_); clear hf hs a; intro w hs a hf
 replace hs := hs.ofBb (n := ((List.replicate (off.toNat - t.now.length) (0 : UInt8)) ++ data).length) rfl (by simp; omega)
 refine s_nil ?_
 refine then_n ?_
 refine wp_region_lit ?_
 refine s_m hf rfl ?_; clear hf a; intro a hf
 refine s_m hf rfl ?_; clear hf a; intro a hf
 refine s_m hf rfl ?_; clear hf a; intro a hf
 replace hf := hf.now (k := 71) (v' := .slice (some ⟨b, 0, none⟩) ((List.replicate (off.toNat - t.now.length) (0 : UInt8)) ++ data).length ((List.replicate (off.toNat - t.now.length) (0 : UInt8)) ++ data).length) rfl (by simp)
 replace hs := St.give (L := _) hs .k6
 replace hs := refA_close (s := t) (x := ⟨_, _, _, _, ps⟩) hps hs
 refine s_do hf rfl (y_call (hf.eval rfl) (hf.evals rfl) Tryz.call90 ((rlay_spec σ _ _ p t hs t.now.length _ _ ((List.replicate (off.toNat - t.now.length) (0 : UInt8)) ++ data) (Rdy.own .k0) (by simp [hd]) (Nat.le_refl _) (by simp; omega) (by omega) (by omega)).mono ?_))
 rintro e w1 ⟨rfl, hs⟩
 replace hs := hs.lose .k1
 rw [← layW_hole (by omega)] at hs
 obtain ⟨u, hu⟩ : ∃ u, u = layW t off.toNat data := ⟨_, rfl⟩
 rw [← hu] at hs
 have hul : u.now.length = max t.now.length (off.toNat + data.length) := by rw [hu, layW_len]
 have husz : u.sizes = t.sizes := by rw [hu]; unfold layW; split <;> rfl
 have husz2 : u.sizes.length = t.sizes.length := by rw [husz]
 obtain ⟨⟨v1, v2, v3, v4, ps⟩, hps, hs⟩ := refA_open hs
 dsimp only at hps hs
 obtain ⟨a1, c1, rfl, hc1⟩ := slB_shape (hs.take .k1)
 obtain ⟨a2, c2, rfl, hc2⟩ := slB_shape (hs.take .k2)
 obtain ⟨a3, c3, rfl⟩ := sl_shape (hs.take .k3)
 obtain ⟨a4, c4, rfl⟩ := sl_shape (hs.take .k5)
 refine ⟨_, rfl, ?_⟩; clear hf a; intro a hf
 refine s_nil ?_
 refine then_n ?_
 refine wp_seq ?_
 refine wp_seq ?_
 refine wp_region_lit ?_
 refine s_m hf rfl ?_; clear hf a; intro a hf
 refine s_v hf (x_nilCheck (hf.eval rfl)) ?_; clear hf a; intro a hf
 refine s_v hf (x_fieldAddr fo88_1 (hf.eval rfl)) ?_; clear hf a; intro a hf
 refine s_r hf (x_load sc22 (hf.eval rfl) (by apply hs.cell <;> repeat constructor)) ?_; clear hf a; intro a hf
 refine s_v hf (x_len Tryz.underlying22 (hf.eval rfl)) ?_; clear hf a; intro a hf
 refine s_m hf rfl ?_; clear hf a; intro a hf
 refine s_v hf (x_bin (hf.eval rfl) (hf.eval rfl) (r_ne _ _ _ _)) ?_; clear hf a; intro a hf
 refine s_nil ?_
 refine then_n ?_
 refine c_cond hf rfl (fun hi7 => ?_) (fun hi7 => ?_)
 ·simp only [zd1, zd2, zd3, zd4, zd5, zd6, zd7] at hi7
  refine c_draw hs (fun w' => w'.cell? ⟨p, 4, none⟩ = some (.slice a4 u.sizes.length c4)) [.held, .held, .held, .held, .held, .held, .held, .held, .read, .held, .eff, .eff, .held, .held, .fin] (by kernel_rfl) (by kernel_rfl) (fun w' _ hs => hs.cell (k := 4) .k0 rfl) ?_
  clear hs; intro w hs hC hw
  refine m_held hf rfl (fun w' _ => x_move (hf.eval rfl) w') ?_; clear hf a; intro a hf
  refine m_held hf rfl (fun w' _ => x_move (hf.eval rfl) w') ?_; clear hf a; intro a hf
  refine m_held hf rfl (fun w' _ => x_nilCheck (hf.eval rfl) w') ?_; clear hf a; intro a hf
  refine m_held hf rfl (fun w' _ => x_fieldAddr fo88_4 (hf.eval rfl) w') ?_; clear hf a; intro a hf
  refine m_held hf rfl (fun w' hc => x_load sc62 (hf.eval rfl) hc) ?_; clear hf a; intro a hf
  refine m_held hf rfl (fun w' _ => x_move (hf.eval rfl) w') ?_; clear hf a; intro a hf
  refine m_held hf rfl (fun w' _ => x_nilCheck (hf.eval rfl) w') ?_; clear hf a; intro a hf
  refine m_held hf rfl (fun w' _ => x_fieldAddr fo88_1 (hf.eval rfl) w') ?_; clear hf a; intro a hf
  refine m_read hf rfl (x_load sc22 (hf.eval rfl) (by apply hs.cell <;> repeat constructor)) ?_; clear hf a; intro a hf
  refine m_held hf rfl (fun w' _ => x_len Tryz.underlying22 (hf.eval rfl) w') ?_; clear hf a; intro a hf
  refine m_eff hf rfl (y_lit (xs := [.tmp 89]) hs sl62 (hf.evals rfl) rfl (by simp [Value.cells]) (by decide) ?_); clear hf hs a; intro b2 w hs; refine ⟨hs.cell (k := 4) .k1 rfl, ?_⟩; intro a hf
  refine m_eff hf rfl (y_append (n := u.sizes.length) (m := 1) (ys := [.int .i64 (u.now.length : Int)]) hs sl62 (hf.eval rfl) (hf.eval rfl) .k6 (hs.rd .k0 fun h hb => rd_rows hb rfl) (by simp [Value.oneCell']) (by omega) (by rw [maxLen_eq]; omega) ?_); clear hf hs a; intro v2 w hs hv; refine ⟨hs.cell (k := 4) .k2 rfl, ?_⟩; intro a hf
  rw [← szC_append, show u.sizes.length + 1 = (u.sizes ++ [u.now.length]).length by simp] at hs
  obtain ⟨a7, c7, rfl⟩ := sl_shape hs
  refine m_held hf rfl (fun w' _ => x_nilCheck (hf.eval rfl) w') ?_; clear hf a; intro a hf
  refine m_held hf rfl (fun w' _ => x_fieldAddr fo88_4 (hf.eval rfl) w') ?_; clear hf a; intro a hf
  refine m_fin0 hf rfl (y_store hs sc62 (hf.eval rfl) (hf.eval rfl) rfl (by repeat constructor) (by simp) ?_); clear hf hs a; intro w hs; intro a hf
  replace hs := St.give (L := _) (hs.lose .k1) .k5
  refine then_n ?_
  refine wp_seq ?_
  refine wp_region_lit ?_
  refine s_a hf rfl ?_; clear hf a; intro a hf
  refine s_nil ?_
  refine then_n ?_
  refine wp_ret ?_
  refine r_1 hf Tryz.results57 rfl ?_
  rw [wrS_some hi1 (by omega) (by omega) hi4 hd, ← ht, ← hu]
  first | (rw [sized_eq (by omega)]; exact ⟨rfl, refA_close (x := ⟨_, _, _, _, ps⟩) hps hs⟩) | (rw [sized_ne (by omega)]; exact ⟨rfl, refA_close (x := ⟨.slice a1 u.now.length c1, .slice a2 u.dur.length c2, .slice a3 ps.length c3, .slice a7 (u.sizes ++ [u.now.length]).length c7, ps⟩) hps hs⟩)
 simp only [zd1, zd2, zd3, zd4, zd5, zd6, zd7] at hi7
 refine wp_skip ?_
 refine then_n ?_
 refine wp_seq ?_
 refine wp_region_lit ?_
 refine s_a hf rfl ?_; clear hf a; intro a hf
 refine s_nil ?_
 refine then_n ?_
 refine wp_ret ?_
 refine r_1 hf Tryz.results57 rfl ?_
 rw [wrS_some hi1 (by omega) (by omega) hi4 hd, ← ht, ← hu]
 first | (rw [sized_eq (by omega)]; exact ⟨rfl, refA_close (x := ⟨_, _, _, _, ps⟩) hps hs⟩) | (rw [sized_ne (by omega)]; exact ⟨rfl, refA_close (x := ⟨.slice a1 u.now.length c1, .slice a2 u.dur.length c2, .slice a3 ps.length c3, .slice a7 (u.sizes ++ [u.now.length]).length c7, ps⟩) hps hs⟩)
theorem rTrunc_spec (σ : Sig) (w : World) (R : List Asrt) (p : Nat) (s : DS) (hs : St σ w (refA 88 152 5 3 p s :: R)) (n : Int) (ho : DOk s) (hcl : s.calls ≤ 4611686018427387904) (hpc : s.pcs.length ≤ 1099511600000) (hsl : s.sizes.length ≤ 1099511600000) : Calls Tryz.prog 91 #[.pointer (some ⟨p, 0, none⟩), .int .i64 n] w fun e w' => e = .returned (.int .i64 (trS s n).1) ∧ St σ w' (refA 88 152 5 3 p (trS s n).2 :: R) := by
 have hroom0 := ho.room0
 have hroom1 := ho.room1
 have hnow1 := ho.now
 obtain ⟨⟨v1, v2, v3, v4, ps⟩, hps, hs⟩ := refA_open hs
 dsimp only at hps hs
 obtain ⟨a1, c1, rfl, hc1⟩ := slB_shape (hs.take .k1)
 obtain ⟨a2, c2, rfl, hc2⟩ := slB_shape (hs.take .k2)
 obtain ⟨a3, c3, rfl⟩ := sl_shape (hs.take .k3)
 obtain ⟨a4, c4, rfl⟩ := sl_shape (hs.take .k5)
 refine c_enter (N := 74) Tryz.func91 rfl Tryz.ntmps91 (by simp) ?_
 intro a hf
 refine wp_seq ?_
 refine wp_region_lit ?_
 refine s_a hf rfl ?_; clear hf a; intro a hf
 refine s_nil ?_
 refine then_n ?_
 refine wp_seq ?_
 refine wp_seq ?_
 refine wp_region_lit ?_
 refine s_m hf rfl ?_; clear hf a; intro a hf
 refine s_v hf (x_eqNil Tryz.underlying28 (hf.eval rfl) (hf.eval rfl)) ?_; clear hf a; intro a hf
 replace hf := hf.now (k := 7) (v' := .bool false) rfl rfl
 refine s_nil ?_
 refine then_n ?_
 refine c_cond_f hf rfl rfl ?_
 refine wp_skip ?_
 refine then_n ?_
 refine wp_seq ?_
 refine wp_seq ?_
 refine wp_region_lit ?_
 refine s_m hf rfl ?_; clear hf a; intro a hf
 refine s_v hf (x_nilCheck (hf.eval rfl)) ?_; clear hf a; intro a hf
 refine s_v hf (x_fieldAddr fo88_7 (hf.eval rfl)) ?_; clear hf a; intro a hf
 refine s_r hf (x_load sc4 (hf.eval rfl) (by apply hs.cell <;> repeat constructor)) ?_; clear hf a; intro a hf
 refine s_v hf (x_not (hf.eval rfl)) ?_; clear hf a; intro a hf
 refine s_nil ?_
 refine then_n ?_
 refine c_cond hf rfl (fun hi1 => ?_) (fun hi1 => ?_)
 ·simp only [Bool.not_not] at hi1
  refine wp_seq ?_
  refine wp_region_lit ?_
  refine s_a hf rfl ?_; clear hf a; intro a hf
  refine s_nil ?_
  refine then_n ?_
  refine wp_ret ?_
  refine then_r ?_
  refine r_1 hf Tryz.results91 rfl ?_
  rw [trS_dead hi1]
  exact ⟨rfl, refA_close (x := ⟨_, _, _, _, ps⟩) hps hs⟩
 simp only [Bool.not_not] at hi1
 refine wp_skip ?_
 refine then_n ?_
 refine wp_seq ?_
 refine wp_seq ?_
 refine wp_region_lit ?_
 refine s_m hf rfl ?_; clear hf a; intro a hf
 refine s_v hf (x_bin (hf.eval rfl) (hf.eval rfl) (r_lt _ _ _ _)) ?_; clear hf a; intro a hf
 refine s_nil ?_
 refine then_n ?_
 refine c_cond hf rfl (fun hi2 => ?_) (fun hi2 => ?_)
 ·simp only [zd1, zd2, zd3, zd4, zd5, zd6, zd7] at hi2
  refine wp_seq ?_
  refine wp_region_lit ?_
  refine s_a hf rfl ?_; clear hf a; intro a hf
  refine s_nil ?_
  refine then_n ?_
  refine wp_ret ?_
  refine then_r ?_
  refine r_1 hf Tryz.results91 rfl ?_
  rw [trS_neg hi1 (by omega)]
  exact ⟨rfl, refA_close (x := ⟨_, _, _, _, ps⟩) hps hs⟩
 simp only [zd1, zd2, zd3, zd4, zd5, zd6, zd7] at hi2
 refine wp_skip ?_
 refine then_n ?_
 refine wp_seq ?_
 refine wp_seq ?_
 refine wp_region_lit ?_
 refine s_m hf rfl ?_; clear hf a; intro a hf
 refine s_m hf rfl ?_; clear hf a; intro a hf
 refine s_v hf (x_nilCheck (hf.eval rfl)) ?_; clear hf a; intro a hf
 refine s_v hf (x_fieldAddr fo88_0 (hf.eval rfl)) ?_; clear hf a; intro a hf
 refine s_r hf (x_load sc3 (hf.eval rfl) (by apply hs.cell <;> repeat constructor)) ?_; clear hf a; intro a hf
 refine s_v hf (x_bin (hf.eval rfl) (hf.eval rfl) (r_gt _ _ _ _)) ?_; clear hf a; intro a hf
 refine s_nil ?_
 refine then_n ?_
 refine c_cond hf rfl (fun hi3 => ?_) (fun hi3 => ?_)
 ·simp only [zd1, zd2, zd3, zd4, zd5, zd6, zd7] at hi3
  refine wp_seq ?_
  refine wp_region_lit ?_
  refine s_a hf rfl ?_; clear hf a; intro a hf
  refine s_nil ?_
  refine then_n ?_
  refine wp_ret ?_
  refine then_r ?_
  refine r_1 hf Tryz.results91 rfl ?_
  rw [trS_big hi1 (by omega) (by omega)]
  exact ⟨rfl, refA_close (x := ⟨_, _, _, _, ps⟩) hps hs⟩
 simp only [zd1, zd2, zd3, zd4, zd5, zd6, zd7] at hi3
 refine wp_skip ?_
 refine then_n ?_
 refine wp_seq ?_
 refine wp_region_lit ?_
 refine s_m hf rfl ?_; clear hf a; intro a hf
 replace hs := refA_close (s := s) (x := ⟨_, _, _, _, ps⟩) hps hs
 refine s_do hf rfl (y_call (hf.eval rfl) (hf.evals rfl) Tryz.call40 ((carried_spec _ _ _ p s hs ho.fuse.2 ho.fuse.1 hcl).mono ?_))
 rintro e w1 ⟨rfl, hs⟩
 obtain ⟨t, ht⟩ : ∃ t, t = spent s := ⟨_, rfl⟩
 rw [← ht] at hs
 obtain ⟨htn, htr, htd, htp, hts⟩ := spent_now s
 rw [← ht] at htn htr htd htp hts
 have hto := spent_ok ho
 rw [← ht] at hto
 have htn2 : t.now.length = s.now.length := by rw [htn]
 have htp2 : t.pcs.length = s.pcs.length := by rw [htp]
 have hts2 : t.sizes.length = s.sizes.length := by rw [hts]
 refine ⟨_, rfl, ?_⟩; clear hf a; intro a hf
 refine s_a hf rfl ?_; clear hf a; intro a hf
 refine s_nil ?_
 refine then_n ?_
 refine wp_seq ?_
 refine wp_seq ?_
 refine wp_region_lit ?_
 refine s_m hf rfl ?_; clear hf a; intro a hf
 refine s_v hf (x_not (hf.eval rfl)) ?_; clear hf a; intro a hf
 refine s_nil ?_
 refine then_n ?_
 refine c_cond hf rfl (fun hi4 => ?_) (fun hi4 => ?_)
 ·simp only [Bool.not_eq_true', Bool.not_eq_false', decide_eq_true_eq, decide_eq_false_iff_not, ne_eq, Decidable.not_not] at hi4
  refine wp_seq ?_
  refine wp_region_lit ?_
  refine s_a hf rfl ?_; clear hf a; intro a hf
  refine s_nil ?_
  refine then_n ?_
  refine wp_ret ?_
  refine then_r ?_
  refine r_1 hf Tryz.results91 rfl ?_
  rw [trS_fuse hi1 (by omega) (by omega) hi4, ← ht]
  exact ⟨rfl, hs⟩
 simp only [Bool.not_eq_true', Bool.not_eq_false', decide_eq_true_eq, decide_eq_false_iff_not, ne_eq, Decidable.not_not] at hi4
 obtain ⟨⟨v1, v2, v3, v4, ps⟩, hps, hs⟩ := refA_open hs
 dsimp only at hps hs
 obtain ⟨a1, c1, rfl, hc1⟩ := slB_shape (hs.take .k1)
 obtain ⟨a2, c2, rfl, hc2⟩ := slB_shape (hs.take .k2)
 obtain ⟨a3, c3, rfl⟩ := sl_shape (hs.take .k3)
 obtain ⟨a4, c4, rfl⟩ := sl_shape (hs.take .k5)
 refine wp_skip ?_
 refine then_n ?_
 refine wp_seq ?_
 refine wp_seq ?_
 refine wp_region_lit ?_
 refine s_m hf rfl ?_; clear hf a; intro a hf
 refine s_m hf rfl ?_; clear hf a; intro a hf
 refine s_v hf (x_nilCheck (hf.eval rfl)) ?_; clear hf a; intro a hf
 refine s_v hf (x_fieldAddr fo88_1 (hf.eval rfl)) ?_; clear hf a; intro a hf
 refine s_r hf (x_load sc22 (hf.eval rfl) (by apply hs.cell <;> repeat constructor)) ?_; clear hf a; intro a hf
 refine s_v hf (x_len Tryz.underlying22 (hf.eval rfl)) ?_; clear hf a; intro a hf
 refine s_v hf (x_bin (hf.eval rfl) (hf.eval rfl) (r_eq _ _ _ _)) ?_; clear hf a; intro a hf
 refine s_nil ?_
 refine then_n ?_
 refine c_cond hf rfl (fun hi5 => ?_) (fun hi5 => ?_)
 ·simp only [zd1, zd2, zd3, zd4, zd5, zd6, zd7] at hi5
  refine wp_seq ?_
  refine wp_region_lit ?_
  refine s_a hf rfl ?_; clear hf a; intro a hf
  refine s_nil ?_
  refine then_n ?_
  refine wp_ret ?_
  refine then_r ?_
  refine r_1 hf Tryz.results91 rfl ?_
  rw [trS_some hi1 (by omega) (by omega) hi4, ← ht]
  have htn9 : trN t n.toNat = t := by unfold trN; rw [trC_in (by omega), List.take_of_length_le (by omega)]
  rw [htn9, sized_eq (by omega)]
  exact ⟨rfl, refA_close (x := ⟨_, _, _, _, ps⟩) hps hs⟩
 simp only [zd1, zd2, zd3, zd4, zd5, zd6, zd7] at hi5
 refine wp_skip ?_
 refine then_n ?_
 refine wp_seq ?_
 refine wp_seq ?_
 refine wp_region_lit ?_
 refine s_m hf rfl ?_; clear hf a; intro a hf
 refine s_m hf rfl ?_; clear hf a; intro a hf
 refine s_v hf (x_nilCheck (hf.eval rfl)) ?_; clear hf a; intro a hf
 refine s_v hf (x_fieldAddr fo88_1 (hf.eval rfl)) ?_; clear hf a; intro a hf
 refine s_r hf (x_load sc22 (hf.eval rfl) (by apply hs.cell <;> repeat constructor)) ?_; clear hf a; intro a hf
 refine s_v hf (x_len Tryz.underlying22 (hf.eval rfl)) ?_; clear hf a; intro a hf
 refine s_v hf (x_bin (hf.eval rfl) (hf.eval rfl) (r_gt _ _ _ _)) ?_; clear hf a; intro a hf
 refine s_nil ?_
 refine then_n ?_
 refine c_cond hf rfl (fun hi6 => ?_) (fun hi6 => ?_)
 ·simp only [zd1, zd2, zd3, zd4, zd5, zd6, zd7] at hi6
  refine c_draw hs (fun w' => w'.cell? ⟨p, 1, none⟩ = some (.slice a1 t.now.length c1)) [.held, .held, .held, .held, .held, .held, .held, .held, .held, .held, .read, .held, .held, .eff, .fin] (by kernel_rfl) (by kernel_rfl) (fun w' _ hs => hs.cell (k := 1) .k0 rfl) ?_
  clear hs; intro w hs hC hw
  refine m_held hf rfl (fun w' _ => x_move (hf.eval rfl) w') ?_; clear hf a; intro a hf
  refine m_held hf rfl (fun w' _ => x_move (hf.eval rfl) w') ?_; clear hf a; intro a hf
  refine m_held hf rfl (fun w' _ => x_nilCheck (hf.eval rfl) w') ?_; clear hf a; intro a hf
  refine m_held hf rfl (fun w' _ => x_fieldAddr fo88_1 (hf.eval rfl) w') ?_; clear hf a; intro a hf
  refine m_held hf rfl (fun w' hc => x_load sc22 (hf.eval rfl) hc) ?_; clear hf a; intro a hf
  refine m_held hf rfl (fun w' _ => x_len Tryz.underlying22 (hf.eval rfl) w') ?_; clear hf a; intro a hf
  refine m_held hf rfl (fun w' _ => x_move (hf.eval rfl) w') ?_; clear hf a; intro a hf
  refine m_held hf rfl (fun w' _ => x_move (hf.eval rfl) w') ?_; clear hf a; intro a hf
  refine m_held hf rfl (fun w' _ => x_nilCheck (hf.eval rfl) w') ?_; clear hf a; intro a hf
  refine m_held hf rfl (fun w' _ => x_fieldAddr fo88_1 (hf.eval rfl) w') ?_; clear hf a; intro a hf
  refine m_read hf rfl (x_load sc22 (hf.eval rfl) (by apply hs.cell <;> repeat constructor)) ?_; clear hf a; intro a hf
  refine m_held hf rfl (fun w' _ => x_len Tryz.underlying22 (hf.eval rfl) w') ?_; clear hf a; intro a hf
  refine m_held hf rfl (fun w' _ => x_bin (hf.eval rfl) (hf.eval rfl) (r_subi _ (by omega) (by omega)) w') ?_; clear hf a; intro a hf
  refine m_eff hf rfl (y_makeB (m := n.toNat - t.now.length) (c := n.toNat - t.now.length) hs sl22 (hf.eval rfl) (hf.eval rfl) (by omega) (by omega) (Nat.le_refl _) (by omega) ?_); clear hf hs a; intro b w hs; refine ⟨hs.cell (k := 1) .k1 rfl, ?_⟩; intro a hf
  replace hs := hs.ofBb (n := (List.replicate (n.toNat - t.now.length) (0 : UInt8)).length) rfl (by simp; omega)
  replace hf := hf.now (k := 52) (v' := .slice (some ⟨b, 0, none⟩) (List.replicate (n.toNat - t.now.length) (0 : UInt8)).length (List.replicate (n.toNat - t.now.length) (0 : UInt8)).length) rfl (by simp)
  replace hs := St.give (L := _) hs .k6
  replace hs := refA_close (s := t) (x := ⟨_, _, _, _, ps⟩) hps hs
  refine m_fin hf rfl (y_call (hf.eval rfl) (hf.evals rfl) Tryz.call90 ((rlay_spec σ _ _ p t hs t.now.length _ _ (List.replicate (n.toNat - t.now.length) (0 : UInt8)) (Rdy.own .k0) (by intro h9; have h8 := congrArg List.length h9; simp at h8; omega) (Nat.le_refl _) (by simp; omega) (by omega) (by omega)).mono ?_))
  rintro e w1 ⟨rfl, hs⟩
  replace hs := hs.lose .k1
  rw [← trC_up (by omega)] at hs
  have hle9 : (trC t n.toNat).now.length ≤ n.toNat := by rw [trC_up (by omega), layS_len]; simp; omega
  have e9 : trC t n.toNat = trN t n.toNat := by unfold trN; rw [List.take_of_length_le hle9]
  rw [e9] at hs
  obtain ⟨u, hu⟩ : ∃ u, u = trN t n.toNat := ⟨_, rfl⟩
  rw [← hu] at hs
  have husz : u.sizes = t.sizes := by rw [hu]; unfold trN trC; split <;> rfl
  have husz2 : u.sizes.length = t.sizes.length := by rw [husz]
  have hul : u.now.length = n.toNat := by rw [hu, trN_len]
  obtain ⟨⟨v1, v2, v3, v4, ps⟩, hps, hs⟩ := refA_open hs
  dsimp only at hps hs
  obtain ⟨a1, c1, rfl, hc1⟩ := slB_shape (hs.take .k1)
  obtain ⟨a2, c2, rfl, hc2⟩ := slB_shape (hs.take .k2)
  obtain ⟨a3, c3, rfl⟩ := sl_shape (hs.take .k3)
  obtain ⟨a4, c4, rfl⟩ := sl_shape (hs.take .k5)
  refine ⟨_, rfl, ?_⟩; clear hf a; intro a hf
  refine then_n ?_
  refine wp_seq ?_
  refine wp_region_lit ?_
  refine s_m hf rfl ?_; clear hf a; intro a hf
  refine s_m hf rfl ?_; clear hf a; intro a hf
  refine s_v hf (x_nilCheck (hf.eval rfl)) ?_; clear hf a; intro a hf
  refine s_v hf (x_fieldAddr fo88_4 (hf.eval rfl)) ?_; clear hf a; intro a hf
  refine s_r hf (x_load sc62 (hf.eval rfl) (by apply hs.cell <;> repeat constructor)) ?_; clear hf a; intro a hf
  refine s_m hf rfl ?_; clear hf a; intro a hf
  replace hf := hf.now (k := 69) (v' := .int .i64 (u.now.length : Int)) rfl (by rw [hul]; congr 1; omega)
  refine s_do hf rfl (y_lit (xs := [.tmp 69]) hs sl62 (hf.evals rfl) rfl (by simp [Value.cells]) (by decide) ?_); clear hf hs a; intro b2 w hs a hf
  refine s_do hf rfl (y_append (n := u.sizes.length) (m := 1) (ys := [.int .i64 (u.now.length : Int)]) hs sl62 (hf.eval rfl) (hf.eval rfl) .k6 (hs.rd .k0 fun h hb => rd_rows hb rfl) (by simp [Value.oneCell']) (by omega) (by rw [maxLen_eq]; omega) ?_); clear hf hs a; intro v2 w hs hv a hf
  rw [← szC_append, show u.sizes.length + 1 = (u.sizes ++ [u.now.length]).length by simp] at hs
  obtain ⟨a7, c7, rfl⟩ := sl_shape hs
  refine s_v hf (x_nilCheck (hf.eval rfl)) ?_; clear hf a; intro a hf
  refine s_v hf (x_fieldAddr fo88_4 (hf.eval rfl)) ?_; clear hf a; intro a hf
  refine s_do0 hf rfl (y_store hs sc62 (hf.eval rfl) (hf.eval rfl) rfl (by repeat constructor) (by simp) ?_); clear hf hs a; intro w hs a hf
  replace hs := St.give (L := _) (hs.lose .k1) .k5
  refine s_nil ?_
  refine then_n ?_
  refine wp_seq ?_
  refine wp_region_lit ?_
  refine s_a hf rfl ?_; clear hf a; intro a hf
  refine s_nil ?_
  refine then_n ?_
  refine wp_ret ?_
  refine r_1 hf Tryz.results91 rfl ?_
  rw [trS_some hi1 (by omega) (by omega) hi4, ← ht, ← hu, sized_ne (by omega)]
  exact ⟨rfl, refA_close (x := ⟨.slice a1 u.now.length c1, .slice a2 u.dur.length c2, .slice a3 ps.length c3, .slice a7 (u.sizes ++ [u.now.length]).length c7, ps⟩) hps hs⟩
 simp only [zd1, zd2, zd3, zd4, zd5, zd6, zd7] at hi6
 refine wp_region_lit ?_
 refine s_m hf rfl ?_; clear hf a; intro a hf
 refine s_m hf rfl ?_; clear hf a; intro a hf
 refine s_v hf (x_nilCheck (hf.eval rfl)) ?_; clear hf a; intro a hf
 refine s_v hf (x_fieldAddr fo88_1 (hf.eval rfl)) ?_; clear hf a; intro a hf
 refine s_r hf (x_load sc22 (hf.eval rfl) (by apply hs.cell <;> repeat constructor)) ?_; clear hf a; intro a hf
 refine s_m hf rfl ?_; clear hf a; intro a hf
 refine s_v hf (x_slice_hi sl22 (hf.eval rfl) (hf.eval rfl)  (by omega) (by omega) ) ?_; clear hf a; intro a hf
 have htk : (t.now.take n.toNat).length = n.toNat := by rw [List.length_take]; omega
 replace hf := hf.now (k := 60) (v' := .slice a1 (t.now.take n.toNat).length c1) rfl (by rw [htk])
 refine s_do hf rfl (y_call (hf.eval rfl) (hf.evals rfl) Tryz.call38 ((rclone_spec _ _ _ (t.now.take n.toNat) (by rw [htk]; exact RdB.pre (hs.rdB .k1 fun h => slB_rd) rfl (by omega)) (by omega)).mono ?_))
 rintro e w1 ⟨e1, fe1, rfl, hj⟩
 replace hs := hs.join hj
 simp only [List.cons_append, List.nil_append] at hs
 refine ⟨_, rfl, ?_⟩; clear hf a; intro a hf
 refine s_v hf (x_nilCheck (hf.eval rfl)) ?_; clear hf a; intro a hf
 refine s_v hf (x_fieldAddr fo88_1 (hf.eval rfl)) ?_; clear hf a; intro a hf
 refine s_do0 hf rfl (y_store hs sc22 (hf.eval rfl) (hf.eval rfl) rfl (by repeat constructor) (by simp) ?_); clear hf hs a; intro w hs a hf
 replace hs := (hs.lose .k2).take .k1
 replace hs := refA_close (s := { t with now := t.now.take n.toNat }) (x := ⟨.slice e1 (t.now.take n.toNat).length fe1, .slice a2 t.dur.length c2, .slice a3 ps.length c3, .slice a4 t.sizes.length c4, ps⟩) hps hs
 have e9 : { t with now := t.now.take n.toNat } = trN t n.toNat := by unfold trN; rw [trC_in (by omega)]
 rw [e9] at hs
 obtain ⟨u, hu⟩ : ∃ u, u = trN t n.toNat := ⟨_, rfl⟩
 rw [← hu] at hs
 have husz : u.sizes = t.sizes := by rw [hu]; unfold trN trC; split <;> rfl
 have husz2 : u.sizes.length = t.sizes.length := by rw [husz]
 have hul : u.now.length = n.toNat := by rw [hu, trN_len]
 obtain ⟨⟨v1, v2, v3, v4, ps⟩, hps, hs⟩ := refA_open hs
 dsimp only at hps hs
 obtain ⟨a1, c1, rfl, hc1⟩ := slB_shape (hs.take .k1)
 obtain ⟨a2, c2, rfl, hc2⟩ := slB_shape (hs.take .k2)
 obtain ⟨a3, c3, rfl⟩ := sl_shape (hs.take .k3)
 obtain ⟨a4, c4, rfl⟩ := sl_shape (hs.take .k5)
 refine s_nil ?_
 refine then_n ?_
 refine wp_seq ?_
 refine wp_region_lit ?_
 refine s_m hf rfl ?_; clear hf a; intro a hf
 refine s_m hf rfl ?_; clear hf a; intro a hf
 refine s_v hf (x_nilCheck (hf.eval rfl)) ?_; clear hf a; intro a hf
 refine s_v hf (x_fieldAddr fo88_4 (hf.eval rfl)) ?_; clear hf a; intro a hf
 refine s_r hf (x_load sc62 (hf.eval rfl) (by apply hs.cell <;> repeat constructor)) ?_; clear hf a; intro a hf
 refine s_m hf rfl ?_; clear hf a; intro a hf
 replace hf := hf.now (k := 69) (v' := .int .i64 (u.now.length : Int)) rfl (by rw [hul]; congr 1; omega)
 refine s_do hf rfl (y_lit (xs := [.tmp 69]) hs sl62 (hf.evals rfl) rfl (by simp [Value.cells]) (by decide) ?_); clear hf hs a; intro b2 w hs a hf
 refine s_do hf rfl (y_append (n := u.sizes.length) (m := 1) (ys := [.int .i64 (u.now.length : Int)]) hs sl62 (hf.eval rfl) (hf.eval rfl) .k6 (hs.rd .k0 fun h hb => rd_rows hb rfl) (by simp [Value.oneCell']) (by omega) (by rw [maxLen_eq]; omega) ?_); clear hf hs a; intro v2 w hs hv a hf
 rw [← szC_append, show u.sizes.length + 1 = (u.sizes ++ [u.now.length]).length by simp] at hs
 obtain ⟨a7, c7, rfl⟩ := sl_shape hs
 refine s_v hf (x_nilCheck (hf.eval rfl)) ?_; clear hf a; intro a hf
 refine s_v hf (x_fieldAddr fo88_4 (hf.eval rfl)) ?_; clear hf a; intro a hf
 refine s_do0 hf rfl (y_store hs sc62 (hf.eval rfl) (hf.eval rfl) rfl (by repeat constructor) (by simp) ?_); clear hf hs a; intro w hs a hf
 replace hs := St.give (L := _) (hs.lose .k1) .k5
 refine s_nil ?_
 refine then_n ?_
 refine wp_seq ?_
 refine wp_region_lit ?_
 refine s_a hf rfl ?_; clear hf a; intro a hf
 refine s_nil ?_
 refine then_n ?_
 refine wp_ret ?_
 refine r_1 hf Tryz.results91 rfl ?_
 rw [trS_some hi1 (by omega) (by omega) hi4, ← ht, ← hu, sized_ne (by omega)]
 exact ⟨rfl, refA_close (x := ⟨.slice a1 u.now.length c1, .slice a2 u.dur.length c2, .slice a3 ps.length c3, .slice a7 (u.sizes ++ [u.now.length]).length c7, ps⟩) hps hs⟩
theorem rSync_spec (σ : Sig) (w : World) (R : List Asrt) (p : Nat) (s : DS) (hs : St σ w (refA 88 152 5 3 p s :: R)) (ho : DOk s) (hcl : s.calls ≤ 4611686018427387904) (hpc : s.pcs.length ≤ 1099511600000) (hsl : s.sizes.length ≤ 1099511600000) : Calls Tryz.prog 12 #[.pointer (some ⟨p, 0, none⟩)] w fun e w' => e = .returned (.int .i64 (syS s).1) ∧ St σ w' (refA 88 152 5 3 p (syS s).2 :: R) := by
 have hroom1 := ho.room1
 have hnow1 := ho.now
 obtain ⟨⟨v1, v2, v3, v4, ps⟩, hps, hs⟩ := refA_open hs
 dsimp only at hps hs
 obtain ⟨a1, c1, rfl, hc1⟩ := slB_shape (hs.take .k1)
 obtain ⟨a2, c2, rfl, hc2⟩ := slB_shape (hs.take .k2)
 obtain ⟨a3, c3, rfl⟩ := sl_shape (hs.take .k3)
 obtain ⟨a4, c4, rfl⟩ := sl_shape (hs.take .k5)
 refine c_enter (N := 29) Tryz.func12 rfl Tryz.ntmps12 (by simp) ?_
 intro a hf
 refine wp_seq ?_
 refine wp_region_lit ?_
 refine s_a hf rfl ?_; clear hf a; intro a hf
 refine s_nil ?_
 refine then_n ?_
 refine wp_seq ?_
 refine wp_seq ?_
 refine wp_region_lit ?_
 refine s_m hf rfl ?_; clear hf a; intro a hf
 refine s_v hf (x_eqNil Tryz.underlying28 (hf.eval rfl) (hf.eval rfl)) ?_; clear hf a; intro a hf
 replace hf := hf.now (k := 5) (v' := .bool false) rfl rfl
 refine s_nil ?_
 refine then_n ?_
 refine c_cond_f hf rfl rfl ?_
 refine wp_skip ?_
 refine then_n ?_
 refine wp_seq ?_
 refine wp_seq ?_
 refine wp_region_lit ?_
 refine s_m hf rfl ?_; clear hf a; intro a hf
 refine s_v hf (x_nilCheck (hf.eval rfl)) ?_; clear hf a; intro a hf
 refine s_v hf (x_fieldAddr fo88_7 (hf.eval rfl)) ?_; clear hf a; intro a hf
 refine s_r hf (x_load sc4 (hf.eval rfl) (by apply hs.cell <;> repeat constructor)) ?_; clear hf a; intro a hf
 refine s_v hf (x_not (hf.eval rfl)) ?_; clear hf a; intro a hf
 refine s_nil ?_
 refine then_n ?_
 refine c_cond hf rfl (fun hi1 => ?_) (fun hi1 => ?_)
 ·simp only [Bool.not_not] at hi1
  refine wp_seq ?_
  refine wp_region_lit ?_
  refine s_a hf rfl ?_; clear hf a; intro a hf
  refine s_nil ?_
  refine then_n ?_
  refine wp_ret ?_
  refine then_r ?_
  refine r_1 hf Tryz.results12 rfl ?_
  rw [syS_dead hi1]
  exact ⟨rfl, refA_close (x := ⟨_, _, _, _, ps⟩) hps hs⟩
 simp only [Bool.not_not] at hi1
 refine wp_skip ?_
 refine then_n ?_
 refine wp_seq ?_
 refine wp_region_lit ?_
 refine s_m hf rfl ?_; clear hf a; intro a hf
 replace hs := refA_close (s := s) (x := ⟨_, _, _, _, ps⟩) hps hs
 refine s_do hf rfl (y_call (hf.eval rfl) (hf.evals rfl) Tryz.call40 ((carried_spec _ _ _ p s hs ho.fuse.2 ho.fuse.1 hcl).mono ?_))
 rintro e w1 ⟨rfl, hs⟩
 obtain ⟨t, ht⟩ : ∃ t, t = spent s := ⟨_, rfl⟩
 rw [← ht] at hs
 obtain ⟨htn, htr, htd, htp, hts⟩ := spent_now s
 rw [← ht] at htn htr htd htp hts
 have hto := spent_ok ho
 rw [← ht] at hto
 have htn2 : t.now.length = s.now.length := by rw [htn]
 have htp2 : t.pcs.length = s.pcs.length := by rw [htp]
 have hts2 : t.sizes.length = s.sizes.length := by rw [hts]
 refine ⟨_, rfl, ?_⟩; clear hf a; intro a hf
 refine s_a hf rfl ?_; clear hf a; intro a hf
 refine s_nil ?_
 refine then_n ?_
 refine wp_seq ?_
 refine wp_seq ?_
 refine wp_region_lit ?_
 refine s_m hf rfl ?_; clear hf a; intro a hf
 refine s_v hf (x_not (hf.eval rfl)) ?_; clear hf a; intro a hf
 refine s_nil ?_
 refine then_n ?_
 refine c_cond hf rfl (fun hi2 => ?_) (fun hi2 => ?_)
 ·simp only [Bool.not_eq_true', Bool.not_eq_false', decide_eq_true_eq, decide_eq_false_iff_not, ne_eq, Decidable.not_not] at hi2
  refine wp_seq ?_
  refine wp_region_lit ?_
  refine s_a hf rfl ?_; clear hf a; intro a hf
  refine s_nil ?_
  refine then_n ?_
  refine wp_ret ?_
  refine then_r ?_
  refine r_1 hf Tryz.results12 rfl ?_
  rw [syS_fuse hi1 hi2, ← ht]
  exact ⟨rfl, hs⟩
 simp only [Bool.not_eq_true', Bool.not_eq_false', decide_eq_true_eq, decide_eq_false_iff_not, ne_eq, Decidable.not_not] at hi2
 obtain ⟨⟨v1, v2, v3, v4, ps⟩, hps, hs⟩ := refA_open hs
 dsimp only at hps hs
 obtain ⟨a1, c1, rfl, hc1⟩ := slB_shape (hs.take .k1)
 obtain ⟨a2, c2, rfl, hc2⟩ := slB_shape (hs.take .k2)
 obtain ⟨a3, c3, rfl⟩ := sl_shape (hs.take .k3)
 obtain ⟨a4, c4, rfl⟩ := sl_shape (hs.take .k5)
 refine wp_skip ?_
 refine then_n ?_
 refine wp_seq ?_
 refine wp_region_lit ?_
 refine s_m hf rfl ?_; clear hf a; intro a hf
 refine s_m hf rfl ?_; clear hf a; intro a hf
 refine s_v hf (x_nilCheck (hf.eval rfl)) ?_; clear hf a; intro a hf
 refine s_v hf (x_fieldAddr fo88_1 (hf.eval rfl)) ?_; clear hf a; intro a hf
 refine s_r hf (x_load sc22 (hf.eval rfl) (by apply hs.cell <;> repeat constructor)) ?_; clear hf a; intro a hf
 refine s_do hf rfl (y_call (hf.eval rfl) (hf.evals rfl) Tryz.call38 ((rclone_spec _ _ _ t.now (hs.rdB .k1 fun h => slB_rd) (by omega)).mono ?_))
 rintro e w1 ⟨e1, fe1, rfl, hj⟩
 replace hs := hs.join hj
 simp only [List.cons_append, List.nil_append] at hs
 refine ⟨_, rfl, ?_⟩; clear hf a; intro a hf
 refine s_v hf (x_nilCheck (hf.eval rfl)) ?_; clear hf a; intro a hf
 refine s_v hf (x_fieldAddr fo88_2 (hf.eval rfl)) ?_; clear hf a; intro a hf
 refine s_do0 hf rfl (y_store hs sc22 (hf.eval rfl) (hf.eval rfl) rfl (by repeat constructor) (by simp) ?_); clear hf hs a; intro w hs a hf
 replace hs := (((hs.lose .k3).take .k2).take .k2)
 refine s_nil ?_
 refine then_n ?_
 refine wp_seq ?_
 refine wp_region_lit ?_
 refine s_m hf rfl ?_; clear hf a; intro a hf
 refine s_v hf (x_nilCheck (hf.eval rfl)) ?_; clear hf a; intro a hf
 refine s_v hf (x_fieldAddr fo88_3 (hf.eval rfl)) ?_; clear hf a; intro a hf
 refine s_do0 hf rfl (y_store hs sc86 (hf.eval rfl) (hf.eval rfl) rfl (by repeat constructor) (by simp) ?_); clear hf hs a; intro w hs a hf
 refine s_nil ?_
 refine then_n ?_
 refine wp_seq ?_
 refine wp_region_lit ?_
 refine s_m hf rfl ?_; clear hf a; intro a hf
 refine s_v hf (x_nilCheck (hf.eval rfl)) ?_; clear hf a; intro a hf
 refine s_v hf (x_fieldAddr fo88_4 (hf.eval rfl)) ?_; clear hf a; intro a hf
 refine s_do0 hf rfl (y_store hs sc62 (hf.eval rfl) (hf.eval rfl) rfl (by repeat constructor) (by simp) ?_); clear hf hs a; intro w hs a hf
 refine s_nil ?_
 refine then_n ?_
 refine wp_seq ?_
 refine wp_region_lit ?_
 refine s_a hf rfl ?_; clear hf a; intro a hf
 refine s_nil ?_
 refine then_n ?_
 refine wp_ret ?_
 refine r_1 hf Tryz.results12 rfl ?_
 rw [syS_some hi1 hi2, ← ht, ← htn]
 replace hs := ((hs.lose .k3).lose .k3).lose .k3
 replace hs := St.give (L := _) (hs.emp (A := sl 152 3 (.slice none 0 0) 0 []) (fun _ => ⟨rfl, .inl ⟨rfl, rfl⟩⟩)) .k3
 replace hs := St.give (L := _) (hs.emp (A := datA 5 []) (fun _ => trivial)) .k4
 replace hs := St.give (L := _) (hs.emp (A := sl 3 1 (.slice none 0 0) 0 []) (fun _ => ⟨rfl, .inl ⟨rfl, rfl⟩⟩)) .k5
 exact ⟨rfl, refA_close (s := { t with dur := t.now, pcs := [], sizes := [] }) (x := ⟨.slice a1 t.now.length c1, .slice e1 t.now.length fe1, .slice none 0 0, .slice none 0 0, []⟩) rfl hs⟩
end Go.Proofs.YtehakfbfjpolfaaGreatDoor

namespace Go.Proofs.YtehakfbfjpolfaaGreatDoor
open Go Vw
theorem wlk_next {old : Int} {body : List UInt8} {N : Nat} : ∀ {j k e t : Nat}, wlk old body k = some (e, t) → k ≤ j → j < N → (∃ p, wlk old body N = some p) → e ≤ spA body j ∧ ∀ e' t', wlk old body j = some (e', t') → e ≤ e' := by
  intro j
  induction j with
  | zero =>
    intro k e t h hk hj ⟨p, hp⟩
    obtain rfl : k = 0 := by omega
    injection h with h; injection h with h1 h2
    subst h1
    exact ⟨Nat.zero_le _, fun _ _ _ => Nat.zero_le _⟩
  | succ j ih =>
    intro k e t h hk hj ⟨p, hp⟩
    obtain ⟨pe, pt⟩ := p
    obtain ⟨e1, t1, h1, _⟩ := wlk_mono hp (j + 1) (by omega)
    obtain ⟨e2, t2, h2, _⟩ := wlk_mono hp (j + 1 + 1) (by omega)
    have hA : e1 ≤ spA body (j + 1) := by
      by_cases hb : spN body (j + 1) < 1 ∨ spA body (j + 1) < e1 ∨ old < ((spA body (j + 1) + spN body (j + 1) : Nat) : Int)
      · rw [wlk_bad h1 hb] at h2; cases h2
      · omega
    have hE : e ≤ e1 := by
      by_cases hkj : k = j + 1
      · subst hkj; rw [h] at h1; injection h1 with h1; injection h1 with h1 _; omega
      · obtain ⟨e0, t0, h0, _⟩ := wlk_mono hp j (by omega)
        have h9 := (ih h (by omega) (by omega) ⟨_, hp⟩).2 e0 t0 h0
        by_cases hb : spN body j < 1 ∨ spA body j < e0 ∨ old < ((spA body j + spN body j : Nat) : Int)
        · rw [wlk_bad h0 hb] at h1; cases h1
        · rw [wlk_good h0 hb] at h1
          injection h1 with h1; injection h1 with h1 _
          omega
    exact ⟨by omega, fun e' t' h' => by rw [h1] at h'; injection h' with h'; injection h' with h' _; omega⟩
theorem bk_slice {s : Sl} {body : List UInt8} (h : bkOk s body = true) {N : Nat} (hN : s.2.2.2.2.1 = (N : Int)) {i : Nat} (hi : i < N) (X : List UInt8) (hX : s.2.2.1 ≤ (X.length : Int)) :
    ((putPs X (bkL s body N)).drop (spA body i)).take (spN body i) = (body.drop (8 * s.2.2.2.2.1.toNat + totB s.2.2.1 body i)).take (spN body i) := by
  obtain ⟨b1, b2, b3, b4⟩ := bk_span h hN hi
  have hNt : s.2.2.2.2.1.toNat = N := by omega
  have hw : ∃ p, wlk s.2.2.1 body N = some p := by
    unfold bkOk at h
    rw [hNt] at h
    cases hw : wlk s.2.2.1 body N with
    | none => rw [hw] at h; simp at h
    | some p => exact ⟨p, rfl⟩
  have hdl : ((body.drop (8 * s.2.2.2.2.1.toNat + totB s.2.2.1 body i)).take (spN body i)).length = spN body i := by
    rw [hNt, List.length_take, List.length_drop]; omega
  have hbl : bkL s body N = bkL s body i ++ (spA body i, (body.drop (8 * s.2.2.2.2.1.toNat + totB s.2.2.1 body i)).take (spN body i)) :: (bkL s body N).drop (i + 1) := by
    have hlen : (bkL s body N).length = N := by unfold bkL; simp
    have h1 : (bkL s body N).take i = bkL s body i := by
      unfold bkL
      rw [← List.map_take, List.take_range, Nat.min_eq_left (by omega)]
    have h2 : (bkL s body N)[i]'(by omega) = (spA body i, (body.drop (8 * s.2.2.2.2.1.toNat + totB s.2.2.1 body i)).take (spN body i)) := by
      unfold bkL; simp
    rw [← h1, ← h2, ← List.drop_eq_getElem_cons, List.take_append_drop]
  have hrest : ∀ p ∈ (bkL s body N).drop (i + 1), spA body i + spN body i ≤ p.1 := fun p hp => by
    obtain ⟨j, hj, rfl⟩ := List.getElem_of_mem hp
    have hlen : (bkL s body N).length = N := by unfold bkL; simp
    rw [List.length_drop, hlen] at hj
    have e9 : ((bkL s body N).drop (i + 1))[j]'(by rw [List.length_drop, hlen]; exact hj) = (bkL s body N)[i + 1 + j]'(by omega) := List.getElem_drop ..
    have e8 : ((bkL s body N)[i + 1 + j]'(by omega)).1 = spA body (i + 1 + j) := by unfold bkL; simp
    rw [e9, e8]
    obtain ⟨p, hp⟩ := hw
    obtain ⟨pe, pt⟩ := p
    obtain ⟨e1, t1, h1, _⟩ := wlk_mono hp i (by omega)
    obtain ⟨e2, t2, h2, _⟩ := wlk_mono hp (i + 1) (by omega)
    have hE : e2 = spA body i + spN body i := by
      by_cases hb : spN body i < 1 ∨ spA body i < e1 ∨ s.2.2.1 < ((spA body i + spN body i : Nat) : Int)
      · rw [wlk_bad h1 hb] at h2; cases h2
      · rw [wlk_good h1 hb] at h2
        injection h2 with h2; injection h2 with h2 _; omega
    have := (wlk_next (N := N) h2 (show i + 1 ≤ i + 1 + j by omega) (by omega) ⟨_, hp⟩).1
    omega
  refine getD_list (by rw [hdl, List.length_take, List.length_drop, putPs_len]; omega) fun x hx => ?_
  have hxn : x < spN body i := by rw [List.length_take] at hx; omega
  rw [getD_take, if_pos hxn, getD_drop, putPs_get _ _ (by omega), hbl, vis_append]
  rw [vis_cons, vis_out _ _ _ (fun p hp hc => by have := hrest p hp; omega), vis_one, if_pos (by rw [hdl]; exact ⟨by omega, by omega⟩)]
  rw [show spA body i + x - spA body i = x by omega]
theorem own_sub {σ : Sig} {R R' : List Asrt} {T c i n : Nat} {a : Option Addr} {l D : List UInt8} (tk : Take (slB T (.slice a l.length c) l) R R') (h : i + n ≤ l.length) (hD : D = (l.drop i).take n) : Rdy σ R (.slice (subA a c i 1) D.length (c - i)) D := by
  have h9 := (Rdy.own (σ := σ) tk).sub rfl (i := i) (j := i + n) (by omega) h
  rw [show i + n - i = n by omega, ← hD] at h9
  have hl : D.length = n := by rw [hD, List.length_take, List.length_drop]; omega
  rw [hl]; exact h9
def preR (im : List UInt8) : List COp := if (lkV im).1.1 = 3 then (lkP im).map wrO ++ [syO] else []
theorem opsR_pre {im : List UInt8} (h : (lkV im).1.1 ≠ 0) : opsR im = preR im ++ [(3, (lkV im).1.2.2, []), syO] := by unfold opsR preR; rw [if_neg h]
theorem lkP_3 {l : List UInt8} (h : (sdS l).1 = 3) {N : Nat} (hN : (sdS l).2.2.2.2.1 = (N : Int)) : lkP l = bkL (sdS l) (bodyS l) N := by unfold lkP; rw [if_pos h, hN, Int.toNat_natCast]
theorem wrO_succ {P : List Pc} {i : Nat} (h : i < P.length) : (P.take (i + 1)).map wrO = (P.take i).map wrO ++ [wrO P[i]] := by rw [List.take_succ_eq_append_getElem h, List.map_append]; rfl
theorem bkL_get {s : Sl} {body : List UInt8} {N i : Nat} (h : i < N) : ∃ h2 : i < (bkL s body N).length, (bkL s body N)[i] = (spA body i, (body.drop (8 * s.2.2.2.2.1.toNat + totB s.2.2.1 body i)).take (spN body i)) := by
  refine ⟨by unfold bkL; simpa using h, ?_⟩
  unfold bkL; simp
attribute [local irreducible] Vw.sl Vw.sdS Vw.bodyS Vw.zt Vw.putPs Vw.seOk Vw.bkOk Vw.lkZ Vw.lkP Vw.lkOk Vw.lkV Vw.runS Vw.opsR Vw.wrsU recV recS preR Vw.bkL Vw.spL Vw.spA Vw.spN Vw.totB Vw.upZ
theorem rcut_spec (w0 w : World) (R : List Asrt) (D : Nat) (s : DS) (size : Int) (hs : St ⟨w0, None_⟩ w (refA 88 152 5 3 D s :: R)) (ho : DOk s) (k : Nat) (hb : DB s k) (hk : k ≤ 33000000) : Calls Tryz.prog 58 #[.pointer (some ⟨D, 0, none⟩), .int .i64 size] w fun e w' => e = .returned (.int .i64 (runS s [(3, size, []), syO]).1) ∧ St ⟨w0, None_⟩ w' (refA 88 152 5 3 D (runS s [(3, size, []), syO]).2 :: R) := by
 refine c_enter (N := 14) Tryz.func58 rfl Tryz.ntmps58 (by simp) ?_
 intro a hf
 refine wp_seq ?_
 refine wp_region_lit ?_
 refine s_a hf rfl ?_; clear hf a; intro a hf
 refine s_nil ?_
 refine then_n ?_
 refine wp_seq ?_
 refine wp_region_lit ?_
 refine s_m hf rfl ?_; clear hf a; intro a hf
 refine s_m hf rfl ?_; clear hf a; intro a hf
 refine s_do hf rfl (y_call (hf.eval rfl) (hf.evals rfl) Tryz.call91 ((rTrunc_spec _ _ _ D s hs size ho (by have := hb.calls; omega) (by have := hb.pcs; omega) (by have := hb.sizes; omega)).mono ?_))
 rintro e w1 ⟨rfl, hs⟩
 rw [← co_tr] at hs ⊢
 obtain ⟨t, ht⟩ : ∃ t, t = (coS s (3, size, [])).2 := ⟨_, rfl⟩
 have hto := coS_ok ho (3, size, [])
 have htb := coS_b ho hb (3, size, [])
 rw [← ht] at hs hto htb
 refine ⟨_, rfl, ?_⟩; clear hf a; intro a hf
 refine s_a hf rfl ?_; clear hf a; intro a hf
 refine s_nil ?_
 refine then_n ?_
 refine wp_seq ?_
 refine wp_seq ?_
 refine wp_region_lit ?_
 refine s_m hf rfl ?_; clear hf a; intro a hf
 refine s_v hf (x_bin (hf.eval rfl) (hf.eval rfl) (r_ne _ _ _ _)) ?_; clear hf a; intro a hf
 refine s_nil ?_
 refine then_n ?_
 refine c_cond hf rfl (fun hi0 => ?_) (fun hi0 => ?_)
 ·first | simp only [zd1, zd2, zd3, zd4, ne_eq, Classical.not_not] at hi0 | skip
  refine wp_seq ?_
  refine wp_region_lit ?_
  refine s_m hf rfl ?_; clear hf a; intro a hf
  refine s_a hf rfl ?_; clear hf a; intro a hf
  refine s_nil ?_
  refine then_n ?_
  refine wp_ret ?_
  refine then_r ?_
  refine r_1 hf Tryz.results58 rfl ?_
  rw [runS2_bad hi0, ← ht]
  exact ⟨rfl, hs⟩
 first | simp only [zd1, zd2, zd3, zd4, ne_eq, Classical.not_not] at hi0 | skip
 refine wp_skip ?_
 refine then_n ?_
 refine wp_seq ?_
 refine wp_region_lit ?_
 refine s_m hf rfl ?_; clear hf a; intro a hf
 refine s_do hf rfl (y_call (hf.eval rfl) (hf.evals rfl) Tryz.call12 ((rSync_spec _ _ _ D t hs hto (by have := htb.calls; omega) (by have := htb.pcs; omega) (by have := htb.sizes; omega)).mono ?_))
 rintro e w1 ⟨rfl, hs⟩
 rw [← co_sy] at hs ⊢
 refine ⟨_, rfl, ?_⟩; clear hf a; intro a hf
 refine s_a hf rfl ?_; clear hf a; intro a hf
 refine s_nil ?_
 refine then_n ?_
 refine wp_ret ?_
 refine r_1 hf Tryz.results58 rfl ?_
 rw [runS2_ok hi0, ← ht]
 exact ⟨rfl, hs⟩
set_option maxHeartbeats 1600000
theorem rrecover_spec (w0 w : World) (R : List Asrt) (D : Nat) (s : DS) (hs : St ⟨w0, None_⟩ w (refA 88 152 5 3 D s :: R)) (ho : DOk s) (k : Nat) (hb : DB s k) (hk : k ≤ 28000000) : Calls Tryz.prog 16 #[.pointer (some ⟨D, 0, none⟩)] w fun e w' => e = .returned (.tuple #[.agg (vdF (recV s).1).toArray, .int .i64 (recV s).2]) ∧ St ⟨w0, None_⟩ w' (refA 88 152 5 3 D (recS s) :: R) := by
 have hn1 := ho.now
 have hn2 := ho.room1
 refine c_enter (N := 105) Tryz.func16 rfl Tryz.ntmps16 (by simp) ?_
 intro a hf
 refine wp_seq ?_
 refine wp_region_lit ?_
 refine s_do hf rfl (y_alloc hs Tryz.zeroValue37 ?_); clear hf hs a; intro b2 w hs a hf
 change St _ _ (cb b2 37 (vdF (0, 0, 0)) :: _) at hs
 refine s_a hf rfl ?_; clear hf a; intro a hf
 refine s_nil ?_
 refine then_n ?_
 refine wp_seq ?_
 refine wp_seq ?_
 refine wp_region_lit ?_
 refine s_m hf rfl ?_; clear hf a; intro a hf
 refine s_v hf (x_eqNil Tryz.underlying28 (hf.eval rfl) (hf.eval rfl)) ?_; clear hf a; intro a hf
 replace hf := hf.now (k := 18) (v' := .bool false) rfl rfl
 refine s_nil ?_
 refine then_n ?_
 refine c_cond_f hf rfl rfl ?_
 refine wp_skip ?_
 refine then_n ?_
 refine wp_seq ?_
 refine wp_region_lit ?_
 refine s_m hf rfl ?_; clear hf a; intro a hf
 replace hs := hs.take (A := refA 88 152 5 3 D s) (by repeat constructor)
 refine s_do hf rfl (y_call (hf.eval rfl) (hf.evals rfl) Tryz.call61 ((rAlive_spec _ _ _ D s hs).mono ?_))
 rintro e w1 ⟨rfl, hw9⟩
 rw [hw9]
 clear hw9 w1
 refine ⟨_, rfl, ?_⟩; clear hf a; intro a hf
 refine s_a hf rfl ?_; clear hf a; intro a hf
 refine s_nil ?_
 refine then_n ?_
 refine wp_seq ?_
 refine wp_seq ?_
 refine wp_region_lit ?_
 refine s_m hf rfl ?_; clear hf a; intro a hf
 refine s_v hf (x_not (hf.eval rfl)) ?_; clear hf a; intro a hf
 refine s_nil ?_
 refine then_n ?_
 refine c_cond hf rfl (fun hi1 => ?_) (fun hi1 => ?_)
 ·simp only [Bool.not_not, Bool.not_eq_true', Bool.not_eq_false'] at hi1
  refine wp_seq ?_
  refine wp_region_lit ?_
  refine s_r hf (x_build (v := .agg (vdF (0, 0, 0)).toArray) (hf.parts rfl) (fun w => by kernel_rfl) _) ?_; clear hf a; intro a hf
  replace hs := hs.take (A := cb b2 37 (vdF (0, 0, 0))) (by repeat constructor)
  refine s_do0 hf rfl (y_storeAgg (cs := vdF (0, 0, 0)) hs (n := 3) (by kernel_rfl) (hf.eval rfl) (hf.eval rfl) (by simp [Value.oneCell', vdF]) rfl rfl .k0 ?_); clear hf hs a; intro w hs a hf
  refine s_a hf rfl ?_; clear hf a; intro a hf
  refine s_nil ?_
  refine then_n ?_
  refine wp_ret ?_
  refine then_r ?_
  refine r_2c hf Tryz.results16 rfl rfl hs ag37 rfl (by repeat constructor) ?_
  rw [(rec_dead hi1).1, (rec_dead hi1).2]
  replace hs := hs.take (A := refA 88 152 5 3 D s) (by repeat constructor)
  exact ⟨rfl, St.mid [_] hs⟩
 simp only [Bool.not_not, Bool.not_eq_true', Bool.not_eq_false'] at hi1
 refine wp_skip ?_
 refine then_n ?_
 refine wp_seq ?_
 refine wp_region_lit ?_
 refine s_m hf rfl ?_; clear hf a; intro a hf
 replace hs := hs.take (A := refA 88 152 5 3 D s) (by repeat constructor)
 refine s_do hf rfl (y_call (hf.eval rfl) (hf.evals rfl) Tryz.call22 ((rImage_spec _ _ _ D s hs (by omega)).mono ?_))
 rintro e w1 ⟨e1, f1, rfl, hs⟩
 have hf1 := slB_cap hs
 refine ⟨_, rfl, ?_⟩; clear hf a; intro a hf
 refine s_a hf rfl ?_; clear hf a; intro a hf
 refine s_nil ?_
 refine then_n ?_
 refine wp_seq ?_
 refine wp_region_lit ?_
 refine s_m hf rfl ?_; clear hf a; intro a hf
 refine s_do hf rfl (y_call (hf.eval rfl) (hf.evals rfl) Tryz.call62 ((rlook_spec _ _ _ s.now (hs.rdB .k0 fun h => slB_rd) (by omega)).mono ?_))
 rintro e w1 ⟨g, cg, rfl, hj⟩
 replace hs := hs.join hj
 simp only [List.cons_append, List.nil_append] at hs
 have hcg := slB_cap hs
 refine ⟨_, rfl, ?_⟩; clear hf a; intro a hf
 refine s_m hf rfl ?_; clear hf a; intro a hf
 refine s_v hf (x_extract (hf.eval rfl) rfl) ?_; clear hf a; intro a hf
 refine s_v hf (x_extract (hf.eval rfl) rfl) ?_; clear hf a; intro a hf
 refine s_do hf rfl (y_alloc hs Tryz.zeroValue37 ?_); clear hf hs a; intro b6 w hs a hf
 change St _ _ (cb b6 37 (vdF (0, 0, 0)) :: _) at hs
 refine s_do0 hf rfl (y_storeAgg (cs := vdF (lkV s.now).1) hs (n := 3) (by kernel_rfl) (hf.eval rfl) (hf.eval rfl) (by simp [Value.oneCell', vdF]) rfl rfl .k0 ?_); clear hf hs a; intro w hs a hf
 refine s_a hf rfl ?_; clear hf a; intro a hf
 refine s_nil ?_
 refine then_n ?_
 refine wp_seq ?_
 refine wp_seq ?_
 refine wp_region_lit ?_
 refine s_v hf (x_fieldAddr fo37_0 (hf.eval rfl)) ?_; clear hf a; intro a hf
 refine s_r hf (x_load sc3 (hf.eval rfl) (by apply hs.cell <;> repeat constructor)) ?_; clear hf a; intro a hf
 replace hf := hf.now (k := 33) (v' := .int .i64 (lkV s.now).1.1) rfl (rfl)
 refine s_v hf (x_bin (hf.eval rfl) (hf.eval rfl) (r_eq _ _ _ _)) ?_; clear hf a; intro a hf
 refine s_nil ?_
 refine then_n ?_
 refine c_cond hf rfl (fun hi2 => ?_) (fun hi2 => ?_)
 ·first | simp only [zd1, zd2, zd3, zd4, ne_eq, Classical.not_not] at hi2 | skip
  refine wp_seq ?_
  refine wp_region_lit ?_
  refine s_r hf (x_loadBlk hs ag37 (hf.eval rfl) rfl (by repeat constructor)) ?_; clear hf a; intro a hf
  replace hs := hs.take (A := cb b2 37 (vdF (0, 0, 0))) (by repeat constructor)
  refine s_do0 hf rfl (y_storeAgg (cs := vdF (lkV s.now).1) hs (n := 3) (by kernel_rfl) (hf.eval rfl) (hf.eval rfl) (by simp [Value.oneCell', vdF]) rfl rfl .k0 ?_); clear hf hs a; intro w hs a hf
  refine s_a hf rfl ?_; clear hf a; intro a hf
  refine s_nil ?_
  refine then_n ?_
  refine wp_ret ?_
  refine then_r ?_
  refine r_2c hf Tryz.results16 rfl rfl hs ag37 rfl (by repeat constructor) ?_
  rw [(rec_none hi1 hi2).1, (rec_none hi1 hi2).2]
  replace hs := hs.take (A := refA 88 152 5 3 D s) (by repeat constructor)
  exact ⟨rfl, St.mid [_, _, _, _] hs⟩
 first | simp only [zd1, zd2, zd3, zd4, ne_eq, Classical.not_not] at hi2 | skip
 refine wp_skip ?_
 refine then_n ?_
 replace hs := hs.take (A := cb b2 37 (vdF (0, 0, 0))) (by repeat constructor)
 replace hs := hs.take (A := cb b6 37 (vdF (lkV s.now).1)) (by repeat constructor)
 replace hs := hs.take (A := refA 88 152 5 3 D s) (by repeat constructor)
 refine c_join (N := 105) (L0 := [(0, _), (2, _), (6, _)]) (fun M w => ∃ t : DS, M = [] ∧ runS s (preR s.now) = (0, t) ∧ St ⟨w0, None_⟩ w (refA 88 152 5 3 D t :: cb b6 37 (vdF (lkV s.now).1) :: cb b2 37 (vdF (0, 0, 0)) :: R)) (hf.sub ⟨rfl, rfl, rfl, trivial⟩) ?_ ?_
 ·refine wp_seq ?_
  refine wp_region_lit ?_
  refine s_v hf (x_fieldAddr fo37_0 (hf.eval rfl)) ?_; clear hf a; intro a hf
  refine s_r hf (x_load sc3 (hf.eval rfl) (by apply hs.cell <;> repeat constructor)) ?_; clear hf a; intro a hf
  replace hf := hf.now (k := 37) (v' := .int .i64 (lkV s.now).1.1) rfl (rfl)
  refine s_v hf (x_bin (hf.eval rfl) (hf.eval rfl) (r_eq _ _ _ _)) ?_; clear hf a; intro a hf
  refine s_nil ?_
  refine then_n ?_
  refine c_cond hf rfl (fun hi3 => ?_) (fun hi3 => ?_)
  ·first | simp only [zd1, zd2, zd3, zd4, ne_eq, Classical.not_not] at hi3 | skip
   have h3 := look_cases s.now
   obtain ⟨k1, k2, k3, k4, k5, k6⟩ : lkOk s.now = true ∧ (sdS s.now).1 = 3 ∧ (lkV s.now).1.2.2 = lkZ s.now ∧ 0 ≤ lkZ s.now ∧ lkZ s.now ≤ (s.now.length : Int) ∧ (lkV s.now).2 = putPs (s.now.take (lkZ s.now).toNat) (lkP s.now) := by
     rcases h3 with h | h | ⟨_, h⟩
     · omega
     · omega
     · exact h
   have hse : seOk s.now = true ∧ bkOk (sdS s.now) (bodyS s.now) = true := by have k9 := k1; unfold lkOk at k9; rw [k2] at k9; simpa using k9
   have hgd := seGood hse.1
   obtain ⟨g1, g2, g3, g4, g5⟩ := hgd.flds
   have gu := hgd.sum
   have gb := hgd.body
   clear hgd
   have hz : lkZ s.now = (sdS s.now).2.2.1 := by unfold lkZ; rw [if_neg (by omega)]
   obtain ⟨N, hN⟩ : ∃ N : Nat, (sdS s.now).2.2.2.2.1 = (N : Int) := ⟨(sdS s.now).2.2.2.2.1.toNat, by omega⟩
   have hNt : (sdS s.now).2.2.2.2.1.toNat = N := by omega
   have hP := lkP_3 k2 hN
   have hPs := lkP_small k1 (by omega)
   have hPl : (lkP s.now).length = N := by rw [hP]; unfold bkL; simp
   refine wp_seq ?_
   refine wp_region_lit ?_
   refine s_m hf rfl ?_; clear hf a; intro a hf
   replace hs := hs.take (A := slB 5 (.slice e1 s.now.length f1) s.now) (by repeat constructor)
   refine s_do hf rfl (y_call (hf.eval rfl) (hf.evals rfl) Tryz.call63 ((rsealed_spec _ _ _ s.now (hs.rdB .k0 fun h => slB_rd) (by omega)).mono ?_))
   rintro e w1 ⟨sv, rfl, hsv, hk9⟩
   replace hs := hs.ext hk9
   obtain rfl := hsv hse.1
   refine ⟨_, rfl, ?_⟩; clear hf a; intro a hf
   refine s_m hf rfl ?_; clear hf a; intro a hf
   refine s_v hf (x_extract (hf.eval rfl) rfl) ?_; clear hf a; intro a hf
   refine s_v hf (x_extract (hf.eval rfl) rfl) ?_; clear hf a; intro a hf
   refine s_do hf rfl (y_alloc hs Tryz.zeroValue99 ?_); clear hf hs a; intro b8 w hs a hf
   change St _ _ (cb b8 99 (slF zSl) :: _) at hs
   refine s_do0 hf rfl (y_storeAgg (cs := slF (sdS s.now)) hs (n := 7) (by kernel_rfl) (hf.eval rfl) (hf.eval rfl) (by simp [Value.oneCell', slF]) rfl rfl .k0 ?_); clear hf hs a; intro w hs a hf
   refine s_a hf rfl ?_; clear hf a; intro a hf
   refine s_nil ?_
   refine then_n ?_
   refine wp_seq ?_
   refine wp_region_lit ?_
   refine s_v hf (x_fieldAddr fo99_2 (hf.eval rfl)) ?_; clear hf a; intro a hf
   refine s_r hf (x_load sc3 (hf.eval rfl) (by apply hs.cell <;> repeat constructor)) ?_; clear hf a; intro a hf
   replace hf := hf.now (k := 45) (v' := .int .i64 (sdS s.now).2.2.1) rfl (rfl)
   refine s_v hf (x_fieldAddr fo99_3 (hf.eval rfl)) ?_; clear hf a; intro a hf
   refine s_r hf (x_load sc3 (hf.eval rfl) (by apply hs.cell <;> repeat constructor)) ?_; clear hf a; intro a hf
   replace hf := hf.now (k := 47) (v' := .int .i64 (sdS s.now).2.2.2.1) rfl (rfl)
   refine s_do hf rfl (y_call (hf.eval rfl) (hf.evals rfl) Tryz.call56 ((body_spec _ (sdS s.now).2.2.1 (sdS s.now).2.2.2.1 (by omega) (by omega) (by omega) (by omega)).mono ?_))
   rintro e w1 ⟨rfl, hk9⟩
   replace hs := hs.ext hk9
   refine ⟨_, rfl, ?_⟩; clear hf a; intro a hf
   refine s_a hf rfl ?_; clear hf a; intro a hf
   refine s_nil ?_
   refine then_n ?_
   refine wp_seq ?_
   refine c_draw hs (fun _ => True) [.read, .held, .held, .held, .held, .read, .held, .held, .eff, .held, .held, .held, .held, .held] (by kernel_rfl) (by kernel_rfl) (fun _ _ _ => trivial) ?_
   clear hs; intro w hs hC hw
   replace hs := hs.take (A := cb b8 99 (slF (sdS s.now))) (by repeat constructor)
   refine m_read hf rfl (x_loadBlk hs ag99 (hf.eval rfl) rfl (by repeat constructor)) ?_; clear hf a; intro a hf
   refine m_held hf rfl (fun w' _ => x_move (hf.eval rfl) w') ?_; clear hf a; intro a hf
   refine m_held hf rfl (fun w' _ => x_move (hf.eval rfl) w') ?_; clear hf a; intro a hf
   refine m_held hf rfl (fun w' _ => x_move (hf.eval rfl) w') ?_; clear hf a; intro a hf
   refine m_held hf rfl (fun w' _ => x_fieldAddr fo99_5 (hf.eval rfl) w') ?_; clear hf a; intro a hf
   refine m_read hf rfl (x_load sc3 (hf.eval rfl) (by apply hs.cell <;> repeat constructor)) ?_; clear hf a; intro a hf
   replace hf := hf.now (k := 55) (v' := .int .i64 (sdS s.now).2.2.2.2.2.1) rfl (rfl)
   refine m_held hf rfl (fun w' _ => x_bin (hf.eval rfl) (hf.eval rfl) (r_addi _ (by omega) (by omega)) w') ?_; clear hf a; intro a hf
   refine m_held hf rfl (fun w' _ => x_slice sl22 (hf.eval rfl) (hf.eval rfl) (hf.eval rfl)  (by omega) (by omega) (by omega) w') ?_; clear hf a; intro a hf
   have hbl : (bodyS s.now).length = (sdS s.now).2.2.2.2.2.1.toNat := by unfold bodyS; rw [List.length_take, List.length_drop]; omega
   have hbr : RdB (hp w) (.slice (subA e1 f1 (upZ (max (sdS s.now).2.2.1 (sdS s.now).2.2.2.1)).toNat 1) (bodyS s.now).length (f1 - (upZ (max (sdS s.now).2.2.1 (sdS s.now).2.2.2.1)).toNat)) (bodyS s.now) := by unfold bodyS; exact sub_rd (hs.rdB (A := slB 5 (.slice e1 s.now.length f1) s.now) (by repeat constructor) fun h => slB_rd) (by omega)
   replace hf := hf.now (k := 57) (v' := .slice (subA e1 f1 (upZ (max (sdS s.now).2.2.1 (sdS s.now).2.2.2.1)).toNat 1) (bodyS s.now).length (f1 - (upZ (max (sdS s.now).2.2.1 (sdS s.now).2.2.2.1)).toNat)) rfl (by rw [hbl]; exact slice_eq rfl (by omega) rfl)
   refine m_eff hf rfl (y_call (hf.eval rfl) (hf.evals rfl) Tryz.call64 ((back_spec _ (sdS s.now) gu (by omega) (by omega) _ _ (bodyS s.now) hbr (by omega)).mono ?_))
   rintro e w1 ⟨vs, ns, rfl, hns, hj⟩
   replace hs := hs.join hj
   simp only [List.cons_append, List.nil_append] at hs
   obtain rfl : ns = N := by rw [hns hse.2, hNt]
   obtain ⟨vs_, vc_, rfl⟩ := sl_shape hs
   refine ⟨_, rfl, ⟨trivial, ?_⟩⟩; clear hf a; intro a hf
   refine m_held hf rfl (fun w' _ => x_move (hf.eval rfl) w') ?_; clear hf a; intro a hf
   refine m_held hf rfl (fun w' _ => x_extract (hf.eval rfl) rfl w') ?_; clear hf a; intro a hf
   refine m_held hf rfl (fun w' _ => x_extract (hf.eval rfl) rfl w') ?_; clear hf a; intro a hf
   refine m_held hf rfl (fun w' _ => x_assign (hf.eval rfl) w') ?_; clear hf a; intro a hf
   refine m_held hf rfl (fun w' _ => x_assign (hf.eval rfl) w') ?_; clear hf a; intro a hf
   refine m_nil ?_
   refine then_n ?_
   refine wp_seq ?_
   refine wp_seq ?_
   refine wp_region_lit ?_
   replace hs := hs.take (A := cb b2 37 (vdF (0, 0, 0))) (by repeat constructor)
   replace hs := hs.take (A := cb b6 37 (vdF (lkV s.now).1)) (by repeat constructor)
   replace hs := hs.take (A := slB 5 (.slice g (lkV s.now).2.length cg) (lkV s.now).2) (by repeat constructor)
   replace hs := hs.take (A := sl 119 2 (.slice vs_ (spL (bodyS s.now) ns).length vc_) (spL (bodyS s.now) ns).length ((spL (bodyS s.now) ns).flatMap spF)) (by repeat constructor)
   replace hs := hs.take (A := refA 88 152 5 3 D s) (by repeat constructor)
   replace hs := St.cut [_, _, _, _, _] [_, _] hs
   refine s_a hf rfl ?_; clear hf a; intro a hf
   refine s_nil ?_
   refine then_n ?_
   refine wp_block ?_
   refine c_loop (L0 := [(0, _), (2, _), (6, _), (7, _), (11, _)]) (fun M w m => ∃ (i : Nat) (t : DS), M = [(13, .int .i64 (i : Int))] ∧ ns - i = m ∧ i ≤ ns ∧ (runS s (((lkP s.now).take i).map wrO)).1 = 0 ∧ t = (runS s (((lkP s.now).take i).map wrO)).2 ∧ St ⟨w0, None_⟩ w (refA 88 152 5 3 D t :: sl 119 2 (.slice vs_ (spL (bodyS s.now) ns).length vc_) (spL (bodyS s.now) ns).length ((spL (bodyS s.now) ns).flatMap spF) :: slB 5 (.slice g (lkV s.now).2.length cg) (lkV s.now).2 :: cb b6 37 (vdF (lkV s.now).1) :: cb b2 37 (vdF (0, 0, 0)) :: R)) (M0 := [(13, .int .i64 0)]) (⟨0, s, rfl, rfl, Nat.zero_le _, by rw [List.take_zero, List.map_nil, runS_nil], by rw [List.take_zero, List.map_nil, runS_nil], hs⟩) (hf.sub ⟨rfl, rfl, rfl, rfl, rfl, rfl, trivial⟩) ?_
   clear hf hs a
   rintro M m a w ⟨i, t, rfl, rfl, hi, hr0, ht, hs⟩ hf
   have hto : DOk t := by rw [ht]; exact runS_ok _ ho
   have htb : DB t (k + i) := by rw [ht]; have h9 := runS_b (((lkP s.now).take i).map wrO) ho hb; have h8 : (((lkP s.now).take i).map wrO).length = i := (by rw [List.length_map, List.length_take]; omega); rw [h8] at h9; exact h9
   refine wp_seq ?_
   refine wp_seq ?_
   refine wp_region_lit ?_
   refine s_m hf rfl ?_; clear hf a; intro a hf
   refine s_m hf rfl ?_; clear hf a; intro a hf
   refine s_v hf (x_len Tryz.underlying68 (hf.eval rfl)) ?_; clear hf a; intro a hf
   refine s_v hf (x_bin (hf.eval rfl) (hf.eval rfl) (r_lt _ _ _ _)) ?_; clear hf a; intro a hf
   refine s_nil ?_
   refine then_n ?_
   refine c_cond hf rfl (fun hi4 => ?_) (fun hi4 => ?_)
   ·first | simp only [zd1, zd2, zd3, zd4, ne_eq, Classical.not_not] at hi4 | skip
    have hsl9 : (spL (bodyS s.now) ns).length = ns := by unfold spL; simp
    have hlt : i < ns := by omega
    have hlP : i < (lkP s.now).length := by omega
    obtain ⟨hq1, hq2⟩ := spL_at (body := bodyS s.now) hlt
    obtain ⟨q1, q2, q3, q4⟩ := bk_span hse.2 hN hlt
    have hPi : (lkP s.now)[i] = ((spA (bodyS s.now) i), (((bodyS s.now).drop (8 * (sdS s.now).2.2.2.2.1.toNat + totB (sdS s.now).2.2.1 (bodyS s.now) i)).take (spN (bodyS s.now) i))) := by obtain ⟨_, h9⟩ := bkL_get (s := sdS s.now) (body := bodyS s.now) hlt; rw [← h9]; exact getElem_congr_coll hP
    have hwo : wrO (lkP s.now)[i] = (2, (((spA (bodyS s.now) i) : Nat) : Int), (((bodyS s.now).drop (8 * (sdS s.now).2.2.2.2.1.toNat + totB (sdS s.now).2.2.1 (bodyS s.now) i)).take (spN (bodyS s.now) i))) := by rw [hPi]; rfl
    have hsn : runS s (((lkP s.now).take (i + 1)).map wrO) = coS t (wrO (lkP s.now)[i]) := by rw [wrO_succ hlP, runS_snoc hr0, ← ht]
    have hcl : (lkV s.now).2.length = (lkZ s.now).toNat := by rw [k6, putPs_len, List.length_take]; omega
    have hdi : (((bodyS s.now).drop (8 * (sdS s.now).2.2.2.2.1.toNat + totB (sdS s.now).2.2.1 (bodyS s.now) i)).take (spN (bodyS s.now) i)) = ((lkV s.now).2.drop (spA (bodyS s.now) i)).take (spN (bodyS s.now) i) := by rw [k6, hP]; exact (bk_slice hse.2 hN hlt _ (by rw [List.length_take]; omega)).symm
    have hdl : (((bodyS s.now).drop (8 * (sdS s.now).2.2.2.2.1.toNat + totB (sdS s.now).2.2.1 (bodyS s.now) i)).take (spN (bodyS s.now) i)).length = (spN (bodyS s.now) i) := by rw [hdi, List.length_take, List.length_drop]; omega
    replace hs := hs.take (A := sl 119 2 (.slice vs_ (spL (bodyS s.now) ns).length vc_) (spL (bodyS s.now) ns).length ((spL (bodyS s.now) ns).flatMap spF)) (by repeat constructor)
    obtain ⟨vs_, rfl⟩ := sl_some hs (by omega)
    obtain ⟨DX, hDX⟩ : ∃ DX, DX = (((bodyS s.now).drop (8 * (sdS s.now).2.2.2.2.1.toNat + totB (sdS s.now).2.2.1 (bodyS s.now) i)).take (spN (bodyS s.now) i)) := ⟨_, rfl⟩
    rw [← hDX] at hdi hdl hwo
    refine wp_skip ?_
    refine then_n ?_
    refine wp_seq ?_
    refine wp_block ?_
    refine wp_seq ?_
    refine c_draw hs (fun _ => True) [.held, .held, .held, .held, .held, .read, .held, .held, .held, .held, .held, .read, .held, .held, .held, .held, .read, .held, .eff, .held] (by kernel_rfl) (by kernel_rfl) (fun _ _ _ => trivial) ?_
    clear hs; intro w hs hC hw
    refine m_held hf rfl (fun w' _ => x_move (hf.eval rfl) w') ?_; clear hf a; intro a hf
    refine m_held hf rfl (fun w' _ => x_move (hf.eval rfl) w') ?_; clear hf a; intro a hf
    refine m_held hf rfl (fun w' _ => x_move (hf.eval rfl) w') ?_; clear hf a; intro a hf
    refine m_held hf rfl (fun w' _ => x_indexAddr sl68 (hf.eval rfl) (hf.eval rfl) (by omega) (by omega) w') ?_; clear hf a; intro a hf
    refine m_held hf rfl (fun w' _ => x_fieldAddrG fo119_0 (hf.eval rfl) w') ?_; clear hf a; intro a hf
    refine m_read hf rfl (x_loadF (k := 0) (i := (i : Int)) (f := spF) (l := spL (bodyS s.now) ns) (u := .int .i64 (((spA (bodyS s.now) i) : Nat) : Int)) sc3 (by intro _; rfl) (hs.rd (A := sl 119 2 (.slice (some vs_) (spL (bodyS s.now) ns).length vc_) (spL (bodyS s.now) ns).length ((spL (bodyS s.now) ns).flatMap spF)) (by repeat constructor) fun h hh => sl_rd hh) (hf.eval rfl) (by rw [Int.toNat_natCast]; exact hq1) (by show (spF (spL (bodyS s.now) ns)[i])[0]? = _; rw [hq2]; rfl)) ?_; clear hf a; intro a hf
    refine m_held hf rfl (fun w' _ => x_move (hf.eval rfl) w') ?_; clear hf a; intro a hf
    refine m_held hf rfl (fun w' _ => x_move (hf.eval rfl) w') ?_; clear hf a; intro a hf
    refine m_held hf rfl (fun w' _ => x_move (hf.eval rfl) w') ?_; clear hf a; intro a hf
    refine m_held hf rfl (fun w' _ => x_indexAddr sl68 (hf.eval rfl) (hf.eval rfl) (by omega) (by omega) w') ?_; clear hf a; intro a hf
    refine m_held hf rfl (fun w' _ => x_fieldAddrG fo119_0 (hf.eval rfl) w') ?_; clear hf a; intro a hf
    refine m_read hf rfl (x_loadF (k := 0) (i := (i : Int)) (f := spF) (l := spL (bodyS s.now) ns) (u := .int .i64 (((spA (bodyS s.now) i) : Nat) : Int)) sc3 (by intro _; rfl) (hs.rd (A := sl 119 2 (.slice (some vs_) (spL (bodyS s.now) ns).length vc_) (spL (bodyS s.now) ns).length ((spL (bodyS s.now) ns).flatMap spF)) (by repeat constructor) fun h hh => sl_rd hh) (hf.eval rfl) (by rw [Int.toNat_natCast]; exact hq1) (by show (spF (spL (bodyS s.now) ns)[i])[0]? = _; rw [hq2]; rfl)) ?_; clear hf a; intro a hf
    refine m_held hf rfl (fun w' _ => x_move (hf.eval rfl) w') ?_; clear hf a; intro a hf
    refine m_held hf rfl (fun w' _ => x_move (hf.eval rfl) w') ?_; clear hf a; intro a hf
    refine m_held hf rfl (fun w' _ => x_indexAddr sl68 (hf.eval rfl) (hf.eval rfl) (by omega) (by omega) w') ?_; clear hf a; intro a hf
    refine m_held hf rfl (fun w' _ => x_fieldAddrG fo119_1 (hf.eval rfl) w') ?_; clear hf a; intro a hf
    refine m_read hf rfl (x_loadF (k := 1) (i := (i : Int)) (f := spF) (l := spL (bodyS s.now) ns) (u := .int .i64 (((spA (bodyS s.now) i) + (spN (bodyS s.now) i) : Nat) : Int)) sc3 (by intro _; rfl) (hs.rd (A := sl 119 2 (.slice (some vs_) (spL (bodyS s.now) ns).length vc_) (spL (bodyS s.now) ns).length ((spL (bodyS s.now) ns).flatMap spF)) (by repeat constructor) fun h hh => sl_rd hh) (hf.eval rfl) (by rw [Int.toNat_natCast]; exact hq1) (by show (spF (spL (bodyS s.now) ns)[i])[1]? = _; rw [hq2]; rfl)) ?_; clear hf a; intro a hf
    refine m_held hf rfl (fun w' _ => x_slice sl22 (hf.eval rfl) (hf.eval rfl) (hf.eval rfl)  (by omega) (by omega) (by omega) w') ?_; clear hf a; intro a hf
    replace hf := hf.now (k := 84) (v' := .slice (subA g cg (spA (bodyS s.now) i) 1) DX.length (cg - (spA (bodyS s.now) i))) rfl (by rw [hdl]; exact slice_eq rfl (by omega) rfl)
    replace hs := hs.take (A := refA 88 152 5 3 D t) (by repeat constructor)
    have hrd : Rdy ⟨w0, None_⟩ (sl 119 2 (.slice (some vs_) (spL (bodyS s.now) ns).length vc_) (spL (bodyS s.now) ns).length ((spL (bodyS s.now) ns).flatMap spF) :: slB 5 (.slice g (lkV s.now).2.length cg) (lkV s.now).2 :: cb b6 37 (vdF (lkV s.now).1) :: cb b2 37 (vdF (0, 0, 0)) :: R) (.slice (subA g cg (spA (bodyS s.now) i) 1) DX.length (cg - (spA (bodyS s.now) i))) DX := own_sub .k1 (by omega) hdi
    refine m_eff hf rfl (y_call (hf.eval rfl) (hf.evals rfl) Tryz.call57 ((rWrite_spec _ _ _ D t hs (((spA (bodyS s.now) i) : Nat) : Int) _ _ DX hrd (by omega) hto (by have := htb.calls; omega) (by have := htb.pcs; omega) (by have := htb.sizes; omega)).mono ?_))
    rintro e w1 ⟨rfl, hs⟩
    rw [← co_wr] at hs ⊢
    refine ⟨_, rfl, ⟨trivial, ?_⟩⟩; clear hf a; intro a hf
    refine m_held hf rfl (fun w' _ => x_assign (hf.eval rfl) w') ?_; clear hf a; intro a hf
    refine m_nil ?_
    refine then_n ?_
    refine wp_seq ?_
    refine wp_region_lit ?_
    refine s_m hf rfl ?_; clear hf a; intro a hf
    refine s_v hf (x_bin (hf.eval rfl) (hf.eval rfl) (r_ne _ _ _ _)) ?_; clear hf a; intro a hf
    refine s_nil ?_
    refine then_n ?_
    refine c_cond hf rfl (fun hi5 => ?_) (fun hi5 => ?_)
    ·first | simp only [zd1, zd2, zd3, zd4, ne_eq, Classical.not_not] at hi5 | skip
     refine wp_seq ?_
     refine wp_region_lit ?_
     refine s_r hf (x_build (v := .agg (vdF (0, 0, 0)).toArray) (hf.parts rfl) (fun w => by kernel_rfl) _) ?_; clear hf a; intro a hf
     refine s_m hf rfl ?_; clear hf a; intro a hf
     replace hs := hs.take (A := cb b2 37 (vdF (0, 0, 0))) (by repeat constructor)
     refine s_do0 hf rfl (y_storeAgg (cs := vdF (0, 0, 0)) hs (n := 3) (by kernel_rfl) (hf.eval rfl) (hf.eval rfl) (by simp [Value.oneCell', vdF]) rfl rfl .k0 ?_); clear hf hs a; intro w hs a hf
     refine s_a hf rfl ?_; clear hf a; intro a hf
     refine s_nil ?_
     refine then_n ?_
     refine wp_ret ?_
     refine blk_r (then_r (then_r (blk_r (then_r (then_r ?_)))))
     refine r_2c hf Tryz.results16 rfl rfl hs ag37 rfl (by repeat constructor) ?_
     have hop : opsR s.now = ((lkP s.now).take (i + 1)).map wrO ++ (((lkP s.now).drop (i + 1)).map wrO ++ ([syO] ++ [(3, (lkV s.now).1.2.2, []), syO])) := by rw [opsR_3 hi3, ← List.append_assoc, ← List.map_append, List.take_append_drop, List.append_assoc]
     have hru : runS s (opsR s.now) = coS t (wrO (lkP s.now)[i]) := by rw [hop, runS_stop (by rw [hsn, hwo]; exact hi5), hsn]
     rw [hwo] at hru
     obtain ⟨r1, r2⟩ := rec_bad hi1 (by rw [hru]; exact hi5)
     rw [r1, r2, hru]
     replace hs := hs.take (A := refA 88 152 5 3 D (coS t (2, (((spA (bodyS s.now) i) : Nat) : Int), DX)).2) (by repeat constructor)
     exact ⟨rfl, St.mid [_, _, _, _] hs⟩
    first | simp only [zd1, zd2, zd3, zd4, ne_eq, Classical.not_not] at hi5 | skip
    refine wp_skip ?_
    refine blk_n ?_
    refine then_n ?_
    refine wp_region_lit ?_
    refine s_m hf rfl ?_; clear hf a; intro a hf
    refine s_v hf (x_bin (hf.eval rfl) (hf.eval rfl) (r_addi _ (by omega) (by omega))) ?_; clear hf a; intro a hf
    refine s_a hf rfl ?_; clear hf a; intro a hf
    refine s_nil ?_
    exact ⟨_, _, ⟨i + 1, (coS t (wrO (lkP s.now)[i])).2, rfl, rfl, by omega, by rw [hsn, hwo]; exact hi5, by rw [hsn], by rw [hwo]; exact hs⟩, by omega, hf.sub ⟨rfl, rfl, rfl, rfl, rfl, rfl, trivial⟩⟩
   first | simp only [zd1, zd2, zd3, zd4, ne_eq, Classical.not_not] at hi4 | skip
   have hsl9 : (spL (bodyS s.now) ns).length = ns := by unfold spL; simp
   refine wp_exit ?_
   refine then_x ?_
   refine then_x ?_
   refine blk_x ?_
   refine then_n ?_
   refine wp_seq ?_
   refine wp_region_lit ?_
   refine s_m hf rfl ?_; clear hf a; intro a hf
   obtain rfl : i = ns := by omega
   have hti : (lkP s.now).take i = lkP s.now := List.take_of_length_le (by omega)
   rw [hti] at hr0 ht
   replace hs := hs.take (A := refA 88 152 5 3 D t) (by repeat constructor)
   refine s_do hf rfl (y_call (hf.eval rfl) (hf.evals rfl) Tryz.call12 ((rSync_spec _ _ _ D t hs hto (by have := htb.calls; omega) (by have := htb.pcs; omega) (by have := htb.sizes; omega)).mono ?_))
   rintro e w1 ⟨rfl, hs⟩
   rw [← co_sy] at hs ⊢
   have hpr2 : runS s (preR s.now) = coS t syO := by unfold preR; rw [if_pos hi3, runS_snoc hr0, ← ht]
   refine ⟨_, rfl, ?_⟩; clear hf a; intro a hf
   refine s_a hf rfl ?_; clear hf a; intro a hf
   refine s_nil ?_
   refine then_n ?_
   refine wp_seq ?_
   refine wp_region_lit ?_
   refine s_m hf rfl ?_; clear hf a; intro a hf
   refine s_v hf (x_bin (hf.eval rfl) (hf.eval rfl) (r_ne _ _ _ _)) ?_; clear hf a; intro a hf
   refine s_nil ?_
   refine then_n ?_
   refine c_cond hf rfl (fun hi6 => ?_) (fun hi6 => ?_)
   ·first | simp only [zd1, zd2, zd3, zd4, ne_eq, Classical.not_not] at hi6 | skip
    refine wp_seq ?_
    refine wp_region_lit ?_
    refine s_r hf (x_build (v := .agg (vdF (0, 0, 0)).toArray) (hf.parts rfl) (fun w => by kernel_rfl) _) ?_; clear hf a; intro a hf
    refine s_m hf rfl ?_; clear hf a; intro a hf
    replace hs := hs.take (A := cb b2 37 (vdF (0, 0, 0))) (by repeat constructor)
    refine s_do0 hf rfl (y_storeAgg (cs := vdF (0, 0, 0)) hs (n := 3) (by kernel_rfl) (hf.eval rfl) (hf.eval rfl) (by simp [Value.oneCell', vdF]) rfl rfl .k0 ?_); clear hf hs a; intro w hs a hf
    refine s_a hf rfl ?_; clear hf a; intro a hf
    refine s_nil ?_
    refine then_n ?_
    refine wp_ret ?_
    refine then_r ?_
    refine r_2c hf Tryz.results16 rfl rfl hs ag37 rfl (by repeat constructor) ?_
    have hru : runS s (opsR s.now) = coS t syO := by rw [opsR_pre hi2, runS_stop (by rw [hpr2]; exact hi6), hpr2]
    obtain ⟨r1, r2⟩ := rec_bad hi1 (by rw [hru]; exact hi6)
    rw [r1, r2, hru]
    replace hs := hs.take (A := refA 88 152 5 3 D (coS t syO).2) (by repeat constructor)
    exact ⟨rfl, St.mid [_, _, _, _] hs⟩
   first | simp only [zd1, zd2, zd3, zd4, ne_eq, Classical.not_not] at hi6 | skip
   have hpr : runS s (preR s.now) = (0, (coS t syO).2) := by rw [hpr2]; exact Prod.ext hi6 rfl
   replace hs := hs.take (A := cb b2 37 (vdF (0, 0, 0))) (by repeat constructor)
   replace hs := hs.take (A := cb b6 37 (vdF (lkV s.now).1)) (by repeat constructor)
   replace hs := hs.take (A := refA 88 152 5 3 D (coS t syO).2) (by repeat constructor)
   have hs9 := St.cut [_, _, _] [_, _] hs
   refine wp_skip ?_
   refine then_n ?_
   exact ⟨_, ⟨_, rfl, hpr, hs9⟩, hf.sub ⟨rfl, rfl, rfl, trivial⟩⟩
  first | simp only [zd1, zd2, zd3, zd4, ne_eq, Classical.not_not] at hi3 | skip
  have hpr : runS s (preR s.now) = (0, s) := by unfold preR; rw [if_neg hi3, runS_nil]
  have hs9 := St.cut [_, _, _] [_, _] hs
  refine wp_skip ?_
  refine then_n ?_
  exact ⟨_, ⟨_, rfl, hpr, hs9⟩, hf.sub ⟨rfl, rfl, rfl, trivial⟩⟩
 clear hf hs a
 rintro M a w ⟨t, rfl, hpr, hs⟩ hf
 have hto : DOk t := by have h9 := runS_ok (preR s.now) ho; rw [hpr] at h9; exact h9
 have htb : DB t (k + (preR s.now).length) := by have h9 := runS_b (preR s.now) ho hb; rw [hpr] at h9; exact h9
 have hpl : (preR s.now).length ≤ 2097153 := by
   unfold preR
   split
   · rename_i h3
     rcases look_cases s.now with h | h | ⟨_, k1, _⟩
     · omega
     · omega
     · have h9 := lkP_small k1 (by omega); rw [List.length_append, List.length_map, List.length_singleton]; omega
   · simp
 refine wp_seq ?_
 refine wp_region_lit ?_
 refine s_m hf rfl ?_; clear hf a; intro a hf
 refine s_v hf (x_fieldAddr fo37_2 (hf.eval rfl)) ?_; clear hf a; intro a hf
 refine s_r hf (x_load sc3 (hf.eval rfl) (by apply hs.cell <;> repeat constructor)) ?_; clear hf a; intro a hf
 replace hf := hf.now (k := 98) (v' := .int .i64 (lkV s.now).1.2.2) rfl (rfl)
 replace hs := hs.take (A := refA 88 152 5 3 D t) (by repeat constructor)
 refine s_do hf rfl (y_call (hf.eval rfl) (hf.evals rfl) Tryz.call58 ((rcut_spec w0 _ _ D t (lkV s.now).1.2.2 hs hto _ htb (by omega)).mono ?_))
 rintro e w1 ⟨rfl, hs⟩
 have hru : runS s (opsR s.now) = runS t [(3, (lkV s.now).1.2.2, []), syO] := by rw [opsR_pre hi2, runS_go (by rw [hpr]), hpr]
 rw [← hru] at hs ⊢
 refine ⟨_, rfl, ?_⟩; clear hf a; intro a hf
 refine s_a hf rfl ?_; clear hf a; intro a hf
 refine s_nil ?_
 refine then_n ?_
 refine wp_seq ?_
 refine wp_seq ?_
 refine wp_region_lit ?_
 refine s_m hf rfl ?_; clear hf a; intro a hf
 refine s_v hf (x_bin (hf.eval rfl) (hf.eval rfl) (r_ne _ _ _ _)) ?_; clear hf a; intro a hf
 refine s_nil ?_
 refine then_n ?_
 refine c_cond hf rfl (fun hi7 => ?_) (fun hi7 => ?_)
 ·first | simp only [zd1, zd2, zd3, zd4, ne_eq, Classical.not_not] at hi7 | skip
  refine wp_seq ?_
  refine wp_region_lit ?_
  refine s_r hf (x_build (v := .agg (vdF (0, 0, 0)).toArray) (hf.parts rfl) (fun w => by kernel_rfl) _) ?_; clear hf a; intro a hf
  refine s_m hf rfl ?_; clear hf a; intro a hf
  replace hs := hs.take (A := cb b2 37 (vdF (0, 0, 0))) (by repeat constructor)
  refine s_do0 hf rfl (y_storeAgg (cs := vdF (0, 0, 0)) hs (n := 3) (by kernel_rfl) (hf.eval rfl) (hf.eval rfl) (by simp [Value.oneCell', vdF]) rfl rfl .k0 ?_); clear hf hs a; intro w hs a hf
  refine s_a hf rfl ?_; clear hf a; intro a hf
  refine s_nil ?_
  refine then_n ?_
  refine wp_ret ?_
  refine then_r ?_
  refine r_2c hf Tryz.results16 rfl rfl hs ag37 rfl (by repeat constructor) ?_
  rw [(rec_bad hi1 hi7).1, (rec_bad hi1 hi7).2]
  replace hs := hs.take (A := refA 88 152 5 3 D (runS s (opsR s.now)).2) (by repeat constructor)
  exact ⟨rfl, St.mid [_, _] hs⟩
 first | simp only [zd1, zd2, zd3, zd4, ne_eq, Classical.not_not] at hi7 | skip
 refine wp_skip ?_
 refine then_n ?_
 refine wp_seq ?_
 refine wp_region_lit ?_
 refine s_r hf (x_loadBlk hs ag37 (hf.eval rfl) rfl (by repeat constructor)) ?_; clear hf a; intro a hf
 replace hs := hs.take (A := cb b2 37 (vdF (0, 0, 0))) (by repeat constructor)
 refine s_do0 hf rfl (y_storeAgg (cs := vdF (lkV s.now).1) hs (n := 3) (by kernel_rfl) (hf.eval rfl) (hf.eval rfl) (by simp [Value.oneCell', vdF]) rfl rfl .k0 ?_); clear hf hs a; intro w hs a hf
 refine s_a hf rfl ?_; clear hf a; intro a hf
 refine s_nil ?_
 refine then_n ?_
 refine wp_ret ?_
 refine r_2c hf Tryz.results16 rfl rfl hs ag37 rfl (by repeat constructor) ?_
 rw [(rec_ok hi1 hi7).1, (rec_ok hi1 hi7).2]
 replace hs := hs.take (A := refA 88 152 5 3 D (runS s (opsR s.now)).2) (by repeat constructor)
 exact ⟨rfl, St.mid [_, _] hs⟩
end Go.Proofs.YtehakfbfjpolfaaGreatDoor
