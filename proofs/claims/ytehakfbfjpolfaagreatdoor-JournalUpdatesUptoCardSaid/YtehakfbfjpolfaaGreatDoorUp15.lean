/- Texts 15 of 17 that the law rests on: the small library, contracts of functions, printed by a program. -/
import Derived.Test.YtehakfbfjpolfaaGreatDoorProg
import Derived.Test.YtehakfbfjpolfaaGreatDoorUp1
import Derived.Test.YtehakfbfjpolfaaGreatDoorUp2
import Derived.Test.YtehakfbfjpolfaaGreatDoorUp3
import Derived.Test.YtehakfbfjpolfaaGreatDoorUp4
import Derived.Test.YtehakfbfjpolfaaGreatDoorUp5
import Derived.Test.YtehakfbfjpolfaaGreatDoorUp6
import Derived.Test.YtehakfbfjpolfaaGreatDoorUp7
import Derived.Test.YtehakfbfjpolfaaGreatDoorUp8
import Derived.Test.YtehakfbfjpolfaaGreatDoorUp9
import Derived.Test.YtehakfbfjpolfaaGreatDoorUp10
import Derived.Test.YtehakfbfjpolfaaGreatDoorUp11
import Derived.Test.YtehakfbfjpolfaaGreatDoorUp12
import Derived.Test.YtehakfbfjpolfaaGreatDoorUp13
import Derived.Test.YtehakfbfjpolfaaGreatDoorUp14
set_option maxRecDepth 100000
set_option linter.all false
namespace Go.Proofs.YtehakfbfjpolfaaGreatDoor
open Go Vw
theorem inSize_spec (w : World) (n : Int) : Calls Tryz.prog 85 #[.int .i64 n] w fun e w' => e = .returned (.bool (decide (0 ≤ n ∧ n ≤ 16777216))) ∧ w' = w := by
 refine c_enter (N := 9) Tryz.func85 rfl Tryz.ntmps85 (by simp) ?_
 intro a hf
 refine wp_seq (wp_region_lit ?_)
 refine s_a hf rfl ?_; clear hf a; intro a hf
 refine s_nil (then_n (wp_seq (wp_region_lit ?_)))
 refine s_m hf rfl ?_; clear hf a; intro a hf
 refine s_v hf (x_bin (hf.eval rfl) (hf.eval rfl) (r_ge _ _ _ _)) ?_; clear hf a; intro a hf
 refine s_m hf rfl ?_; clear hf a; intro a hf
 refine s_bool hf (k := 5) rfl (fun hg1_2 hf' => ?_) (fun hg1_2 hf' => ?_)
 ·clear hf
  have hf := hf'
  clear hf'
  simp only [zd1, zd2, zd3, zd4, zd5, zd6, zd7] at hg1_2
  refine s_do hf (wanted_of hf rfl rfl rfl) (.value (x_move (hf.eval rfl) _) ?_); clear hf a; intro a hf
  refine s_do hf (wanted_of hf rfl rfl rfl) (.value (x_bin (hf.eval rfl) (hf.eval rfl) (r_le _ _ _ _) _) ?_); clear hf a; intro a hf
  refine s_v hf (x_pick_t (hf.eval rfl) (hf.eval rfl)) ?_; clear hf a; intro a hf
  refine s_a hf rfl ?_; clear hf a; intro a hf
  refine s_nil (then_n ?_)
  refine wp_ret ?_
  refine r_1 hf Tryz.results85 rfl ?_
  exact ⟨by congr 2; simp; omega, rfl⟩
 clear hf
 have hf := hf'
 clear hf'
 simp only [zd1, zd2, zd3, zd4, zd5, zd6, zd7] at hg1_2
 refine s_pass hf rfl rfl ?_; clear hf a; intro a hf
 refine s_pass hf rfl rfl ?_; clear hf a; intro a hf
 refine s_v hf (x_pick_f (hf.eval rfl) (hf.eval rfl)) ?_; clear hf a; intro a hf
 refine s_a hf rfl ?_; clear hf a; intro a hf
 refine s_nil (then_n ?_)
 refine wp_ret ?_
 refine r_1 hf Tryz.results85 rfl ?_
 exact ⟨by congr 2; simp; omega, rfl⟩
theorem rright_spec (w0 : World) (size : Int) (hz : 0 ≤ size) (hz2 : size ≤ 16777216) (aw : Option Addr) (cw : Nat) (ws : List Wr) (hrw : RdS wF 2 (hp w0) (.slice aw ws.length cw) ws) (hlw : ws.length ≤ 1048576) : Calls Tryz.prog 99 #[.int .i64 size, .slice aw ws.length cw] w0 fun e w' => e = .returned (.bool (rgt size ws 0)) ∧ Kept w0 w' None_ := by
 have hs := St.start w0 None_
 refine c_enter (N := 50) Tryz.func99 rfl Tryz.ntmps99 (by simp) ?_
 intro a hf
 refine wp_seq (wp_region_lit ?_)
 refine s_a hf rfl ?_; clear hf a; intro a hf
 refine s_nil (then_n (wp_seq (wp_region_lit ?_)))
 refine s_a hf rfl ?_; clear hf a; intro a hf
 refine s_nil (then_n (wp_seq (wp_seq (wp_region_lit ?_))))
 refine s_a hf rfl ?_; clear hf a; intro a hf
 refine s_nil (then_n (wp_block ?_))
 refine c_loop (L0 := [(0, _), (1, _)]) (fun M w m => ∃ (i : Nat) (en : Int), M = [(5, .int .i64 en), (6, .int .i64 (i : Int))] ∧ ws.length - i = m ∧ i ≤ ws.length ∧ rgt size ws 0 = rgt size (ws.drop i) en ∧ 0 ≤ en ∧ en ≤ 16777216 ∧ St ⟨w0, None_⟩ w []) (M0 := [(5, .int .i64 0), (6, .int .i64 0)]) (⟨0, 0, rfl, rfl, Nat.zero_le _, rfl, by omega, by omega, hs⟩) (hf.sub ⟨rfl, rfl, rfl, rfl, trivial⟩) ?_
 clear hf hs a
 rintro M m a w ⟨i, en, rfl, rfl, hi, hinv, he0, he1, hs⟩ hf
 refine wp_seq (wp_seq (wp_region_lit ?_))
 refine s_m hf rfl ?_; clear hf a; intro a hf
 refine s_m hf rfl ?_; clear hf a; intro a hf
 refine s_v hf (x_len Tryz.underlying23 (hf.eval rfl)) ?_; clear hf a; intro a hf
 refine s_v hf (x_bin (hf.eval rfl) (hf.eval rfl) (r_lt _ _ _ _)) ?_; clear hf a; intro a hf
 refine s_nil (then_n ?_)
 refine c_cond hf rfl (fun hi0 => ?_) (fun hi0 => ?_)
 ·simp only [zd1, zd2, zd3, zd4, zd5, zd6, zd7] at hi0
  have hlt : i < ws.length := by omega
  obtain ⟨aw, rfl⟩ := hrw.some (by omega)
  refine wp_skip (then_n (wp_seq (wp_block (wp_seq (wp_region_lit ?_)))))
  refine s_m hf rfl ?_; clear hf a; intro a hf
  refine s_m hf rfl ?_; clear hf a; intro a hf
  refine s_v hf (x_indexAddr sl23 (hf.eval rfl) (hf.eval rfl) (by omega) (by omega)) ?_; clear hf a; intro a hf
  refine s_r hf (x_loadS (f := wF) ag54 (fun _ => rfl) (hs.old hrw) (hf.eval rfl) (by simpa using hlt)) ?_; clear hf a; intro a hf
  refine s_do hf rfl (y_alloc hs Tryz.zeroValue54 ?_); clear hf hs a; intro b7 w hs a hf
  change St _ _ (cb b7 54 [.int .i64 0, .slice none 0 0] :: _) at hs
  refine s_do0 hf rfl (y_storeAgg (cs := wF ws[i]) hs (n := 2) (by kernel_rfl) (hf.eval rfl) (hf.eval rfl) (by simp [Value.oneCell', wF]) rfl rfl .k0 ?_); clear hf hs a; intro w hs a hf
  have hwl : wL ws[i] = (ws[i].2.2.2.length : Int) := rfl
  refine s_nil (then_n (wp_seq (wp_seq (wp_region_lit ?_))))
  refine s_v hf (x_fieldAddr fo54_1 (hf.eval rfl)) ?_; clear hf a; intro a hf
  refine s_r hf (x_load sc22 (hf.eval rfl) (by apply hs.cell <;> repeat constructor)) ?_; clear hf a; intro a hf
  refine s_v hf (x_len Tryz.underlying22 (hf.eval rfl)) ?_; clear hf a; intro a hf
  refine s_v hf (x_bin (hf.eval rfl) (hf.eval rfl) (r_eq _ _ _ _)) ?_; clear hf a; intro a hf
  refine s_m hf rfl ?_; clear hf a; intro a hf
  refine s_bool hf (k := 22) rfl (fun hg6_4 hf' => ?_) (fun hg6_4 hf' => ?_)
  ·clear hf
   have hf := hf'
   clear hf'
   simp only [zd1, zd2, zd3, zd4, zd5, zd6, zd7] at hg6_4
   refine s_pass hf rfl rfl ?_; clear hf a; intro a hf
   refine s_pass hf rfl rfl ?_; clear hf a; intro a hf
   refine s_pass hf rfl rfl ?_; clear hf a; intro a hf
   refine s_pass hf rfl rfl ?_; clear hf a; intro a hf
   refine s_v hf (x_pick_t (hf.eval rfl) (hf.eval rfl)) ?_; clear hf a; intro a hf
   refine s_m hf rfl ?_; clear hf a; intro a hf
   refine s_pass hf rfl rfl ?_; clear hf a; intro a hf
   refine s_pass hf rfl rfl ?_; clear hf a; intro a hf
   refine s_pass hf rfl rfl ?_; clear hf a; intro a hf
   refine s_pass hf rfl rfl ?_; clear hf a; intro a hf
   refine s_v hf (x_pick_t (hf.eval rfl) (hf.eval rfl)) ?_; clear hf a; intro a hf
   refine s_m hf rfl ?_; clear hf a; intro a hf
   refine s_pass hf rfl rfl ?_; clear hf a; intro a hf
   refine s_pass hf rfl rfl ?_; clear hf a; intro a hf
   refine s_pass hf rfl rfl ?_; clear hf a; intro a hf
   refine s_pass hf rfl rfl ?_; clear hf a; intro a hf
   refine s_pass hf rfl rfl ?_; clear hf a; intro a hf
   refine s_pass hf rfl rfl ?_; clear hf a; intro a hf
   refine s_pass hf rfl rfl ?_; clear hf a; intro a hf
   refine s_pass hf rfl rfl ?_; clear hf a; intro a hf
   refine s_v hf (x_pick_t (hf.eval rfl) (hf.eval rfl)) ?_; clear hf a; intro a hf
   refine s_nil (then_n ?_)
   refine c_cond_t hf rfl rfl ?_
   refine wp_seq (wp_region_lit ?_)
   refine s_a hf rfl ?_; clear hf a; intro a hf
   refine s_nil (then_n ?_)
   refine wp_ret ?_
   refine then_r (blk_r (then_r (then_r (blk_r (then_r ?_)))))
   refine r_1 hf Tryz.results99 rfl ?_
   exact ⟨by rw [hinv, rgt_step size _ hlt, if_pos (by omega)], hs.kept⟩
  clear hf
  have hf := hf'
  clear hf'
  simp only [zd1, zd2, zd3, zd4, zd5, zd6, zd7] at hg6_4
  refine s_do hf (wanted_of hf rfl rfl rfl) (.value (x_fieldAddr fo54_0 (hf.eval rfl) _) ?_); clear hf a; intro a hf
  refine s_do hf (wanted_of hf rfl rfl rfl) (.value (x_load sc3 (hf.eval rfl) (by apply hs.cell <;> repeat constructor)) ?_); clear hf a; intro a hf
  refine s_do hf (wanted_of hf rfl rfl rfl) (.value (x_move (hf.eval rfl) _) ?_); clear hf a; intro a hf
  refine s_do hf (wanted_of hf rfl rfl rfl) (.value (x_bin (hf.eval rfl) (hf.eval rfl) (r_lt _ _ _ _) _) ?_); clear hf a; intro a hf
  refine s_v hf (x_pick_f (hf.eval rfl) (hf.eval rfl)) ?_; clear hf a; intro a hf
  refine s_m hf rfl ?_; clear hf a; intro a hf
  refine s_bool hf (k := 28) rfl (fun hg6_10 hf' => ?_) (fun hg6_10 hf' => ?_)
  ·clear hf
   have hf := hf'
   clear hf'
   simp only [zd1, zd2, zd3, zd4, zd5, zd6, zd7] at hg6_10
   refine s_pass hf rfl rfl ?_; clear hf a; intro a hf
   refine s_pass hf rfl rfl ?_; clear hf a; intro a hf
   refine s_pass hf rfl rfl ?_; clear hf a; intro a hf
   refine s_pass hf rfl rfl ?_; clear hf a; intro a hf
   refine s_v hf (x_pick_t (hf.eval rfl) (hf.eval rfl)) ?_; clear hf a; intro a hf
   refine s_m hf rfl ?_; clear hf a; intro a hf
   refine s_pass hf rfl rfl ?_; clear hf a; intro a hf
   refine s_pass hf rfl rfl ?_; clear hf a; intro a hf
   refine s_pass hf rfl rfl ?_; clear hf a; intro a hf
   refine s_pass hf rfl rfl ?_; clear hf a; intro a hf
   refine s_pass hf rfl rfl ?_; clear hf a; intro a hf
   refine s_pass hf rfl rfl ?_; clear hf a; intro a hf
   refine s_pass hf rfl rfl ?_; clear hf a; intro a hf
   refine s_pass hf rfl rfl ?_; clear hf a; intro a hf
   refine s_v hf (x_pick_t (hf.eval rfl) (hf.eval rfl)) ?_; clear hf a; intro a hf
   refine s_nil (then_n ?_)
   refine c_cond_t hf rfl rfl ?_
   refine wp_seq (wp_region_lit ?_)
   refine s_a hf rfl ?_; clear hf a; intro a hf
   refine s_nil (then_n ?_)
   refine wp_ret ?_
   refine then_r (blk_r (then_r (then_r (blk_r (then_r ?_)))))
   refine r_1 hf Tryz.results99 rfl ?_
   exact ⟨by rw [hinv, rgt_step size _ hlt, if_pos (by omega)], hs.kept⟩
  clear hf
  have hf := hf'
  clear hf'
  simp only [zd1, zd2, zd3, zd4, zd5, zd6, zd7] at hg6_10
  refine s_do hf (wanted_of hf rfl rfl rfl) (.value (x_fieldAddr fo54_0 (hf.eval rfl) _) ?_); clear hf a; intro a hf
  refine s_do hf (wanted_of hf rfl rfl rfl) (.value (x_load sc3 (hf.eval rfl) (by apply hs.cell <;> repeat constructor)) ?_); clear hf a; intro a hf
  refine s_do hf (wanted_of hf rfl rfl rfl) (.value (x_move (hf.eval rfl) _) ?_); clear hf a; intro a hf
  refine s_do hf (wanted_of hf rfl rfl rfl) (.value (x_bin (hf.eval rfl) (hf.eval rfl) (r_gt _ _ _ _) _) ?_); clear hf a; intro a hf
  refine s_v hf (x_pick_f (hf.eval rfl) (hf.eval rfl)) ?_; clear hf a; intro a hf
  refine s_m hf rfl ?_; clear hf a; intro a hf
  refine s_bool hf (k := 34) rfl (fun hg6_16 hf' => ?_) (fun hg6_16 hf' => ?_)
  ·clear hf
   have hf := hf'
   clear hf'
   simp only [zd1, zd2, zd3, zd4, zd5, zd6, zd7] at hg6_16
   refine s_pass hf rfl rfl ?_; clear hf a; intro a hf
   refine s_pass hf rfl rfl ?_; clear hf a; intro a hf
   refine s_pass hf rfl rfl ?_; clear hf a; intro a hf
   refine s_pass hf rfl rfl ?_; clear hf a; intro a hf
   refine s_pass hf rfl rfl ?_; clear hf a; intro a hf
   refine s_pass hf rfl rfl ?_; clear hf a; intro a hf
   refine s_pass hf rfl rfl ?_; clear hf a; intro a hf
   refine s_pass hf rfl rfl ?_; clear hf a; intro a hf
   refine s_v hf (x_pick_t (hf.eval rfl) (hf.eval rfl)) ?_; clear hf a; intro a hf
   refine s_nil (then_n ?_)
   refine c_cond_t hf rfl rfl ?_
   refine wp_seq (wp_region_lit ?_)
   refine s_a hf rfl ?_; clear hf a; intro a hf
   refine s_nil (then_n ?_)
   refine wp_ret ?_
   refine then_r (blk_r (then_r (then_r (blk_r (then_r ?_)))))
   refine r_1 hf Tryz.results99 rfl ?_
   exact ⟨by rw [hinv, rgt_step size _ hlt, if_pos (by omega)], hs.kept⟩
  clear hf
  have hf := hf'
  clear hf'
  simp only [zd1, zd2, zd3, zd4, zd5, zd6, zd7] at hg6_16
  refine s_do hf (wanted_of hf rfl rfl rfl) (.value (x_fieldAddr fo54_1 (hf.eval rfl) _) ?_); clear hf a; intro a hf
  refine s_do hf (wanted_of hf rfl rfl rfl) (.value (x_load sc22 (hf.eval rfl) (by apply hs.cell <;> repeat constructor)) ?_); clear hf a; intro a hf
  refine s_do hf (wanted_of hf rfl rfl rfl) (.value (x_len Tryz.underlying22 (hf.eval rfl) _) ?_); clear hf a; intro a hf
  refine s_do hf (wanted_of hf rfl rfl rfl) (.value (x_move (hf.eval rfl) _) ?_); clear hf a; intro a hf
  refine s_do hf (wanted_of hf rfl rfl rfl) (.value (x_fieldAddr fo54_0 (hf.eval rfl) _) ?_); clear hf a; intro a hf
  refine s_do hf (wanted_of hf rfl rfl rfl) (.value (x_load sc3 (hf.eval rfl) (by apply hs.cell <;> repeat constructor)) ?_); clear hf a; intro a hf
  refine s_do hf (wanted_of hf rfl rfl rfl) (.value (x_bin (hf.eval rfl) (hf.eval rfl) (r_subi _ (by omega) (by omega)) _) ?_); clear hf a; intro a hf
  refine s_do hf (wanted_of hf rfl rfl rfl) (.value (x_bin (hf.eval rfl) (hf.eval rfl) (r_gt _ _ _ _) _) ?_); clear hf a; intro a hf
  refine s_v hf (x_pick_f (hf.eval rfl) (hf.eval rfl)) ?_; clear hf a; intro a hf
  refine s_nil (then_n ?_)
  refine c_cond hf rfl (fun hi1 => ?_) (fun hi1 => ?_)
  ·simp only [zd1, zd2, zd3, zd4, zd5, zd6, zd7] at hi1
   refine wp_seq (wp_region_lit ?_)
   refine s_a hf rfl ?_; clear hf a; intro a hf
   refine s_nil (then_n ?_)
   refine wp_ret ?_
   refine then_r (blk_r (then_r (then_r (blk_r (then_r ?_)))))
   refine r_1 hf Tryz.results99 rfl ?_
   exact ⟨by rw [hinv, rgt_step size _ hlt, if_pos (by omega)], hs.kept⟩
  simp only [zd1, zd2, zd3, zd4, zd5, zd6, zd7] at hi1
  refine wp_skip (then_n (wp_region_lit ?_))
  refine s_v hf (x_fieldAddr fo54_0 (hf.eval rfl)) ?_; clear hf a; intro a hf
  refine s_r hf (x_load sc3 (hf.eval rfl) (by apply hs.cell <;> repeat constructor)) ?_; clear hf a; intro a hf
  refine s_v hf (x_fieldAddr fo54_1 (hf.eval rfl)) ?_; clear hf a; intro a hf
  refine s_r hf (x_load sc22 (hf.eval rfl) (by apply hs.cell <;> repeat constructor)) ?_; clear hf a; intro a hf
  refine s_v hf (x_len Tryz.underlying22 (hf.eval rfl)) ?_; clear hf a; intro a hf
  refine s_v hf (x_bin (hf.eval rfl) (hf.eval rfl) (r_addi _ (by omega) (by omega))) ?_; clear hf a; intro a hf
  refine s_a hf rfl ?_; clear hf a; intro a hf
  refine s_nil (blk_n (then_n (wp_region_lit ?_)))
  refine s_m hf rfl ?_; clear hf a; intro a hf
  refine s_v hf (x_bin (hf.eval rfl) (hf.eval rfl) (r_addi _ (by omega) (by omega))) ?_; clear hf a; intro a hf
  refine s_a hf rfl ?_; clear hf a; intro a hf
  refine s_nil ?_
  replace hinv : rgt size ws 0 = rgt size (ws.drop (i + 1)) (ws[i].1 + wL ws[i]) := by rw [hinv, rgt_step size _ hlt, if_neg (by omega)]
  exact ⟨_, _, ⟨i + 1, _, rfl, rfl, by omega, hinv, by omega, by omega, hs.drop⟩, by omega, hf.sub ⟨rfl, rfl, rfl, rfl, trivial⟩⟩
 simp only [zd1, zd2, zd3, zd4, zd5, zd6, zd7] at hi0
 refine wp_exit (then_x (then_x (blk_x (then_n (wp_seq (wp_region_lit ?_))))))
 refine s_a hf rfl ?_; clear hf a; intro a hf
 refine s_nil (then_n ?_)
 refine wp_ret ?_
 refine r_1 hf Tryz.results99 rfl ?_
 exact ⟨by rw [hinv, List.drop_of_length_le (by omega)]; rfl, hs.kept⟩
theorem spans_spec (w0 : World) (old : Int) (ho : 0 ≤ old) (ho2 : old ≤ 16777216) (aw : Option Addr) (cw : Nat) (ws : List Wr) (hrw : RdS wF 2 (hp w0) (.slice aw ws.length cw) ws) (hlw : ws.length ≤ 1048576) (hok : ∀ z ∈ ws, 0 ≤ z.1 ∧ z.1 + wL z ≤ 16777216) : Calls Tryz.prog 32 #[.int .i64 old, .slice aw ws.length cw] w0 fun e w' => ∃ v, e = .returned v ∧ St ⟨w0, None_⟩ w' [sl 119 2 v (savL old ws).length ((savL old ws).flatMap spF)] := by
 have hs := (St.start w0 None_).emp (A := sl 119 2 (.slice none 0 0) 0 []) (fun h => ⟨rfl, .inl ⟨rfl, rfl⟩⟩)
 refine c_enter (N := 48) Tryz.func32 rfl Tryz.ntmps32 (by simp) ?_
 intro a hf
 refine wp_seq (wp_region_lit ?_)
 refine s_a hf rfl ?_; clear hf a; intro a hf
 refine s_nil (then_n (wp_seq (wp_region_lit ?_)))
 refine s_a hf rfl ?_; clear hf a; intro a hf
 refine s_nil (then_n (wp_seq (wp_seq (wp_region_lit ?_))))
 refine s_a hf rfl ?_; clear hf a; intro a hf
 refine s_nil (then_n (wp_block ?_))
 refine c_loop (L0 := [(0, _), (1, _), (4, _)]) (fun M w m => ∃ (i : Nat) (v : Value), M = [(5, v), (6, .int .i64 (i : Int))] ∧ ws.length - i = m ∧ i ≤ ws.length ∧ (savL old (ws.take i)).length ≤ i ∧ St ⟨w0, None_⟩ w [sl 119 2 v (savL old (ws.take i)).length ((savL old (ws.take i)).flatMap spF)]) (M0 := [(5, .slice none 0 0), (6, .int .i64 0)]) (⟨0, _, rfl, rfl, Nat.zero_le _, Nat.le_refl _, hs⟩) (hf.sub ⟨rfl, rfl, rfl, rfl, rfl, trivial⟩) ?_
 clear hf hs a
 rintro M m a w ⟨i, v, rfl, rfl, hi, hln, hs⟩ hf
 refine wp_seq (wp_seq (wp_region_lit ?_))
 refine s_m hf rfl ?_; clear hf a; intro a hf
 refine s_m hf rfl ?_; clear hf a; intro a hf
 refine s_v hf (x_len Tryz.underlying23 (hf.eval rfl)) ?_; clear hf a; intro a hf
 refine s_v hf (x_bin (hf.eval rfl) (hf.eval rfl) (r_lt _ _ _ _)) ?_; clear hf a; intro a hf
 refine s_nil (then_n ?_)
 refine c_cond hf rfl (fun hi0 => ?_) (fun hi0 => ?_)
 ·simp only [zd1, zd2, zd3, zd4, zd5, zd6, zd7] at hi0
  have hlt : i < ws.length := by omega
  obtain ⟨aw, rfl⟩ := hrw.some (by omega)
  obtain ⟨ab, ao2, rfl⟩ := rdS_plain (sz := 2) (fun _ => rfl) (by decide) hrw (by omega)
  have hb := hok _ (List.getElem_mem hlt)
  have hwl : wL ws[i] = (ws[i].2.2.2.length : Int) := rfl
  refine wp_skip (then_n (wp_seq (wp_block (wp_seq ?_))))
  refine c_draw hs (fun _ => True) [.held, .held, .held, .held, .read, .held, .held, .held, .held, .read, .held, .held, .held] (by kernel_rfl) (by kernel_rfl) (fun _ _ _ => trivial) ?_
  clear hs; intro w hs hC hw
  refine m_held hf rfl (fun w' _ => x_move (hf.eval rfl) w') ?_; clear hf a; intro a hf
  refine m_held hf rfl (fun w' _ => x_move (hf.eval rfl) w') ?_; clear hf a; intro a hf
  refine m_held hf rfl (fun w' _ => x_indexAddr sl23 (hf.eval rfl) (hf.eval rfl) (by omega) (by omega) w') ?_; clear hf a; intro a hf
  replace hf := hf.now (k := 16) (v' := .pointer (some ⟨ab, ao2 + i * 2, none⟩)) rfl (by rw [addr_add]; rfl)
  refine m_held hf rfl (fun w' _ => x_fieldAddr fo54_0 (hf.eval rfl) w') ?_; clear hf a; intro a hf
  refine m_read hf rfl (x_load sc3 (hf.eval rfl) (rdS_cellAt (f := wF) (sz := 2) (fun _ => rfl) (hs.old hrw) (k := 0) hlt rfl)) ?_; clear hf a; intro a hf
  refine m_held hf rfl (fun w' _ => x_move (hf.eval rfl) w') ?_; clear hf a; intro a hf
  refine m_held hf rfl (fun w' _ => x_move (hf.eval rfl) w') ?_; clear hf a; intro a hf
  refine m_held hf rfl (fun w' _ => x_indexAddr sl23 (hf.eval rfl) (hf.eval rfl) (by omega) (by omega) w') ?_; clear hf a; intro a hf
  replace hf := hf.now (k := 21) (v' := .pointer (some ⟨ab, ao2 + i * 2, none⟩)) rfl (by rw [addr_add]; rfl)
  refine m_held hf rfl (fun w' _ => x_fieldAddr fo54_1 (hf.eval rfl) w') ?_; clear hf a; intro a hf
  refine m_read hf rfl (x_load sc22 (hf.eval rfl) (rdS_cellAt (f := wF) (sz := 2) (fun _ => rfl) (hs.old hrw) (k := 1) hlt rfl)) ?_; clear hf a; intro a hf
  refine m_held hf rfl (fun w' _ => x_len Tryz.underlying22 (hf.eval rfl) w') ?_; clear hf a; intro a hf
  refine m_held hf rfl (fun w' _ => x_bin (hf.eval rfl) (hf.eval rfl) (r_addi _ (by omega) (by omega)) w') ?_; clear hf a; intro a hf
  refine m_held hf rfl (fun w' _ => x_assign (hf.eval rfl) w') ?_; clear hf a; intro a hf
  refine m_nil ?_
  refine then_n (wp_seq (wp_seq (wp_region_lit ?_)))
  refine s_m hf rfl ?_; clear hf a; intro a hf
  refine s_m hf rfl ?_; clear hf a; intro a hf
  refine s_v hf (x_bin (hf.eval rfl) (hf.eval rfl) (r_gt _ _ _ _)) ?_; clear hf a; intro a hf
  refine s_nil (then_n ?_)
  refine c_cond hf rfl (fun hi1 => ?_) (fun hi1 => ?_)
  ·simp only [zd1, zd2, zd3, zd4, zd5, zd6, zd7] at hi1
   refine wp_region_lit ?_
   refine s_m hf rfl ?_; clear hf a; intro a hf
   refine s_a hf rfl ?_; clear hf a; intro a hf
   refine s_nil (then_n (wp_seq (wp_region_lit ?_)))
   replace hf := hf.now (k := 7) (v' := .int .i64 (min old (ws[i].1 + wL ws[i]))) rfl (by congr 1; omega)
   refine s_m hf rfl ?_; clear hf a; intro a hf
   refine s_m hf rfl ?_; clear hf a; intro a hf
   refine s_v hf (x_indexAddr sl23 (hf.eval rfl) (hf.eval rfl) (by omega) (by omega)) ?_; clear hf a; intro a hf
   replace hf := hf.now (k := 32) (v' := .pointer (some ⟨ab, ao2 + i * 2, none⟩)) rfl (by rw [addr_add]; rfl)
   refine s_v hf (x_fieldAddr fo54_0 (hf.eval rfl)) ?_; clear hf a; intro a hf
   refine s_r hf (x_load sc3 (hf.eval rfl) (rdS_cellAt (f := wF) (sz := 2) (fun _ => rfl) (hs.old hrw) (k := 0) hlt rfl)) ?_; clear hf a; intro a hf
   refine s_m hf rfl ?_; clear hf a; intro a hf
   refine s_v hf (x_bin (hf.eval rfl) (hf.eval rfl) (r_lt _ _ _ _)) ?_; clear hf a; intro a hf
   refine s_nil (then_n ?_)
   refine c_cond hf rfl (fun hi2 => ?_) (fun hi2 => ?_)
   ·simp only [decide_eq_true_eq, decide_eq_false_iff_not] at hi2
    refine wp_region_lit ?_
    refine s_m hf rfl ?_; clear hf a; intro a hf
    refine s_m hf rfl ?_; clear hf a; intro a hf
    refine s_m hf rfl ?_; clear hf a; intro a hf
    refine s_v hf (x_indexAddr sl23 (hf.eval rfl) (hf.eval rfl) (by omega) (by omega)) ?_; clear hf a; intro a hf
    replace hf := hf.now (k := 40) (v' := .pointer (some ⟨ab, ao2 + i * 2, none⟩)) rfl (by rw [addr_add]; rfl)
    refine s_v hf (x_fieldAddr fo54_0 (hf.eval rfl)) ?_; clear hf a; intro a hf
    refine s_r hf (x_load sc3 (hf.eval rfl) (rdS_cellAt (f := wF) (sz := 2) (fun _ => rfl) (hs.old hrw) (k := 0) hlt rfl)) ?_; clear hf a; intro a hf
    refine s_m hf rfl ?_; clear hf a; intro a hf
    refine s_r hf (x_build (v := .agg #[.int .i64 ws[i].1, .int .i64 (min old (ws[i].1 + wL ws[i]))]) (hf.parts rfl) (fun w => by kernel_rfl) _) ?_; clear hf a; intro a hf
    refine s_do hf rfl (y_lit (xs := [.tmp 44]) hs sl68 (hf.evals rfl) rfl (by simp [Value.cells]) (by decide) ?_); clear hf hs a; intro b2 w hs a hf
    refine s_do hf rfl (y_append (n := (savL old (ws.take i)).length) (m := 1) (ys := [.int .i64 ws[i].1, .int .i64 (min old (ws[i].1 + wL ws[i]))]) hs sl68 (hf.eval rfl) (hf.eval rfl) .k1 (hs.rd .k0 fun h hb => rd_rows hb rfl) (by simp [Value.oneCell']) (by omega) (by rw [maxLen_eq]; omega) ?_); clear hf hs a; intro v2 w hs hv a hf
    have hsv := savL_succ old hlt
    rw [if_pos hi2] at hsv
    have hln2 : (savL old (ws.take (i + 1))).length ≤ i + 1 := by rw [hsv]; simp; omega
    have hs2 : St ⟨w0, None_⟩ w [sl 119 2 v2 (savL old (ws.take (i + 1))).length ((savL old (ws.take (i + 1))).flatMap spF)] := by
      rw [hsv, List.length_append, List.flatMap_append]
      exact hs.lose .k1
    refine s_a hf rfl ?_; clear hf a; intro a hf
    refine s_nil (blk_n (then_n (wp_region_lit ?_)))
    refine s_m hf rfl ?_; clear hf a; intro a hf
    refine s_v hf (x_bin (hf.eval rfl) (hf.eval rfl) (r_addi _ (by omega) (by omega))) ?_; clear hf a; intro a hf
    refine s_a hf rfl ?_; clear hf a; intro a hf
    refine s_nil ?_
    exact ⟨_, _, ⟨i + 1, _, rfl, rfl, by omega, by first | exact hln2 | (rw [savL_succ old hlt, if_neg hi2]; simp; omega), by first | exact hs2 | (rw [savL_succ old hlt, if_neg hi2, List.append_nil]; exact hs)⟩, by omega, hf.sub ⟨rfl, rfl, rfl, rfl, rfl, trivial⟩⟩
   simp only [decide_eq_true_eq, decide_eq_false_iff_not] at hi2
   refine wp_skip (blk_n (then_n (wp_region_lit ?_)))
   refine s_m hf rfl ?_; clear hf a; intro a hf
   refine s_v hf (x_bin (hf.eval rfl) (hf.eval rfl) (r_addi _ (by omega) (by omega))) ?_; clear hf a; intro a hf
   refine s_a hf rfl ?_; clear hf a; intro a hf
   refine s_nil ?_
   exact ⟨_, _, ⟨i + 1, _, rfl, rfl, by omega, by first | exact hln2 | (rw [savL_succ old hlt, if_neg hi2]; simp; omega), by first | exact hs2 | (rw [savL_succ old hlt, if_neg hi2, List.append_nil]; exact hs)⟩, by omega, hf.sub ⟨rfl, rfl, rfl, rfl, rfl, trivial⟩⟩
  simp only [zd1, zd2, zd3, zd4, zd5, zd6, zd7] at hi1
  refine wp_skip (then_n (wp_seq (wp_region_lit ?_)))
  replace hf := hf.now (k := 7) (v' := .int .i64 (min old (ws[i].1 + wL ws[i]))) rfl (by congr 1; omega)
  refine s_m hf rfl ?_; clear hf a; intro a hf
  refine s_m hf rfl ?_; clear hf a; intro a hf
  refine s_v hf (x_indexAddr sl23 (hf.eval rfl) (hf.eval rfl) (by omega) (by omega)) ?_; clear hf a; intro a hf
  replace hf := hf.now (k := 32) (v' := .pointer (some ⟨ab, ao2 + i * 2, none⟩)) rfl (by rw [addr_add]; rfl)
  refine s_v hf (x_fieldAddr fo54_0 (hf.eval rfl)) ?_; clear hf a; intro a hf
  refine s_r hf (x_load sc3 (hf.eval rfl) (rdS_cellAt (f := wF) (sz := 2) (fun _ => rfl) (hs.old hrw) (k := 0) hlt rfl)) ?_; clear hf a; intro a hf
  refine s_m hf rfl ?_; clear hf a; intro a hf
  refine s_v hf (x_bin (hf.eval rfl) (hf.eval rfl) (r_lt _ _ _ _)) ?_; clear hf a; intro a hf
  refine s_nil (then_n ?_)
  refine c_cond hf rfl (fun hi2 => ?_) (fun hi2 => ?_)
  ·simp only [decide_eq_true_eq, decide_eq_false_iff_not] at hi2
   refine wp_region_lit ?_
   refine s_m hf rfl ?_; clear hf a; intro a hf
   refine s_m hf rfl ?_; clear hf a; intro a hf
   refine s_m hf rfl ?_; clear hf a; intro a hf
   refine s_v hf (x_indexAddr sl23 (hf.eval rfl) (hf.eval rfl) (by omega) (by omega)) ?_; clear hf a; intro a hf
   replace hf := hf.now (k := 40) (v' := .pointer (some ⟨ab, ao2 + i * 2, none⟩)) rfl (by rw [addr_add]; rfl)
   refine s_v hf (x_fieldAddr fo54_0 (hf.eval rfl)) ?_; clear hf a; intro a hf
   refine s_r hf (x_load sc3 (hf.eval rfl) (rdS_cellAt (f := wF) (sz := 2) (fun _ => rfl) (hs.old hrw) (k := 0) hlt rfl)) ?_; clear hf a; intro a hf
   refine s_m hf rfl ?_; clear hf a; intro a hf
   refine s_r hf (x_build (v := .agg #[.int .i64 ws[i].1, .int .i64 (min old (ws[i].1 + wL ws[i]))]) (hf.parts rfl) (fun w => by kernel_rfl) _) ?_; clear hf a; intro a hf
   refine s_do hf rfl (y_lit (xs := [.tmp 44]) hs sl68 (hf.evals rfl) rfl (by simp [Value.cells]) (by decide) ?_); clear hf hs a; intro b2 w hs a hf
   refine s_do hf rfl (y_append (n := (savL old (ws.take i)).length) (m := 1) (ys := [.int .i64 ws[i].1, .int .i64 (min old (ws[i].1 + wL ws[i]))]) hs sl68 (hf.eval rfl) (hf.eval rfl) .k1 (hs.rd .k0 fun h hb => rd_rows hb rfl) (by simp [Value.oneCell']) (by omega) (by rw [maxLen_eq]; omega) ?_); clear hf hs a; intro v2 w hs hv a hf
   have hsv := savL_succ old hlt
   rw [if_pos hi2] at hsv
   have hln2 : (savL old (ws.take (i + 1))).length ≤ i + 1 := by rw [hsv]; simp; omega
   have hs2 : St ⟨w0, None_⟩ w [sl 119 2 v2 (savL old (ws.take (i + 1))).length ((savL old (ws.take (i + 1))).flatMap spF)] := by
     rw [hsv, List.length_append, List.flatMap_append]
     exact hs.lose .k1
   refine s_a hf rfl ?_; clear hf a; intro a hf
   refine s_nil (blk_n (then_n (wp_region_lit ?_)))
   refine s_m hf rfl ?_; clear hf a; intro a hf
   refine s_v hf (x_bin (hf.eval rfl) (hf.eval rfl) (r_addi _ (by omega) (by omega))) ?_; clear hf a; intro a hf
   refine s_a hf rfl ?_; clear hf a; intro a hf
   refine s_nil ?_
   exact ⟨_, _, ⟨i + 1, _, rfl, rfl, by omega, by first | exact hln2 | (rw [savL_succ old hlt, if_neg hi2]; simp; omega), by first | exact hs2 | (rw [savL_succ old hlt, if_neg hi2, List.append_nil]; exact hs)⟩, by omega, hf.sub ⟨rfl, rfl, rfl, rfl, rfl, trivial⟩⟩
  simp only [decide_eq_true_eq, decide_eq_false_iff_not] at hi2
  refine wp_skip (blk_n (then_n (wp_region_lit ?_)))
  refine s_m hf rfl ?_; clear hf a; intro a hf
  refine s_v hf (x_bin (hf.eval rfl) (hf.eval rfl) (r_addi _ (by omega) (by omega))) ?_; clear hf a; intro a hf
  refine s_a hf rfl ?_; clear hf a; intro a hf
  refine s_nil ?_
  exact ⟨_, _, ⟨i + 1, _, rfl, rfl, by omega, by first | exact hln2 | (rw [savL_succ old hlt, if_neg hi2]; simp; omega), by first | exact hs2 | (rw [savL_succ old hlt, if_neg hi2, List.append_nil]; exact hs)⟩, by omega, hf.sub ⟨rfl, rfl, rfl, rfl, rfl, trivial⟩⟩
 simp only [zd1, zd2, zd3, zd4, zd5, zd6, zd7] at hi0
 refine wp_exit (then_x (then_x (blk_x (then_n (wp_seq (wp_region_lit ?_))))))
 refine s_m hf rfl ?_; clear hf a; intro a hf
 refine s_a hf rfl ?_; clear hf a; intro a hf
 refine s_nil (then_n ?_)
 refine wp_ret ?_
 refine r_1 hf Tryz.results32 rfl ?_
 have hi9 : i = ws.length := by omega
 subst hi9
 rw [List.take_length] at hs
 exact ⟨_, rfl, hs⟩
theorem savL_len (old : Int) : ∀ l : List Wr, (savL old l).length ≤ l.length
  | [] => Nat.le_refl _
  | z :: l => by
    have := savL_len old l
    unfold savL at this ⊢
    simp only [List.flatMap_cons, List.length_append, List.length_cons]
    have h1 : (if z.1 < min old (z.1 + wL z) then [(z.1, min old (z.1 + wL z))] else []).length ≤ 1 := by split <;> simp
    omega
theorem savL_ok (old : Int) (ho2 : old ≤ 16777216) : ∀ l : List Wr, (∀ z ∈ l, 0 ≤ z.1 ∧ z.1 + wL z ≤ 16777216) → ∀ s ∈ savL old l, 0 ≤ s.1 ∧ s.1 ≤ s.2 ∧ s.2 ≤ 16777216
  | [], _, s, hs => absurd hs (by simp [savL])
  | z :: l, hok, s, hs => by
    have hz := hok z (by simp)
    unfold savL at hs
    simp only [List.flatMap_cons, List.mem_append] at hs
    rcases hs with hs | hs
    · split at hs
      · rename_i h
        simp only [List.mem_singleton] at hs
        subst hs
        simp only
        omega
      · cases hs
    · exact savL_ok old ho2 l (fun y hy => hok y (by simp [hy])) s hs
theorem rneed_b1 (w0 : World) (old size : Int) (aw : Option Addr) (cw : Nat) (ws : List Wr) (hrw : RdS wF 2 (hp w0) (.slice aw ws.length cw) ws) (hlw : ws.length ≤ 1048576) (hb : ¬ ((0 ≤ old ∧ old ≤ 16777216) ∧ (0 ≤ size ∧ size ≤ 16777216))) : Calls Tryz.prog 70 #[.int .i64 old, .int .i64 size, .slice aw ws.length cw] w0 fun e w' => e = .returned (.tuple #[.int .i64 (0), .int .i64 1]) ∧ Kept w0 w' None_ := by
 have hs := St.start w0 None_
 refine c_enter (N := 54) Tryz.func70 rfl Tryz.ntmps70 (by simp) ?_
 intro a hf
 refine wp_seq (wp_region_lit ?_)
 refine s_a hf rfl ?_; clear hf a; intro a hf
 refine s_a hf rfl ?_; clear hf a; intro a hf
 refine s_nil (then_n (wp_seq (wp_seq (wp_region_lit ?_))))
 refine s_m hf rfl ?_; clear hf a; intro a hf
 refine s_do hf rfl (y_call (hf.eval rfl) (hf.evals rfl) Tryz.call85 ((inSize_spec _ _).mono ?_))
 rintro e w1 ⟨rfl, hw⟩
 replace hs : St ⟨w0, None_⟩ w1 [] := by rw [hw]; exact hs
 refine ⟨_, rfl, ?_⟩; clear hf a; intro a hf
 refine s_v hf (x_not (hf.eval rfl)) ?_; clear hf a; intro a hf
 refine s_m hf rfl ?_; clear hf a; intro a hf
 refine s_bool hf (k := 16) rfl (fun hg1_3 hf' => ?_) (fun hg1_3 hf' => ?_)
 ·clear hf
  have hf := hf'
  clear hf'
  simp only [Bool.not_eq_true', Bool.not_eq_false', decide_eq_true_eq, decide_eq_false_iff_not] at hg1_3
  refine s_pass hf rfl rfl ?_; clear hf a; intro a hf
  refine s_pass hf rfl rfl ?_; clear hf a; intro a hf
  refine s_pass hf rfl rfl ?_; clear hf a; intro a hf
  refine s_v hf (x_pick_t (hf.eval rfl) (hf.eval rfl)) ?_; clear hf a; intro a hf
  refine s_nil (then_n ?_)
  refine c_cond_t hf rfl (by first | rfl | (simp; omega)) ?_
  refine wp_seq (wp_region_lit ?_)
  refine s_a hf rfl ?_; clear hf a; intro a hf
  refine s_a hf rfl ?_; clear hf a; intro a hf
  refine s_nil (then_n ?_)
  refine wp_ret ?_
  refine then_r ?_
  refine r_2 hf Tryz.results70 rfl rfl ?_
  exact ⟨rfl, hs.kept⟩
 clear hf
 have hf := hf'
 clear hf'
 simp only [Bool.not_eq_true', Bool.not_eq_false', decide_eq_true_eq, decide_eq_false_iff_not] at hg1_3
 refine s_do hf (wanted_of hf rfl rfl rfl) (.value (x_move (hf.eval rfl) _) ?_); clear hf a; intro a hf
 refine s_do hf (wanted_of hf rfl rfl rfl) (y_call (hf.eval rfl) (hf.evals rfl) Tryz.call85 ((inSize_spec _ _).mono ?_))
 rintro e w1 ⟨rfl, hw⟩
 replace hs : St ⟨w0, None_⟩ w1 [] := by rw [hw]; exact hs
 refine ⟨_, rfl, ?_⟩; clear hf a; intro a hf
 refine s_do hf (wanted_of hf rfl rfl rfl) (.value (x_not (hf.eval rfl) _) ?_); clear hf a; intro a hf
 refine s_v hf (x_pick_f (hf.eval rfl) (hf.eval rfl)) ?_; clear hf a; intro a hf
 refine s_nil (then_n ?_)
 refine c_cond_t hf rfl (by first | rfl | (simp; omega)) ?_
 refine wp_seq (wp_region_lit ?_)
 refine s_a hf rfl ?_; clear hf a; intro a hf
 refine s_a hf rfl ?_; clear hf a; intro a hf
 refine s_nil (then_n ?_)
 refine wp_ret ?_
 refine then_r ?_
 refine r_2 hf Tryz.results70 rfl rfl ?_
 exact ⟨rfl, hs.kept⟩
theorem rneed_b2 (w0 : World) (old size : Int) (aw : Option Addr) (cw : Nat) (ws : List Wr) (hrw : RdS wF 2 (hp w0) (.slice aw ws.length cw) ws) (hlw : ws.length ≤ 1048576) (h1 : 0 ≤ old ∧ old ≤ 16777216) (h2 : 0 ≤ size ∧ size ≤ 16777216) (hr : rgt size ws 0 = false) : Calls Tryz.prog 70 #[.int .i64 old, .int .i64 size, .slice aw ws.length cw] w0 fun e w' => e = .returned (.tuple #[.int .i64 (0), .int .i64 143]) ∧ Kept w0 w' None_ := by
 have hs := St.start w0 None_
 refine c_enter (N := 54) Tryz.func70 rfl Tryz.ntmps70 (by simp) ?_
 intro a hf
 refine wp_seq (wp_region_lit ?_)
 refine s_a hf rfl ?_; clear hf a; intro a hf
 refine s_a hf rfl ?_; clear hf a; intro a hf
 refine s_nil (then_n (wp_seq (wp_seq (wp_region_lit ?_))))
 refine s_m hf rfl ?_; clear hf a; intro a hf
 refine s_do hf rfl (y_call (hf.eval rfl) (hf.evals rfl) Tryz.call85 ((inSize_spec _ _).mono ?_))
 rintro e w1 ⟨rfl, hw⟩
 replace hs : St ⟨w0, None_⟩ w1 [] := by rw [hw]; exact hs
 refine ⟨_, rfl, ?_⟩; clear hf a; intro a hf
 refine s_v hf (x_not (hf.eval rfl)) ?_; clear hf a; intro a hf
 refine s_m hf rfl ?_; clear hf a; intro a hf
 replace hf := hf.now (k := 16) (v' := .bool false) rfl (congrArg Value.bool (by simp; omega))
 refine s_do hf (wanted_of hf rfl rfl rfl) (.value (x_move (hf.eval rfl) _) ?_); clear hf a; intro a hf
 refine s_do hf (wanted_of hf rfl rfl rfl) (y_call (hf.eval rfl) (hf.evals rfl) Tryz.call85 ((inSize_spec _ _).mono ?_))
 rintro e w1 ⟨rfl, hw⟩
 replace hs : St ⟨w0, None_⟩ w1 [] := by rw [hw]; exact hs
 refine ⟨_, rfl, ?_⟩; clear hf a; intro a hf
 refine s_do hf (wanted_of hf rfl rfl rfl) (.value (x_not (hf.eval rfl) _) ?_); clear hf a; intro a hf
 refine s_v hf (x_pick_f (hf.eval rfl) (hf.eval rfl)) ?_; clear hf a; intro a hf
 refine s_nil (then_n ?_)
 refine c_cond_f hf rfl (by simp; omega) ?_
 refine wp_skip (then_n (wp_seq (wp_region_lit ?_)))
 refine s_m hf rfl ?_; clear hf a; intro a hf
 refine s_m hf rfl ?_; clear hf a; intro a hf
 refine s_do hf rfl (y_call (hf.eval rfl) (hf.evals rfl) Tryz.call99 ((rright_spec _ size h2.1 h2.2 _ _ ws (hs.old hrw) hlw).mono ?_))
 rintro e w1 ⟨rfl, hk⟩
 replace hs := hs.ext hk
 refine ⟨_, rfl, ?_⟩; clear hf a; intro a hf
 refine s_a hf rfl ?_; clear hf a; intro a hf
 refine s_nil (then_n (wp_seq (wp_seq (wp_region_lit ?_))))
 refine s_m hf rfl ?_; clear hf a; intro a hf
 refine s_v hf (x_not (hf.eval rfl)) ?_; clear hf a; intro a hf
 refine s_nil (then_n ?_)
 refine c_cond_t hf rfl (by rw [hr]; rfl) ?_
 refine wp_seq (wp_region_lit ?_)
 refine s_a hf rfl ?_; clear hf a; intro a hf
 refine s_a hf rfl ?_; clear hf a; intro a hf
 refine s_nil (then_n ?_)
 refine wp_ret ?_
 refine then_r ?_
 refine r_2 hf Tryz.results70 rfl rfl ?_
 exact ⟨rfl, hs.kept⟩
theorem rneed_ok (w0 : World) (old size : Int) (aw : Option Addr) (cw : Nat) (ws : List Wr) (hrw : RdS wF 2 (hp w0) (.slice aw ws.length cw) ws) (hlw : ws.length ≤ 1048576) (h1 : 0 ≤ old ∧ old ≤ 16777216) (h2 : 0 ≤ size ∧ size ≤ 16777216) (hr : rgt size ws 0 = true) : Calls Tryz.prog 70 #[.int .i64 old, .int .i64 size, .slice aw ws.length cw] w0 fun e w' => e = .returned (.tuple #[.int .i64 (filZ old size (lonZ (savL old ws))), .int .i64 0]) ∧ Kept w0 w' None_ := by
 have hs := St.start w0 None_
 have hok : ∀ z ∈ ws, 0 ≤ z.1 ∧ z.1 + wL z ≤ 16777216 := fun z hz => by have := rgt_all size ws 0 (by omega) hr z hz; omega
 refine c_enter (N := 54) Tryz.func70 rfl Tryz.ntmps70 (by simp) ?_
 intro a hf
 refine wp_seq (wp_region_lit ?_)
 refine s_a hf rfl ?_; clear hf a; intro a hf
 refine s_a hf rfl ?_; clear hf a; intro a hf
 refine s_nil (then_n (wp_seq (wp_seq (wp_region_lit ?_))))
 refine s_m hf rfl ?_; clear hf a; intro a hf
 refine s_do hf rfl (y_call (hf.eval rfl) (hf.evals rfl) Tryz.call85 ((inSize_spec _ _).mono ?_))
 rintro e w1 ⟨rfl, hw⟩
 replace hs : St ⟨w0, None_⟩ w1 [] := by rw [hw]; exact hs
 refine ⟨_, rfl, ?_⟩; clear hf a; intro a hf
 refine s_v hf (x_not (hf.eval rfl)) ?_; clear hf a; intro a hf
 refine s_m hf rfl ?_; clear hf a; intro a hf
 replace hf := hf.now (k := 16) (v' := .bool false) rfl (congrArg Value.bool (by simp; omega))
 refine s_do hf (wanted_of hf rfl rfl rfl) (.value (x_move (hf.eval rfl) _) ?_); clear hf a; intro a hf
 refine s_do hf (wanted_of hf rfl rfl rfl) (y_call (hf.eval rfl) (hf.evals rfl) Tryz.call85 ((inSize_spec _ _).mono ?_))
 rintro e w1 ⟨rfl, hw⟩
 replace hs : St ⟨w0, None_⟩ w1 [] := by rw [hw]; exact hs
 refine ⟨_, rfl, ?_⟩; clear hf a; intro a hf
 refine s_do hf (wanted_of hf rfl rfl rfl) (.value (x_not (hf.eval rfl) _) ?_); clear hf a; intro a hf
 refine s_v hf (x_pick_f (hf.eval rfl) (hf.eval rfl)) ?_; clear hf a; intro a hf
 refine s_nil (then_n ?_)
 refine c_cond_f hf rfl (by simp; omega) ?_
 refine wp_skip (then_n (wp_seq (wp_region_lit ?_)))
 refine s_m hf rfl ?_; clear hf a; intro a hf
 refine s_m hf rfl ?_; clear hf a; intro a hf
 refine s_do hf rfl (y_call (hf.eval rfl) (hf.evals rfl) Tryz.call99 ((rright_spec _ size h2.1 h2.2 _ _ ws (hs.old hrw) hlw).mono ?_))
 rintro e w1 ⟨rfl, hk⟩
 replace hs := hs.ext hk
 refine ⟨_, rfl, ?_⟩; clear hf a; intro a hf
 refine s_a hf rfl ?_; clear hf a; intro a hf
 refine s_nil (then_n (wp_seq (wp_seq (wp_region_lit ?_))))
 refine s_m hf rfl ?_; clear hf a; intro a hf
 refine s_v hf (x_not (hf.eval rfl)) ?_; clear hf a; intro a hf
 refine s_nil (then_n ?_)
 refine c_cond_f hf rfl (by rw [hr]; rfl) ?_
 refine wp_skip (then_n (wp_seq (wp_region_lit ?_)))
 refine s_a hf rfl ?_; clear hf a; intro a hf
 refine s_nil (then_n (wp_seq (wp_region_lit ?_)))
 refine s_m hf rfl ?_; clear hf a; intro a hf
 refine s_m hf rfl ?_; clear hf a; intro a hf
 refine s_do hf rfl (y_call (hf.eval rfl) (hf.evals rfl) Tryz.call32 ((spans_spec _ old h1.1 h1.2 _ _ ws (hs.old hrw) hlw hok).mono ?_))
 rintro e w1 ⟨v4, rfl, hj⟩
 replace hs := hs.join hj
 simp only [List.cons_append, List.nil_append] at hs
 obtain ⟨a4, c4, rfl⟩ := sl_shape hs
 have hsl4 := savL_len old ws
 refine ⟨_, rfl, ?_⟩; clear hf a; intro a hf
 refine s_a hf rfl ?_; clear hf a; intro a hf
 refine s_nil (then_n (wp_seq (wp_seq (wp_region_lit ?_))))
 refine s_a hf rfl ?_; clear hf a; intro a hf
 refine s_nil (then_n (wp_block ?_))
 refine c_loop (L0 := [(0, _), (1, _), (6, _), (7, _), (10, _)]) (fun M w m => ∃ i : Nat, M = [(9, .int .i64 (lonZ ((savL old ws).take i))), (11, .int .i64 (i : Int))] ∧ (savL old ws).length - i = m ∧ i ≤ (savL old ws).length ∧ 0 ≤ lonZ ((savL old ws).take i) ∧ lonZ ((savL old ws).take i) ≤ 16777224 * i ∧ St ⟨w0, None_⟩ w [sl 119 2 (.slice a4 (savL old ws).length c4) (savL old ws).length ((savL old ws).flatMap spF)]) (M0 := [(9, .int .i64 0), (11, .int .i64 0)]) (⟨0, rfl, rfl, Nat.zero_le _, by simp [lonZ], by simp [lonZ], hs⟩) (hf.sub ⟨rfl, rfl, rfl, rfl, rfl, rfl, rfl, trivial⟩) ?_
 clear hf hs a
 rintro M m a w ⟨i, rfl, rfl, hi, hn0, hn1, hs⟩ hf
 refine wp_seq (wp_seq (wp_region_lit ?_))
 refine s_m hf rfl ?_; clear hf a; intro a hf
 refine s_m hf rfl ?_; clear hf a; intro a hf
 refine s_v hf (x_len Tryz.underlying68 (hf.eval rfl)) ?_; clear hf a; intro a hf
 refine s_v hf (x_bin (hf.eval rfl) (hf.eval rfl) (r_lt _ _ _ _)) ?_; clear hf a; intro a hf
 refine s_nil (then_n ?_)
 refine c_cond hf rfl (fun hi2 => ?_) (fun hi2 => ?_)
 ·simp only [zd1, zd2, zd3, zd4, zd5, zd6, zd7] at hi2
  have hlt : i < (savL old ws).length := by omega
  have hrd : RdS spF 2 (hp w) (.slice a4 (savL old ws).length c4) (savL old ws) := hs.rd .k0 fun h hh => sl_rd hh
  obtain ⟨a4, rfl⟩ := hrd.some (by omega)
  obtain ⟨ab, ao2, rfl⟩ := rdS_plain (sz := 2) (fun _ => rfl) (by decide) hrd (by omega)
  clear hrd
  have hb := savL_ok old h1.2 ws hok _ (List.getElem_mem hlt)
  refine wp_skip (then_n (wp_seq (wp_block ?_)))
  refine c_draw hs (fun _ => True) [.held, .held, .held, .held, .held, .held, .read, .held, .held, .held, .held, .held, .read, .held, .held] (by kernel_rfl) (by kernel_rfl) (fun _ _ _ => trivial) ?_
  clear hs; intro w hs hC hw
  have hrd : RdS spF 2 (hp w) (.slice (some ⟨ab, ao2, none⟩) (savL old ws).length c4) (savL old ws) := hs.rd .k0 fun h hh => sl_rd hh
  refine m_held hf rfl (fun w' _ => x_move (hf.eval rfl) w') ?_; clear hf a; intro a hf
  refine m_held hf rfl (fun w' _ => x_bin (hf.eval rfl) (hf.eval rfl) (r_addi _ (by omega) (by omega)) w') ?_; clear hf a; intro a hf
  refine m_held hf rfl (fun w' _ => x_move (hf.eval rfl) w') ?_; clear hf a; intro a hf
  refine m_held hf rfl (fun w' _ => x_move (hf.eval rfl) w') ?_; clear hf a; intro a hf
  refine m_held hf rfl (fun w' _ => x_indexAddr sl68 (hf.eval rfl) (hf.eval rfl) (by omega) (by omega) w') ?_; clear hf a; intro a hf
  replace hf := hf.now (k := 39) (v' := .pointer (some ⟨ab, ao2 + i * 2, none⟩)) rfl (by rw [addr_add]; rfl)
  refine m_held hf rfl (fun w' _ => x_fieldAddr fo119_1 (hf.eval rfl) w') ?_; clear hf a; intro a hf
  refine m_read hf rfl (x_load sc3 (hf.eval rfl) (rdS_cellAt (f := spF) (sz := 2) (fun _ => rfl) hrd (k := 1) hlt rfl)) ?_; clear hf a; intro a hf
  refine m_held hf rfl (fun w' _ => x_bin (hf.eval rfl) (hf.eval rfl) (r_addi _ (by omega) (by omega)) w') ?_; clear hf a; intro a hf
  refine m_held hf rfl (fun w' _ => x_move (hf.eval rfl) w') ?_; clear hf a; intro a hf
  refine m_held hf rfl (fun w' _ => x_move (hf.eval rfl) w') ?_; clear hf a; intro a hf
  refine m_held hf rfl (fun w' _ => x_indexAddr sl68 (hf.eval rfl) (hf.eval rfl) (by omega) (by omega) w') ?_; clear hf a; intro a hf
  replace hf := hf.now (k := 45) (v' := .pointer (some ⟨ab, ao2 + i * 2, none⟩)) rfl (by rw [addr_add]; rfl)
  refine m_held hf rfl (fun w' _ => x_fieldAddr fo119_0 (hf.eval rfl) w') ?_; clear hf a; intro a hf
  refine m_read hf rfl (x_load sc3 (hf.eval rfl) (rdS_cellAt (f := spF) (sz := 2) (fun _ => rfl) hrd (k := 0) hlt rfl)) ?_; clear hf a; intro a hf
  refine m_held hf rfl (fun w' _ => x_bin (hf.eval rfl) (hf.eval rfl) (r_subi _ (by omega) (by omega)) w') ?_; clear hf a; intro a hf
  refine m_held hf rfl (fun w' _ => x_assign (hf.eval rfl) w') ?_; clear hf a; intro a hf
  refine m_nil ?_
  refine blk_n (then_n (wp_region_lit ?_))
  refine s_m hf rfl ?_; clear hf a; intro a hf
  refine s_v hf (x_bin (hf.eval rfl) (hf.eval rfl) (r_addi _ (by omega) (by omega))) ?_; clear hf a; intro a hf
  refine s_a hf rfl ?_; clear hf a; intro a hf
  refine s_nil ?_
  have hlz := lonZ_succ hlt
  replace hf := hf.now (k := 9) (v' := .int .i64 (lonZ ((savL old ws).take (i + 1)))) rfl (by rw [hlz]; congr 1; omega)
  exact ⟨_, _, ⟨i + 1, rfl, rfl, by omega, by omega, by omega, hs⟩, by omega, hf.sub ⟨rfl, rfl, rfl, rfl, rfl, rfl, rfl, trivial⟩⟩
 simp only [zd1, zd2, zd3, zd4, zd5, zd6, zd7] at hi2
 refine wp_exit (then_x (then_x (blk_x (then_n (wp_seq (wp_region_lit ?_))))))
 refine s_m hf rfl ?_; clear hf a; intro a hf
 refine s_m hf rfl ?_; clear hf a; intro a hf
 refine s_m hf rfl ?_; clear hf a; intro a hf
 have hi9 : i = (savL old ws).length := by omega
 subst hi9
 rw [List.take_length] at hf hn0 hn1
 refine s_do hf rfl (y_call (hf.eval rfl) (hf.evals rfl) Tryz.call51 ((file_spec _ old size _ h1.1 h1.2 h2.1 h2.2 hn0 (by omega)).mono ?_))
 rintro e w1 ⟨rfl, hk⟩
 replace hs := hs.ext hk
 refine ⟨_, rfl, ?_⟩; clear hf a; intro a hf
 refine s_a hf rfl ?_; clear hf a; intro a hf
 refine s_nil (then_n (wp_seq (wp_region_lit ?_)))
 refine s_m hf rfl ?_; clear hf a; intro a hf
 refine s_a hf rfl ?_; clear hf a; intro a hf
 refine s_a hf rfl ?_; clear hf a; intro a hf
 refine s_nil (then_n ?_)
 refine wp_ret ?_
 refine r_2 hf Tryz.results70 rfl rfl ?_
 exact ⟨rfl, hs.kept⟩
theorem rapply_spec (w0 : World) (a1 : Option Addr) (c1 : Nat) (content : List UInt8) (hr1 : RdB (hp w0) (.slice a1 content.length c1) content) (hl1 : content.length ≤ 140737488351232) (size : Int) (aw : Option Addr) (cw : Nat) (ws : List Wr) (hrw : RdS wF 2 (hp w0) (.slice aw ws.length cw) ws) (hlw : ws.length ≤ 1048576) (hgd : ∀ z ∈ ws, RdB (hp w0) (.slice z.2.1 z.2.2.2.length z.2.2.1) z.2.2.2 ∧ z.2.2.2.length ≤ 1048576) (V : List UInt8) (hV : V = aplR content size ws) (E : Int) (hE : E = aplE content.length size ws) : Calls Tryz.prog 69 #[.slice a1 content.length c1, .int .i64 size, .slice aw ws.length cw] w0 fun e w' => ∃ a c, e = .returned (.tuple #[.slice a V.length c, .int .i64 E]) ∧ St ⟨w0, None_⟩ w' [slB 5 (.slice a V.length c) V] := by
 have hs := St.start w0 None_
 refine c_enter (N := 80) Tryz.func69 rfl Tryz.ntmps69 (by simp) ?_
 intro a hf
 refine wp_seq (wp_region_lit ?_)
 refine s_a hf rfl ?_; clear hf a; intro a hf
 refine s_a hf rfl ?_; clear hf a; intro a hf
 refine s_nil (then_n (wp_seq (wp_seq (wp_region_lit ?_))))
 refine s_m hf rfl ?_; clear hf a; intro a hf
 refine s_v hf (x_len Tryz.underlying22 (hf.eval rfl)) ?_; clear hf a; intro a hf
 refine s_v hf (x_bin (hf.eval rfl) (hf.eval rfl) (r_gt _ _ _ _)) ?_; clear hf a; intro a hf
 refine s_m hf rfl ?_; clear hf a; intro a hf
 refine s_bool hf (k := 16) rfl (fun hg1_3 hf' => ?_) (fun hg1_3 hf' => ?_)
 ·clear hf
  have hf := hf'
  clear hf'
  simp only [zd1, zd2, zd3, zd4] at hg1_3
  refine s_pass hf rfl rfl ?_; clear hf a; intro a hf
  refine s_pass hf rfl rfl ?_; clear hf a; intro a hf
  refine s_pass hf rfl rfl ?_; clear hf a; intro a hf
  refine s_v hf (x_pick_t (hf.eval rfl) (hf.eval rfl)) ?_; clear hf a; intro a hf
  refine s_nil (then_n ?_)
  refine c_cond_t hf rfl rfl ?_
  refine wp_seq (wp_region_lit ?_)
  refine s_a hf rfl ?_; clear hf a; intro a hf
  refine s_a hf rfl ?_; clear hf a; intro a hf
  refine s_nil (then_n ?_)
  refine wp_ret ?_
  refine then_r ?_
  refine r_2 hf Tryz.results69 rfl rfl ?_
  have hE0 : E = 1 := by rw [hE]; unfold aplE; rw [if_pos (by omega)]
  have hV0 : V = [] := by rw [hV]; unfold aplR; rw [if_neg (by rw [← hE, hE0]; decide)]
  rw [hE0, hV0]
  exact ⟨none, 0, rfl, hs.emp (slB_nil _)⟩
 clear hf
 have hf := hf'
 clear hf'
 simp only [zd1, zd2, zd3, zd4] at hg1_3
 refine s_do hf (wanted_of hf rfl rfl rfl) (.value (x_move (hf.eval rfl) _) ?_); clear hf a; intro a hf
 refine s_do hf (wanted_of hf rfl rfl rfl) (y_call (hf.eval rfl) (hf.evals rfl) Tryz.call85 ((inSize_spec _ _).mono ?_))
 rintro e w1 ⟨rfl, hw9⟩
 rw [hw9]
 clear hw9 w1
 refine ⟨_, rfl, ?_⟩; clear hf a; intro a hf
 refine s_do hf (wanted_of hf rfl rfl rfl) (.value (x_not (hf.eval rfl) _) ?_); clear hf a; intro a hf
 refine s_v hf (x_pick_f (hf.eval rfl) (hf.eval rfl)) ?_; clear hf a; intro a hf
 refine s_nil (then_n ?_)
 refine c_cond hf rfl (fun hi0 => ?_) (fun hi0 => ?_)
 ·first | simp only [zd1, zd2, zd3, zd4] at hi0 | skip
  refine wp_seq (wp_region_lit ?_)
  refine s_a hf rfl ?_; clear hf a; intro a hf
  refine s_a hf rfl ?_; clear hf a; intro a hf
  refine s_nil (then_n ?_)
  refine wp_ret ?_
  refine then_r ?_
  refine r_2 hf Tryz.results69 rfl rfl ?_
  have hE0 : E = 1 := by rw [hE]; unfold aplE; rw [if_pos (by omega)]
  have hV0 : V = [] := by rw [hV]; unfold aplR; rw [if_neg (by rw [← hE, hE0]; decide)]
  rw [hE0, hV0]
  exact ⟨none, 0, rfl, hs.emp (slB_nil _)⟩
 first | simp only [zd1, zd2, zd3, zd4] at hi0 | skip
 have hsz : 0 ≤ size ∧ size ≤ 16777216 := hi0
 refine wp_skip (then_n (wp_seq (wp_region_lit ?_)))
 refine s_m hf rfl ?_; clear hf a; intro a hf
 refine s_m hf rfl ?_; clear hf a; intro a hf
 refine s_do hf rfl (y_call (hf.eval rfl) (hf.evals rfl) Tryz.call99 ((rright_spec _ size hsz.1 hsz.2 _ _ ws (hs.old hrw) hlw).mono ?_))
 rintro e w1 ⟨rfl, hk⟩
 replace hs := hs.ext hk
 refine ⟨_, rfl, ?_⟩; clear hf a; intro a hf
 refine s_a hf rfl ?_; clear hf a; intro a hf
 refine s_nil (then_n (wp_seq (wp_seq (wp_region_lit ?_))))
 refine s_m hf rfl ?_; clear hf a; intro a hf
 refine s_v hf (x_not (hf.eval rfl)) ?_; clear hf a; intro a hf
 refine s_nil (then_n ?_)
 refine c_cond hf rfl (fun hi1 => ?_) (fun hi1 => ?_)
 ·simp only [Bool.not_eq_true', Bool.not_eq_false'] at hi1
  refine wp_seq (wp_region_lit ?_)
  refine s_a hf rfl ?_; clear hf a; intro a hf
  refine s_a hf rfl ?_; clear hf a; intro a hf
  refine s_nil (then_n ?_)
  refine wp_ret ?_
  refine then_r ?_
  refine r_2 hf Tryz.results69 rfl rfl ?_
  have hE0 : E = 143 := by rw [hE]; unfold aplE; rw [if_neg (by omega), if_pos (by assumption)]
  have hV0 : V = [] := by rw [hV]; unfold aplR; rw [if_neg (by rw [← hE, hE0]; decide)]
  rw [hE0, hV0]
  exact ⟨none, 0, rfl, hs.emp (slB_nil _)⟩
 simp only [Bool.not_eq_true', Bool.not_eq_false'] at hi1
 have hrt : rgt size ws 0 = true := hi1
 obtain ⟨n, rfl⟩ := Int.eq_ofNat_of_zero_le (show 0 ≤ size by omega)
 have hok : ∀ z ∈ ws, 0 ≤ z.1 ∧ z.1 + wL z ≤ (n : Int) ∧ 0 < wL z := fun z hz => by have h8 := rgt_all (n : Int) ws 0 (by omega) hrt z hz; exact ⟨h8.1, h8.2, rgt_pos (n : Int) ws 0 hrt z hz⟩
 refine wp_skip (then_n (wp_seq (wp_region_lit ?_)))
 refine s_m hf rfl ?_; clear hf a; intro a hf
 refine s_do hf rfl (y_makeB (m := n) (c := n) hs sl22 (hf.eval rfl) (hf.eval rfl) rfl rfl (by omega) (by omega) ?_); clear hf hs a; intro b w hs a hf
 refine s_a hf rfl ?_; clear hf a; intro a hf
 refine s_nil (then_n (wp_seq (wp_seq (wp_region_lit ?_))))
 refine s_a hf rfl ?_; clear hf a; intro a hf
 refine s_nil (then_n (wp_block ?_))
 refine c_loop (L0 := [(0, _), (1, _), (2, _), (6, _), (7, _), (9, _)]) (fun M w m => ∃ i : Nat, M = [(10, .int .i64 (i : Int))] ∧ n - i = m ∧ i ≤ n ∧ i ≤ content.length ∧ St ⟨w0, None_⟩ w [bb b 5 (content.take i ++ List.replicate (n - i) 0)]) (M0 := _) (⟨0, rfl, rfl, Nat.zero_le _, Nat.zero_le _, by simpa using hs⟩) (hf.sub ⟨rfl, rfl, rfl, rfl, rfl, rfl, rfl, trivial⟩) ?_
 clear hf hs a
 rintro M m a w ⟨i, rfl, rfl, hi, hi9, hs⟩ hf
 refine wp_seq (wp_seq (wp_region_lit ?_))
 refine s_m hf rfl ?_; clear hf a; intro a hf
 refine s_m hf rfl ?_; clear hf a; intro a hf
 refine s_v hf (x_bin (hf.eval rfl) (hf.eval rfl) (r_lt _ _ _ _)) ?_; clear hf a; intro a hf
 refine s_m hf rfl ?_; clear hf a; intro a hf
 refine s_bool hf (k := 31) rfl (fun hg8_3 hf' => ?_) (fun hg8_3 hf' => ?_)
 ·clear hf
  have hf := hf'
  clear hf'
  simp only [zd1, zd2, zd3, zd4] at hg8_3
  refine s_do hf (wanted_of hf rfl rfl rfl) (.value (x_move (hf.eval rfl) _) ?_); clear hf a; intro a hf
  refine s_do hf (wanted_of hf rfl rfl rfl) (.value (x_move (hf.eval rfl) _) ?_); clear hf a; intro a hf
  refine s_do hf (wanted_of hf rfl rfl rfl) (.value (x_len Tryz.underlying22 (hf.eval rfl) _) ?_); clear hf a; intro a hf
  refine s_do hf (wanted_of hf rfl rfl rfl) (.value (x_bin (hf.eval rfl) (hf.eval rfl) (r_lt _ _ _ _) _) ?_); clear hf a; intro a hf
  refine s_v hf (x_pick_t (hf.eval rfl) (hf.eval rfl)) ?_; clear hf a; intro a hf
  refine s_nil (then_n ?_)
  refine c_cond hf rfl (fun hi2 => ?_) (fun hi2 => ?_)
  ·first | simp only [decide_eq_true_eq, decide_eq_false_iff_not] at hi2 | skip
   have hlt : i < content.length := by omega
   obtain ⟨a1, rfl⟩ := hr1.some (by omega)
   refine wp_skip (then_n (wp_seq (wp_block (wp_region_lit ?_))))
   refine s_m hf rfl ?_; clear hf a; intro a hf
   refine s_m hf rfl ?_; clear hf a; intro a hf
   refine s_m hf rfl ?_; clear hf a; intro a hf
   refine s_m hf rfl ?_; clear hf a; intro a hf
   refine s_v hf (x_indexAddr sl22 (hf.eval rfl) (hf.eval rfl) (by omega) (by omega)) ?_; clear hf a; intro a hf
   refine s_r hf (x_loadB (i := (i : Int)) sc5 (hs.oldB hr1) (hf.eval rfl) (by simpa using hlt)) ?_; clear hf a; intro a hf
   replace hf := hf.now (k := 44) (v' := u8v content[i]) rfl (rfl)
   refine s_v hf (x_indexAddr sl22 (hf.eval rfl) (hf.eval rfl) (by omega) (by omega)) ?_; clear hf a; intro a hf
   replace hf := hf.now (k := 45) (v' := .pointer (some ⟨b, i, none⟩)) rfl (by rw [at_addN])
   refine s_do0 hf rfl (y_storeB (k := i) (u := content[i]) hs sc5 (hf.eval rfl) (hf.eval rfl) rfl .k0 (by simp; omega) ?_); clear hf hs a; intro w hs a hf
   rw [base_step (by omega) hlt] at hs
   refine s_nil (blk_n (then_n (wp_region_lit ?_)))
   refine s_m hf rfl ?_; clear hf a; intro a hf
   refine s_v hf (x_bin (hf.eval rfl) (hf.eval rfl) (r_addi _ (by omega) (by omega))) ?_; clear hf a; intro a hf
   refine s_a hf rfl ?_; clear hf a; intro a hf
   refine s_nil ?_
   exact ⟨_, _, ⟨i + 1, rfl, rfl, by omega, by omega, hs⟩, by omega, hf.sub ⟨rfl, rfl, rfl, rfl, rfl, rfl, rfl, trivial⟩⟩
  first | simp only [decide_eq_true_eq, decide_eq_false_iff_not] at hi2 | skip
  first | rw [base_end (n := n) (content := content) (i := i) (by omega) (by omega) (by omega)] at hs | skip
  refine wp_exit (then_x (then_x (blk_x (then_n (wp_seq (wp_seq (wp_region_lit ?_)))))))
  refine s_a hf rfl ?_; clear hf a; intro a hf
  refine s_nil (then_n (wp_block ?_))
  refine c_loop (L0 := [(0, _), (1, _), (2, _), (6, _), (7, _), (9, _), (10, _), (28, _), (29, _), (30, _), (31, _), (32, _), (33, _), (34, _), (35, _), (36, _)]) (fun M w m => ∃ i : Nat, M = [(11, .int .i64 (i : Int))] ∧ ws.length - i = m ∧ i ≤ ws.length ∧ St ⟨w0, None_⟩ w [bb b 5 (appW (baseW content n) (ws.take i))]) (M0 := [(11, .int .i64 0)]) (⟨0, rfl, rfl, Nat.zero_le _, hs⟩) (hf.sub ⟨rfl, rfl, rfl, rfl, rfl, rfl, rfl, rfl, rfl, rfl, rfl, rfl, rfl, rfl, rfl, rfl, rfl, trivial⟩) ?_
  clear hf hs a
  rintro M m a w ⟨i, rfl, rfl, hi, hs⟩ hf
  refine wp_seq (wp_seq (wp_region_lit ?_))
  refine s_m hf rfl ?_; clear hf a; intro a hf
  refine s_m hf rfl ?_; clear hf a; intro a hf
  refine s_v hf (x_len Tryz.underlying23 (hf.eval rfl)) ?_; clear hf a; intro a hf
  refine s_v hf (x_bin (hf.eval rfl) (hf.eval rfl) (r_lt _ _ _ _)) ?_; clear hf a; intro a hf
  refine s_nil (then_n ?_)
  refine c_cond hf rfl (fun hi3 => ?_) (fun hi3 => ?_)
  ·simp only [zd1, zd2, zd3, zd4, zd5, zd6, zd7] at hi3
   have hlt : i < ws.length := by omega
   obtain ⟨aw, rfl⟩ := hrw.some (by omega)
   obtain ⟨ab, ao2, rfl⟩ := rdS_plain (sz := 2) (fun _ => rfl) (by decide) hrw (by omega)
   have hgi := hgd _ (List.getElem_mem hlt)
   obtain ⟨hzi1, hzi2, hzi3⟩ := hok _ (List.getElem_mem hlt)
   have hwl0 : wL ws[i] = (ws[i].2.2.2.length : Int) := rfl
   have hal : (appW (baseW content n) (ws.take i)).length = n := by rw [appW_len, baseW_len]
   refine wp_skip (then_n (wp_seq (wp_block (wp_seq (wp_region_lit ?_)))))
   refine s_a hf rfl ?_; clear hf a; intro a hf
   refine s_nil (then_n (wp_block ?_))
   refine c_loop (L0 := [(0, _), (1, _), (2, _), (6, _), (7, _), (9, _), (10, _), (11, _), (28, _), (29, _), (30, _), (31, _), (32, _), (33, _), (34, _), (35, _), (36, _), (46, _), (47, _), (48, _), (49, _)]) (fun M w m => ∃ k : Nat, M = [(12, .int .i64 (k : Int))] ∧ ws[i].2.2.2.length - k = m ∧ k ≤ ws[i].2.2.2.length ∧ St ⟨w0, None_⟩ w [bb b 5 (putP (appW (baseW content n) (ws.take i)) (ws[i].1.toNat, ws[i].2.2.2.take k))]) (M0 := [(12, .int .i64 0)]) (⟨0, rfl, rfl, Nat.zero_le _, by rw [putP_zero]; exact hs⟩) (hf.sub ⟨rfl, rfl, rfl, rfl, rfl, rfl, rfl, rfl, rfl, rfl, rfl, rfl, rfl, rfl, rfl, rfl, rfl, rfl, rfl, rfl, rfl, rfl, trivial⟩) ?_
   clear hf hs a
   rintro M m a w ⟨k, rfl, rfl, hk, hs⟩ hf
   refine wp_seq (wp_seq (wp_region_lit ?_))
   refine s_m hf rfl ?_; clear hf a; intro a hf
   refine s_m hf rfl ?_; clear hf a; intro a hf
   refine s_m hf rfl ?_; clear hf a; intro a hf
   refine s_v hf (x_indexAddr sl23 (hf.eval rfl) (hf.eval rfl) (by omega) (by omega)) ?_; clear hf a; intro a hf
   replace hf := hf.now (k := 55) (v' := .pointer (some ⟨ab, ao2 + i * 2, none⟩)) rfl (by rw [addr_add]; rfl)
   refine s_v hf (x_fieldAddr fo54_1 (hf.eval rfl)) ?_; clear hf a; intro a hf
   refine s_r hf (x_load sc22 (hf.eval rfl) (rdS_cellAt (f := wF) (sz := 2) (fun _ => rfl) (hs.old hrw) (k := 1) hlt rfl)) ?_; clear hf a; intro a hf
   refine s_v hf (x_len Tryz.underlying22 (hf.eval rfl)) ?_; clear hf a; intro a hf
   refine s_v hf (x_bin (hf.eval rfl) (hf.eval rfl) (r_lt _ _ _ _)) ?_; clear hf a; intro a hf
   refine s_nil (then_n ?_)
   refine c_cond hf rfl (fun hi4 => ?_) (fun hi4 => ?_)
   ·simp only [zd1, zd2, zd3, zd4, zd5, zd6, zd7] at hi4
    have hkl : k < ws[i].2.2.2.length := by omega
    obtain ⟨da, hda⟩ : ∃ x, ws[i].2.1 = some x := by
      rcases hgi.1.2 with ⟨c9, e9, hn9⟩ | ⟨x9, c9, e9, _⟩
      · omega
      · injection e9 with e9; exact ⟨x9, e9⟩
    have hgk : RdB (hp w0) (.slice (some da) ws[i].2.2.2.length ws[i].2.2.1) ws[i].2.2.2 := by rw [← hda]; exact hgi.1
    refine wp_skip (then_n (wp_seq (wp_block ?_)))
    refine c_draw hs (fun _ => True) [.held, .held, .held, .held, .held, .read, .held, .held, .held, .held, .held, .held, .read, .held, .held, .read, .held, .fin] (by kernel_rfl) (by kernel_rfl) (fun _ _ _ => trivial) ?_
    clear hs; intro w hs hC hw
    refine m_held hf rfl (fun w' _ => x_move (hf.eval rfl) w') ?_; clear hf a; intro a hf
    refine m_held hf rfl (fun w' _ => x_move (hf.eval rfl) w') ?_; clear hf a; intro a hf
    refine m_held hf rfl (fun w' _ => x_move (hf.eval rfl) w') ?_; clear hf a; intro a hf
    refine m_held hf rfl (fun w' _ => x_indexAddr sl23 (hf.eval rfl) (hf.eval rfl) (by omega) (by omega) w') ?_; clear hf a; intro a hf
    replace hf := hf.now (k := 65) (v' := .pointer (some ⟨ab, ao2 + i * 2, none⟩)) rfl (by rw [addr_add]; rfl)
    refine m_held hf rfl (fun w' _ => x_fieldAddr fo54_0 (hf.eval rfl) w') ?_; clear hf a; intro a hf
    refine m_read hf rfl (x_load sc3 (hf.eval rfl) (rdS_cellAt (f := wF) (sz := 2) (fun _ => rfl) (hs.old hrw) (k := 0) hlt rfl)) ?_; clear hf a; intro a hf
    refine m_held hf rfl (fun w' _ => x_move (hf.eval rfl) w') ?_; clear hf a; intro a hf
    refine m_held hf rfl (fun w' _ => x_bin (hf.eval rfl) (hf.eval rfl) (r_addi _ (by omega) (by omega)) w') ?_; clear hf a; intro a hf
    replace hf := hf.now (k := 69) (v' := .int .i64 ((ws[i].1.toNat + k : Nat) : Int)) rfl (by congr 1; omega)
    refine m_held hf rfl (fun w' _ => x_move (hf.eval rfl) w') ?_; clear hf a; intro a hf
    refine m_held hf rfl (fun w' _ => x_move (hf.eval rfl) w') ?_; clear hf a; intro a hf
    refine m_held hf rfl (fun w' _ => x_indexAddr sl23 (hf.eval rfl) (hf.eval rfl) (by omega) (by omega) w') ?_; clear hf a; intro a hf
    replace hf := hf.now (k := 72) (v' := .pointer (some ⟨ab, ao2 + i * 2, none⟩)) rfl (by rw [addr_add]; rfl)
    refine m_held hf rfl (fun w' _ => x_fieldAddr fo54_1 (hf.eval rfl) w') ?_; clear hf a; intro a hf
    refine m_read hf rfl (x_load sc22 (hf.eval rfl) (rdS_cellAt (f := wF) (sz := 2) (fun _ => rfl) (hs.old hrw) (k := 1) hlt rfl)) ?_; clear hf a; intro a hf
    replace hf := hf.now (k := 74) (v' := .slice (some da) ws[i].2.2.2.length ws[i].2.2.1) rfl (by rw [← hda])
    refine m_held hf rfl (fun w' _ => x_move (hf.eval rfl) w') ?_; clear hf a; intro a hf
    refine m_held hf rfl (fun w' _ => x_indexAddr sl22 (hf.eval rfl) (hf.eval rfl) (by omega) (by omega) w') ?_; clear hf a; intro a hf
    refine m_read hf rfl (x_loadB (i := (k : Int)) sc5 (hs.oldB hgk) (hf.eval rfl) (by simpa using hkl)) ?_; clear hf a; intro a hf
    replace hf := hf.now (k := 77) (v' := u8v ws[i].2.2.2[k]) rfl (rfl)
    refine m_held hf rfl (fun w' _ => x_indexAddr sl22 (hf.eval rfl) (hf.eval rfl) (by omega) (by omega) w') ?_; clear hf a; intro a hf
    replace hf := hf.now (k := 78) (v' := .pointer (some ⟨b, ws[i].1.toNat + k, none⟩)) rfl (by rw [at_addN])
    refine m_fin0 hf rfl (y_storeB (k := ws[i].1.toNat + k) (u := ws[i].2.2.2[k]) hs sc5 (hf.eval rfl) (hf.eval rfl) rfl .k0 (by rw [putP_len, hal]; omega) ?_); clear hf hs a; intro w hs; intro a hf
    rw [putP_step (by rw [hal]; omega) hkl] at hs
    refine blk_n (then_n (wp_region_lit ?_))
    refine s_m hf rfl ?_; clear hf a; intro a hf
    refine s_v hf (x_bin (hf.eval rfl) (hf.eval rfl) (r_addi _ (by omega) (by omega))) ?_; clear hf a; intro a hf
    refine s_a hf rfl ?_; clear hf a; intro a hf
    refine s_nil ?_
    exact ⟨_, _, ⟨k + 1, rfl, rfl, by omega, hs⟩, by omega, hf.sub ⟨rfl, rfl, rfl, rfl, rfl, rfl, rfl, rfl, rfl, rfl, rfl, rfl, rfl, rfl, rfl, rfl, rfl, rfl, rfl, rfl, rfl, rfl, trivial⟩⟩
   simp only [zd1, zd2, zd3, zd4, zd5, zd6, zd7] at hi4
   rw [show List.take k ws[i].2.2.2 = ws[i].2.2.2 from List.take_of_length_le (by omega), ← appW_succ hlt] at hs
   refine wp_exit (then_x (then_x (blk_x (blk_n (then_n (wp_region_lit ?_))))))
   refine s_m hf rfl ?_; clear hf a; intro a hf
   refine s_v hf (x_bin (hf.eval rfl) (hf.eval rfl) (r_addi _ (by omega) (by omega))) ?_; clear hf a; intro a hf
   refine s_a hf rfl ?_; clear hf a; intro a hf
   refine s_nil ?_
   exact ⟨_, _, ⟨i + 1, rfl, rfl, by omega, hs⟩, by omega, hf.sub ⟨rfl, rfl, rfl, rfl, rfl, rfl, rfl, rfl, rfl, rfl, rfl, rfl, rfl, rfl, rfl, rfl, rfl, trivial⟩⟩
  simp only [zd1, zd2, zd3, zd4, zd5, zd6, zd7] at hi3
  refine wp_exit (then_x (then_x (blk_x (then_n (wp_seq (wp_region_lit ?_))))))
  refine s_m hf rfl ?_; clear hf a; intro a hf
  refine s_a hf rfl ?_; clear hf a; intro a hf
  refine s_a hf rfl ?_; clear hf a; intro a hf
  refine s_nil (then_n ?_)
  refine wp_ret ?_
  refine r_2 hf Tryz.results69 rfl rfl ?_
  obtain rfl : i = ws.length := by omega
  rw [List.take_length] at hs
  have hE0 : E = 0 := by rw [hE]; unfold aplE; rw [if_neg (by omega), if_neg (by rw [hrt]; simp)]
  have hV0 : V = appW (baseW content n) ws := by rw [hV]; unfold aplR; rw [if_pos (by rw [← hE, hE0]), Int.toNat_natCast]
  have hVl : V.length = n := by rw [hV0, appW_len, baseW_len]
  rw [hE0, hVl]
  rw [← hV0] at hs
  exact ⟨_, _, rfl, St.ofBb hs hVl (by omega)⟩
 clear hf
 have hf := hf'
 clear hf'
 simp only [zd1, zd2, zd3, zd4] at hg8_3
 rw [base_end (n := n) (content := content) (i := i) (by omega) (by omega) (by omega)] at hs
 refine s_pass hf rfl rfl ?_; clear hf a; intro a hf
 refine s_pass hf rfl rfl ?_; clear hf a; intro a hf
 refine s_pass hf rfl rfl ?_; clear hf a; intro a hf
 refine s_pass hf rfl rfl ?_; clear hf a; intro a hf
 refine s_v hf (x_pick_f (hf.eval rfl) (hf.eval rfl)) ?_; clear hf a; intro a hf
 refine s_nil (then_n ?_)
 refine c_cond_f hf rfl rfl ?_
 first | rw [base_end (n := n) (content := content) (i := i) (by omega) (by omega) (by omega)] at hs | skip
 refine wp_exit (then_x (then_x (blk_x (then_n (wp_seq (wp_seq (wp_region_lit ?_)))))))
 refine s_a hf rfl ?_; clear hf a; intro a hf
 refine s_nil (then_n (wp_block ?_))
 refine c_loop (L0 := [(0, _), (1, _), (2, _), (6, _), (7, _), (9, _), (10, _), (28, _), (29, _), (30, _), (31, _), (32, _), (33, _), (34, _), (35, _), (36, _)]) (fun M w m => ∃ i : Nat, M = [(11, .int .i64 (i : Int))] ∧ ws.length - i = m ∧ i ≤ ws.length ∧ St ⟨w0, None_⟩ w [bb b 5 (appW (baseW content n) (ws.take i))]) (M0 := [(11, .int .i64 0)]) (⟨0, rfl, rfl, Nat.zero_le _, hs⟩) (hf.sub ⟨rfl, rfl, rfl, rfl, rfl, rfl, rfl, rfl, rfl, rfl, rfl, rfl, rfl, rfl, rfl, rfl, rfl, trivial⟩) ?_
 clear hf hs a
 rintro M m a w ⟨i, rfl, rfl, hi, hs⟩ hf
 refine wp_seq (wp_seq (wp_region_lit ?_))
 refine s_m hf rfl ?_; clear hf a; intro a hf
 refine s_m hf rfl ?_; clear hf a; intro a hf
 refine s_v hf (x_len Tryz.underlying23 (hf.eval rfl)) ?_; clear hf a; intro a hf
 refine s_v hf (x_bin (hf.eval rfl) (hf.eval rfl) (r_lt _ _ _ _)) ?_; clear hf a; intro a hf
 refine s_nil (then_n ?_)
 refine c_cond hf rfl (fun hi3 => ?_) (fun hi3 => ?_)
 ·simp only [zd1, zd2, zd3, zd4, zd5, zd6, zd7] at hi3
  have hlt : i < ws.length := by omega
  obtain ⟨aw, rfl⟩ := hrw.some (by omega)
  obtain ⟨ab, ao2, rfl⟩ := rdS_plain (sz := 2) (fun _ => rfl) (by decide) hrw (by omega)
  have hgi := hgd _ (List.getElem_mem hlt)
  obtain ⟨hzi1, hzi2, hzi3⟩ := hok _ (List.getElem_mem hlt)
  have hwl0 : wL ws[i] = (ws[i].2.2.2.length : Int) := rfl
  have hal : (appW (baseW content n) (ws.take i)).length = n := by rw [appW_len, baseW_len]
  refine wp_skip (then_n (wp_seq (wp_block (wp_seq (wp_region_lit ?_)))))
  refine s_a hf rfl ?_; clear hf a; intro a hf
  refine s_nil (then_n (wp_block ?_))
  refine c_loop (L0 := [(0, _), (1, _), (2, _), (6, _), (7, _), (9, _), (10, _), (11, _), (28, _), (29, _), (30, _), (31, _), (32, _), (33, _), (34, _), (35, _), (36, _), (46, _), (47, _), (48, _), (49, _)]) (fun M w m => ∃ k : Nat, M = [(12, .int .i64 (k : Int))] ∧ ws[i].2.2.2.length - k = m ∧ k ≤ ws[i].2.2.2.length ∧ St ⟨w0, None_⟩ w [bb b 5 (putP (appW (baseW content n) (ws.take i)) (ws[i].1.toNat, ws[i].2.2.2.take k))]) (M0 := [(12, .int .i64 0)]) (⟨0, rfl, rfl, Nat.zero_le _, by rw [putP_zero]; exact hs⟩) (hf.sub ⟨rfl, rfl, rfl, rfl, rfl, rfl, rfl, rfl, rfl, rfl, rfl, rfl, rfl, rfl, rfl, rfl, rfl, rfl, rfl, rfl, rfl, rfl, trivial⟩) ?_
  clear hf hs a
  rintro M m a w ⟨k, rfl, rfl, hk, hs⟩ hf
  refine wp_seq (wp_seq (wp_region_lit ?_))
  refine s_m hf rfl ?_; clear hf a; intro a hf
  refine s_m hf rfl ?_; clear hf a; intro a hf
  refine s_m hf rfl ?_; clear hf a; intro a hf
  refine s_v hf (x_indexAddr sl23 (hf.eval rfl) (hf.eval rfl) (by omega) (by omega)) ?_; clear hf a; intro a hf
  replace hf := hf.now (k := 55) (v' := .pointer (some ⟨ab, ao2 + i * 2, none⟩)) rfl (by rw [addr_add]; rfl)
  refine s_v hf (x_fieldAddr fo54_1 (hf.eval rfl)) ?_; clear hf a; intro a hf
  refine s_r hf (x_load sc22 (hf.eval rfl) (rdS_cellAt (f := wF) (sz := 2) (fun _ => rfl) (hs.old hrw) (k := 1) hlt rfl)) ?_; clear hf a; intro a hf
  refine s_v hf (x_len Tryz.underlying22 (hf.eval rfl)) ?_; clear hf a; intro a hf
  refine s_v hf (x_bin (hf.eval rfl) (hf.eval rfl) (r_lt _ _ _ _)) ?_; clear hf a; intro a hf
  refine s_nil (then_n ?_)
  refine c_cond hf rfl (fun hi4 => ?_) (fun hi4 => ?_)
  ·simp only [zd1, zd2, zd3, zd4, zd5, zd6, zd7] at hi4
   have hkl : k < ws[i].2.2.2.length := by omega
   obtain ⟨da, hda⟩ : ∃ x, ws[i].2.1 = some x := by
     rcases hgi.1.2 with ⟨c9, e9, hn9⟩ | ⟨x9, c9, e9, _⟩
     · omega
     · injection e9 with e9; exact ⟨x9, e9⟩
   have hgk : RdB (hp w0) (.slice (some da) ws[i].2.2.2.length ws[i].2.2.1) ws[i].2.2.2 := by rw [← hda]; exact hgi.1
   refine wp_skip (then_n (wp_seq (wp_block ?_)))
   refine c_draw hs (fun _ => True) [.held, .held, .held, .held, .held, .read, .held, .held, .held, .held, .held, .held, .read, .held, .held, .read, .held, .fin] (by kernel_rfl) (by kernel_rfl) (fun _ _ _ => trivial) ?_
   clear hs; intro w hs hC hw
   refine m_held hf rfl (fun w' _ => x_move (hf.eval rfl) w') ?_; clear hf a; intro a hf
   refine m_held hf rfl (fun w' _ => x_move (hf.eval rfl) w') ?_; clear hf a; intro a hf
   refine m_held hf rfl (fun w' _ => x_move (hf.eval rfl) w') ?_; clear hf a; intro a hf
   refine m_held hf rfl (fun w' _ => x_indexAddr sl23 (hf.eval rfl) (hf.eval rfl) (by omega) (by omega) w') ?_; clear hf a; intro a hf
   replace hf := hf.now (k := 65) (v' := .pointer (some ⟨ab, ao2 + i * 2, none⟩)) rfl (by rw [addr_add]; rfl)
   refine m_held hf rfl (fun w' _ => x_fieldAddr fo54_0 (hf.eval rfl) w') ?_; clear hf a; intro a hf
   refine m_read hf rfl (x_load sc3 (hf.eval rfl) (rdS_cellAt (f := wF) (sz := 2) (fun _ => rfl) (hs.old hrw) (k := 0) hlt rfl)) ?_; clear hf a; intro a hf
   refine m_held hf rfl (fun w' _ => x_move (hf.eval rfl) w') ?_; clear hf a; intro a hf
   refine m_held hf rfl (fun w' _ => x_bin (hf.eval rfl) (hf.eval rfl) (r_addi _ (by omega) (by omega)) w') ?_; clear hf a; intro a hf
   replace hf := hf.now (k := 69) (v' := .int .i64 ((ws[i].1.toNat + k : Nat) : Int)) rfl (by congr 1; omega)
   refine m_held hf rfl (fun w' _ => x_move (hf.eval rfl) w') ?_; clear hf a; intro a hf
   refine m_held hf rfl (fun w' _ => x_move (hf.eval rfl) w') ?_; clear hf a; intro a hf
   refine m_held hf rfl (fun w' _ => x_indexAddr sl23 (hf.eval rfl) (hf.eval rfl) (by omega) (by omega) w') ?_; clear hf a; intro a hf
   replace hf := hf.now (k := 72) (v' := .pointer (some ⟨ab, ao2 + i * 2, none⟩)) rfl (by rw [addr_add]; rfl)
   refine m_held hf rfl (fun w' _ => x_fieldAddr fo54_1 (hf.eval rfl) w') ?_; clear hf a; intro a hf
   refine m_read hf rfl (x_load sc22 (hf.eval rfl) (rdS_cellAt (f := wF) (sz := 2) (fun _ => rfl) (hs.old hrw) (k := 1) hlt rfl)) ?_; clear hf a; intro a hf
   replace hf := hf.now (k := 74) (v' := .slice (some da) ws[i].2.2.2.length ws[i].2.2.1) rfl (by rw [← hda])
   refine m_held hf rfl (fun w' _ => x_move (hf.eval rfl) w') ?_; clear hf a; intro a hf
   refine m_held hf rfl (fun w' _ => x_indexAddr sl22 (hf.eval rfl) (hf.eval rfl) (by omega) (by omega) w') ?_; clear hf a; intro a hf
   refine m_read hf rfl (x_loadB (i := (k : Int)) sc5 (hs.oldB hgk) (hf.eval rfl) (by simpa using hkl)) ?_; clear hf a; intro a hf
   replace hf := hf.now (k := 77) (v' := u8v ws[i].2.2.2[k]) rfl (rfl)
   refine m_held hf rfl (fun w' _ => x_indexAddr sl22 (hf.eval rfl) (hf.eval rfl) (by omega) (by omega) w') ?_; clear hf a; intro a hf
   replace hf := hf.now (k := 78) (v' := .pointer (some ⟨b, ws[i].1.toNat + k, none⟩)) rfl (by rw [at_addN])
   refine m_fin0 hf rfl (y_storeB (k := ws[i].1.toNat + k) (u := ws[i].2.2.2[k]) hs sc5 (hf.eval rfl) (hf.eval rfl) rfl .k0 (by rw [putP_len, hal]; omega) ?_); clear hf hs a; intro w hs; intro a hf
   rw [putP_step (by rw [hal]; omega) hkl] at hs
   refine blk_n (then_n (wp_region_lit ?_))
   refine s_m hf rfl ?_; clear hf a; intro a hf
   refine s_v hf (x_bin (hf.eval rfl) (hf.eval rfl) (r_addi _ (by omega) (by omega))) ?_; clear hf a; intro a hf
   refine s_a hf rfl ?_; clear hf a; intro a hf
   refine s_nil ?_
   exact ⟨_, _, ⟨k + 1, rfl, rfl, by omega, hs⟩, by omega, hf.sub ⟨rfl, rfl, rfl, rfl, rfl, rfl, rfl, rfl, rfl, rfl, rfl, rfl, rfl, rfl, rfl, rfl, rfl, rfl, rfl, rfl, rfl, rfl, trivial⟩⟩
  simp only [zd1, zd2, zd3, zd4, zd5, zd6, zd7] at hi4
  rw [show List.take k ws[i].2.2.2 = ws[i].2.2.2 from List.take_of_length_le (by omega), ← appW_succ hlt] at hs
  refine wp_exit (then_x (then_x (blk_x (blk_n (then_n (wp_region_lit ?_))))))
  refine s_m hf rfl ?_; clear hf a; intro a hf
  refine s_v hf (x_bin (hf.eval rfl) (hf.eval rfl) (r_addi _ (by omega) (by omega))) ?_; clear hf a; intro a hf
  refine s_a hf rfl ?_; clear hf a; intro a hf
  refine s_nil ?_
  exact ⟨_, _, ⟨i + 1, rfl, rfl, by omega, hs⟩, by omega, hf.sub ⟨rfl, rfl, rfl, rfl, rfl, rfl, rfl, rfl, rfl, rfl, rfl, rfl, rfl, rfl, rfl, rfl, rfl, trivial⟩⟩
 simp only [zd1, zd2, zd3, zd4, zd5, zd6, zd7] at hi3
 refine wp_exit (then_x (then_x (blk_x (then_n (wp_seq (wp_region_lit ?_))))))
 refine s_m hf rfl ?_; clear hf a; intro a hf
 refine s_a hf rfl ?_; clear hf a; intro a hf
 refine s_a hf rfl ?_; clear hf a; intro a hf
 refine s_nil (then_n ?_)
 refine wp_ret ?_
 refine r_2 hf Tryz.results69 rfl rfl ?_
 obtain rfl : i = ws.length := by omega
 rw [List.take_length] at hs
 have hE0 : E = 0 := by rw [hE]; unfold aplE; rw [if_neg (by omega), if_neg (by rw [hrt]; simp)]
 have hV0 : V = appW (baseW content n) ws := by rw [hV]; unfold aplR; rw [if_pos (by rw [← hE, hE0]), Int.toNat_natCast]
 have hVl : V.length = n := by rw [hV0, appW_len, baseW_len]
 rw [hE0, hVl]
 rw [← hV0] at hs
 exact ⟨_, _, rfl, St.ofBb hs hVl (by omega)⟩
theorem rneed_all (w0 : World) (cl : Nat) (size : Int) (aw : Option Addr) (cw : Nat) (ws : List Wr) (hrw : RdS wF 2 (hp w0) (.slice aw ws.length cw) ws) (hlw : ws.length ≤ 1048576) : Calls Tryz.prog 70 #[.int .i64 (cl : Int), .int .i64 size, .slice aw ws.length cw] w0 fun e w' => e = .returned (.tuple #[.int .i64 (if aplE cl size ws = 0 then filZ (cl : Int) size (lonZ (savL (cl : Int) ws)) else 0), .int .i64 (aplE cl size ws)]) ∧ Kept w0 w' None_ := by
  by_cases hb : ((cl : Int) ≤ 16777216 ∧ 0 ≤ size ∧ size ≤ 16777216)
  · cases hr : rgt size ws 0 with
    | false =>
      have e : aplE cl size ws = 143 := by unfold aplE; rw [if_neg (fun h => h hb), if_pos hr]
      rw [e, if_neg (by decide)]
      exact rneed_b2 w0 cl size aw cw ws hrw hlw ⟨by omega, hb.1⟩ hb.2 hr
    | true =>
      have e : aplE cl size ws = 0 := by unfold aplE; rw [if_neg (fun h => h hb), if_neg (by rw [hr]; simp)]
      rw [e, if_pos rfl]
      exact rneed_ok w0 cl size aw cw ws hrw hlw ⟨by omega, hb.1⟩ hb.2 hr
  · have e : aplE cl size ws = 1 := by unfold aplE; rw [if_pos hb]
    rw [e, if_neg (by decide)]
    exact rneed_b1 w0 cl size aw cw ws hrw hlw (by omega)
theorem fil_fil {c : List UInt8} {size : Int} {ws : List Wr} (h : rgt size ws 0 = true) : filZ (c.length : Int) size (lonZ (savL (c.length : Int) ws)) = filU c size ws := by
  have hs := sav_spc (old := (c.length : Int)) h
  have e1 := lonZ_eq hs
  have e2 := body_len hs
  unfold filU bodU
  rw [e1, e2]
def toP (z : Wr) : Pt := (z.1.toNat, .slice z.2.1 z.2.2.2.length z.2.2.1, z.2.2.2)
def dkY (z : Wr) : Int × List UInt8 := (z.1, z.2.2.2)
theorem dkY_key : ∀ {l m : List Wr}, l.map dkY = m.map dkY → l.length = m.length ∧ (∀ size e, rgt size l e = rgt size m e) ∧ (∀ old, savL old l = savL old m) ∧ ∀ x, appW x l = appW x m
  | [], [], _ => ⟨rfl, fun _ _ => rfl, fun _ => rfl, fun _ => rfl⟩
  | [], _ :: _, h => by simp at h
  | _ :: _, [], h => by simp at h
  | x :: l, y :: m, h => by
    simp only [List.map_cons, List.cons.injEq, dkY, Prod.mk.injEq] at h
    obtain ⟨⟨h1, h2⟩, h3⟩ := h
    obtain ⟨k1, k2, k3, k4⟩ := dkY_key h3
    have hw : wL x = wL y := by unfold wL; rw [h2]
    refine ⟨by simp [k1], fun size e => ?_, fun old => ?_, fun z => ?_⟩
    · unfold rgt; rw [h1, hw, k2]
    · have e1 : ∀ (z : Wr) (r : List Wr), savL old (z :: r) = (if z.1 < min old (z.1 + wL z) then [(z.1, min old (z.1 + wL z))] else []) ++ savL old r := fun _ _ => rfl
      rw [e1, e1, h1, hw, k3]
    · show appW (putP z (x.1.toNat, x.2.2.2)) l = appW (putP z (y.1.toNat, y.2.2.2)) m
      rw [h1, h2, k4]
theorem dkY_wrs : ∀ {l m : List Wr}, l.map dkY = m.map dkY → wrsU l = wrsU m := fun {l m} h => by
  have e : ∀ l : List Wr, wrsU l = (l.map dkY).map fun p => ((2 : Int), p.1, p.2) := fun l => by unfold wrsU; rw [List.map_map]; rfl
  rw [e, e, h]
theorem dkY_U {l m : List Wr} (h : l.map dkY = m.map dkY) (s : DS) (seq size : Int) : refE s seq size l = refE s seq size m ∧ opsU s.now seq size l = opsU s.now seq size m ∧ opsA s.now seq size l = opsA s.now seq size m ∧ aplR s.now size l = aplR s.now size m ∧ updR s seq size l = updR s seq size m := by
  obtain ⟨k1, k2, k3, k4⟩ := dkY_key h
  have e1 : ∀ cl, aplE cl size l = aplE cl size m := fun cl => by unfold aplE; rw [k2]
  have e2 : ∀ c, aplR c size l = aplR c size m := fun c => by unfold aplR; rw [e1, k4]
  have e3 : ∀ c, bodU c l = bodU c m := fun c => by unfold bodU; rw [k3]
  have e4 : ∀ c, filU c size l = filU c size m := fun c => by unfold filU; rw [e3]
  have e5 : ∀ c, seaU c size l = seaU c size m := fun c => by unfold seaU; rw [e4]
  have e6 : ∀ c st, slU st seq c size l = slU st seq c size m := fun c st => by unfold slU; rw [e3, k3]
  have e7 : opsA s.now seq size l = opsA s.now seq size m := by unfold opsA clmU savU armU; rw [e3, e4, e5, e6, e6, dkY_wrs h]
  have e8 : opsU s.now seq size l = opsU s.now seq size m := by unfold opsU armU; rw [e7, e5, e6]
  have e9 : refE s seq size l = refE s seq size m := by unfold refE; rw [e1, e2, e4]
  exact ⟨e9, e8, e7, e2 _, by unfold updR; rw [e9, e8]⟩
attribute [local irreducible] Vw.sl Vw.lkV Vw.aplR Vw.aplE Vw.filU Vw.filZ Vw.lonZ Vw.savL
def mayR (c : List UInt8) (seq size : Int) (ws : List Wr) : List UInt8 × Int × Bool := if aplE c.length size ws ≠ 0 ∨ inF seq = false ∨ 16777216 < filU c size ws then ([], 0, false) else (aplR c size ws, filU c size ws, decide ((lkV c).1.1 = 0) && decide ((lkV (aplR c size ws)).1.1 = 0))
end Go.Proofs.YtehakfbfjpolfaaGreatDoor

namespace Go.Proofs.YtehakfbfjpolfaaGreatDoor
open Go Vw
theorem carried_spec (σ : Sig) (w : World) (R : List Asrt) (p : Nat) (s : DS) (hs : St σ w (refA 88 152 5 3 p s :: R)) (hf1 : s.fuse ≤ 9223372036854775807) (hf0 : -1 ≤ s.fuse) (hcl : s.calls ≤ 4611686018427387904) : Calls Tryz.prog 40 #[.pointer (some ⟨p, 0, none⟩)] w fun e w' => e = .returned (.bool (decide (s.fuse ≠ 0))) ∧ St σ w' (refA 88 152 5 3 p (spent s) :: R) := by
 obtain ⟨⟨v1, v2, v3, v4, ps⟩, hps, hs⟩ := refA_open hs
 dsimp only at hps hs
 obtain ⟨a1, c1, rfl, hc1⟩ := slB_shape (hs.take .k1)
 obtain ⟨a2, c2, rfl, hc2⟩ := slB_shape (hs.take .k2)
 obtain ⟨a3, c3, rfl⟩ := sl_shape (hs.take .k3)
 obtain ⟨a4, c4, rfl⟩ := sl_shape (hs.take .k5)
 refine c_enter (N := 30) Tryz.func40 rfl Tryz.ntmps40 (by simp) ?_
 intro a hf
 refine wp_seq (wp_region_lit ?_)
 refine s_a hf rfl ?_; clear hf a; intro a hf
 refine s_nil (then_n (wp_seq (wp_seq (wp_region_lit ?_))))
 refine s_m hf rfl ?_; clear hf a; intro a hf
 refine s_v hf (x_nilCheck (hf.eval rfl)) ?_; clear hf a; intro a hf
 refine s_v hf (x_fieldAddr fo88_6 (hf.eval rfl)) ?_; clear hf a; intro a hf
 refine s_r hf (x_load sc3 (hf.eval rfl) (by apply hs.cell <;> repeat constructor)) ?_; clear hf a; intro a hf
 refine s_v hf (x_bin (hf.eval rfl) (hf.eval rfl) (r_eq _ _ _ _)) ?_; clear hf a; intro a hf
 refine s_nil (then_n ?_)
 refine c_cond hf rfl (fun hi0 => ?_) (fun hi0 => ?_)
 ·simp only [zd1, zd2, zd3, zd4, zd5, zd6, zd7] at hi0
  refine wp_seq (wp_region_lit ?_)
  refine s_m hf rfl ?_; clear hf a; intro a hf
  refine s_v hf (x_nilCheck (hf.eval rfl)) ?_; clear hf a; intro a hf
  refine s_v hf (x_fieldAddr fo88_7 (hf.eval rfl)) ?_; clear hf a; intro a hf
  refine s_do0 hf rfl (y_store hs sc4 (hf.eval rfl) (hf.eval rfl) rfl (by repeat constructor) (by simp) ?_); clear hf hs a; intro w hs a hf
  refine s_nil (then_n (wp_seq (wp_region_lit ?_)))
  refine s_a hf rfl ?_; clear hf a; intro a hf
  refine s_nil (then_n ?_)
  refine wp_ret ?_
  refine then_r ?_
  refine r_1 hf Tryz.results40 rfl ?_
  have hz : s.fuse = 0 := hi0
  refine ⟨by simp [hz], ?_⟩
  rw [spent_0 hz]
  exact refA_close (x := ⟨.slice a1 s.now.length c1, .slice a2 s.dur.length c2, .slice a3 ps.length c3, .slice a4 s.sizes.length c4, ps⟩) hps hs
 simp only [zd1, zd2, zd3, zd4, zd5, zd6, zd7] at hi0
 refine wp_skip (then_n (wp_seq (wp_seq (wp_region_lit ?_))))
 refine s_m hf rfl ?_; clear hf a; intro a hf
 refine s_v hf (x_nilCheck (hf.eval rfl)) ?_; clear hf a; intro a hf
 refine s_v hf (x_fieldAddr fo88_6 (hf.eval rfl)) ?_; clear hf a; intro a hf
 refine s_r hf (x_load sc3 (hf.eval rfl) (by apply hs.cell <;> repeat constructor)) ?_; clear hf a; intro a hf
 refine s_v hf (x_bin (hf.eval rfl) (hf.eval rfl) (r_gt _ _ _ _)) ?_; clear hf a; intro a hf
 refine s_nil (then_n ?_)
 refine c_cond hf rfl (fun hi1 => ?_) (fun hi1 => ?_)
 ·simp only [zd1, zd2, zd3, zd4, zd5, zd6, zd7] at hi1
  refine wp_region_lit ?_
  refine s_m hf rfl ?_; clear hf a; intro a hf
  refine s_v hf (x_nilCheck (hf.eval rfl)) ?_; clear hf a; intro a hf
  refine s_v hf (x_fieldAddr fo88_6 (hf.eval rfl)) ?_; clear hf a; intro a hf
  refine s_r hf (x_load sc3 (hf.eval rfl) (by apply hs.cell <;> repeat constructor)) ?_; clear hf a; intro a hf
  refine s_v hf (x_bin (hf.eval rfl) (hf.eval rfl) (r_subi _ (by omega) (by omega))) ?_; clear hf a; intro a hf
  refine s_v hf (x_nilCheck (hf.eval rfl)) ?_; clear hf a; intro a hf
  refine s_v hf (x_fieldAddr fo88_6 (hf.eval rfl)) ?_; clear hf a; intro a hf
  refine s_do0 hf rfl (y_store hs sc3 (hf.eval rfl) (hf.eval rfl) rfl (by repeat constructor) (by simp) ?_); clear hf hs a; intro w hs a hf
  refine s_nil (then_n (wp_seq (wp_region_lit ?_)))
  refine s_m hf rfl ?_; clear hf a; intro a hf
  refine s_v hf (x_nilCheck (hf.eval rfl)) ?_; clear hf a; intro a hf
  refine s_v hf (x_fieldAddr fo88_5 (hf.eval rfl)) ?_; clear hf a; intro a hf
  refine s_r hf (x_load sc3 (hf.eval rfl) (by apply hs.cell <;> repeat constructor)) ?_; clear hf a; intro a hf
  refine s_v hf (x_bin (hf.eval rfl) (hf.eval rfl) (r_addi _ (by omega) (by omega))) ?_; clear hf a; intro a hf
  replace hf := hf.now (k := 27) (v' := .int .i64 ((s.calls + 1 : Nat) : Int)) rfl (by push_cast; rfl)
  refine s_v hf (x_nilCheck (hf.eval rfl)) ?_; clear hf a; intro a hf
  refine s_v hf (x_fieldAddr fo88_5 (hf.eval rfl)) ?_; clear hf a; intro a hf
  refine s_do0 hf rfl (y_store hs sc3 (hf.eval rfl) (hf.eval rfl) rfl (by repeat constructor) (by simp) ?_); clear hf hs a; intro w hs a hf
  refine s_nil (then_n (wp_seq (wp_region_lit ?_)))
  refine s_a hf rfl ?_; clear hf a; intro a hf
  refine s_nil (then_n ?_)
  refine wp_ret ?_
  refine r_1 hf Tryz.results40 rfl ?_
  refine ⟨by simp; omega, ?_⟩
  first | rw [spent_pos (show 0 < s.fuse by omega)] | rw [spent_neg (show s.fuse < 0 by omega)]
  exact refA_close (x := ⟨.slice a1 s.now.length c1, .slice a2 s.dur.length c2, .slice a3 ps.length c3, .slice a4 s.sizes.length c4, ps⟩) hps hs
 simp only [zd1, zd2, zd3, zd4, zd5, zd6, zd7] at hi1
 refine wp_skip (then_n (wp_seq (wp_region_lit ?_)))
 refine s_m hf rfl ?_; clear hf a; intro a hf
 refine s_v hf (x_nilCheck (hf.eval rfl)) ?_; clear hf a; intro a hf
 refine s_v hf (x_fieldAddr fo88_5 (hf.eval rfl)) ?_; clear hf a; intro a hf
 refine s_r hf (x_load sc3 (hf.eval rfl) (by apply hs.cell <;> repeat constructor)) ?_; clear hf a; intro a hf
 refine s_v hf (x_bin (hf.eval rfl) (hf.eval rfl) (r_addi _ (by omega) (by omega))) ?_; clear hf a; intro a hf
 replace hf := hf.now (k := 27) (v' := .int .i64 ((s.calls + 1 : Nat) : Int)) rfl (by push_cast; rfl)
 refine s_v hf (x_nilCheck (hf.eval rfl)) ?_; clear hf a; intro a hf
 refine s_v hf (x_fieldAddr fo88_5 (hf.eval rfl)) ?_; clear hf a; intro a hf
 refine s_do0 hf rfl (y_store hs sc3 (hf.eval rfl) (hf.eval rfl) rfl (by repeat constructor) (by simp) ?_); clear hf hs a; intro w hs a hf
 refine s_nil (then_n (wp_seq (wp_region_lit ?_)))
 refine s_a hf rfl ?_; clear hf a; intro a hf
 refine s_nil (then_n ?_)
 refine wp_ret ?_
 refine r_1 hf Tryz.results40 rfl ?_
 refine ⟨by simp; omega, ?_⟩
 first | rw [spent_pos (show 0 < s.fuse by omega)] | rw [spent_neg (show s.fuse < 0 by omega)]
 exact refA_close (x := ⟨.slice a1 s.now.length c1, .slice a2 s.dur.length c2, .slice a3 ps.length c3, .slice a4 s.sizes.length c4, ps⟩) hps hs
theorem rFuse_spec (σ : Sig) (w : World) (R : List Asrt) (p : Nat) (s : DS) (hs : St σ w (refA 88 152 5 3 p s :: R)) (n : Int) : Calls Tryz.prog 10 #[.pointer (some ⟨p, 0, none⟩), .int .i64 n] w fun e w' => e = .returned (.tuple #[]) ∧ St σ w' (refA 88 152 5 3 p (fuS s n) :: R) := by
 obtain ⟨⟨v1, v2, v3, v4, ps⟩, hps, hs⟩ := refA_open hs
 dsimp only at hps hs
 obtain ⟨a1, c1, rfl, hc1⟩ := slB_shape (hs.take .k1)
 obtain ⟨a2, c2, rfl, hc2⟩ := slB_shape (hs.take .k2)
 obtain ⟨a3, c3, rfl⟩ := sl_shape (hs.take .k3)
 obtain ⟨a4, c4, rfl⟩ := sl_shape (hs.take .k5)
 refine c_enter (N := 22) Tryz.func10 rfl Tryz.ntmps10 (by simp) ?_
 intro a hf
 refine wp_seq (wp_seq (wp_region_lit ?_))
 refine s_m hf rfl ?_; clear hf a; intro a hf
 refine s_v hf (x_eqNil Tryz.underlying28 (hf.eval rfl) (hf.eval rfl)) ?_; clear hf a; intro a hf
 replace hf := hf.now (k := 5) (v' := .bool false) rfl rfl
 refine s_m hf rfl ?_; clear hf a; intro a hf
 refine s_do hf (wanted_of hf rfl rfl rfl) (.value (x_move (hf.eval rfl) _) ?_); clear hf a; intro a hf
 refine s_do hf (wanted_of hf rfl rfl rfl) (.value (x_nilCheck (hf.eval rfl) _) ?_); clear hf a; intro a hf
 refine s_do hf (wanted_of hf rfl rfl rfl) (.value (x_fieldAddr fo88_7 (hf.eval rfl) _) ?_); clear hf a; intro a hf
 refine s_do hf (wanted_of hf rfl rfl rfl) (.value (x_load sc4 (hf.eval rfl) (by apply hs.cell <;> repeat constructor)) ?_); clear hf a; intro a hf
 refine s_do hf (wanted_of hf rfl rfl rfl) (.value (x_not (hf.eval rfl) _) ?_); clear hf a; intro a hf
 refine s_v hf (x_pick_f (hf.eval rfl) (hf.eval rfl)) ?_; clear hf a; intro a hf
 refine s_nil (then_n ?_)
 refine c_cond hf rfl (fun hi0 => ?_) (fun hi0 => ?_)
 ·simp only [Bool.not_eq_true', Bool.not_eq_false', Bool.not_not] at hi0
  refine wp_ret ?_
  refine then_r ?_
  refine r_0 hf Tryz.results10 ?_
  have e : fuS s n = s := by unfold fuS; rw [if_pos hi0]
  rw [e]
  exact ⟨rfl, refA_close (x := ⟨_, _, _, _, ps⟩) hps hs⟩
 simp only [Bool.not_eq_true', Bool.not_eq_false', Bool.not_not] at hi0
 refine wp_skip (then_n (wp_seq (wp_region_lit ?_)))
 refine s_m hf rfl ?_; clear hf a; intro a hf
 refine s_m hf rfl ?_; clear hf a; intro a hf
 refine s_v hf (x_nilCheck (hf.eval rfl)) ?_; clear hf a; intro a hf
 refine s_v hf (x_fieldAddr fo88_6 (hf.eval rfl)) ?_; clear hf a; intro a hf
 refine s_do0 hf rfl (y_store hs sc3 (hf.eval rfl) (hf.eval rfl) rfl (by repeat constructor) (by simp) ?_); clear hf hs a; intro w hs a hf
 refine s_nil (then_n (wp_seq (wp_region_lit ?_)))
 refine s_m hf rfl ?_; clear hf a; intro a hf
 refine s_v hf (x_bin (hf.eval rfl) (hf.eval rfl) (r_lt _ _ _ _)) ?_; clear hf a; intro a hf
 refine s_nil (then_n ?_)
 refine c_cond hf rfl (fun hi1 => ?_) (fun hi1 => ?_)
 ·simp only [zd1, zd2, zd3, zd4, zd5, zd6, zd7] at hi1
  refine wp_region_lit ?_
  refine s_m hf rfl ?_; clear hf a; intro a hf
  refine s_v hf (x_nilCheck (hf.eval rfl)) ?_; clear hf a; intro a hf
  refine s_v hf (x_fieldAddr fo88_6 (hf.eval rfl)) ?_; clear hf a; intro a hf
  refine s_do0 hf rfl (y_store hs sc3 (hf.eval rfl) (hf.eval rfl) rfl (by repeat constructor) (by simp) ?_); clear hf hs a; intro w hs a hf
  refine s_nil ?_
  refine r_0n hf Tryz.results10 ?_
  have e : fuS s n = { s with fuse := max n (-1) } := by unfold fuS; rw [if_neg (by simp [hi0])]
  rw [e]
  first | rw [show max n (-1) = -1 by omega] | rw [show max n (-1) = n by omega]
  exact ⟨rfl, refA_close (x := ⟨.slice a1 s.now.length c1, .slice a2 s.dur.length c2, .slice a3 ps.length c3, .slice a4 s.sizes.length c4, ps⟩) hps hs⟩
 simp only [zd1, zd2, zd3, zd4, zd5, zd6, zd7] at hi1
 refine wp_skip ?_
 refine r_0n hf Tryz.results10 ?_
 have e : fuS s n = { s with fuse := max n (-1) } := by unfold fuS; rw [if_neg (by simp [hi0])]
 rw [e]
 first | rw [show max n (-1) = -1 by omega] | rw [show max n (-1) = n by omega]
 exact ⟨rfl, refA_close (x := ⟨.slice a1 s.now.length c1, .slice a2 s.dur.length c2, .slice a3 ps.length c3, .slice a4 s.sizes.length c4, ps⟩) hps hs⟩
theorem rCapacity_spec (σ : Sig) (w : World) (R : List Asrt) (p : Nat) (s : DS) (hs : St σ w (refA 88 152 5 3 p s :: R)) : Calls Tryz.prog 86 #[.pointer (some ⟨p, 0, none⟩)] w fun e w' => e = .returned (.int .i64 s.room) ∧ w' = w := by
 obtain ⟨⟨v1, v2, v3, v4, ps⟩, hps, hs⟩ := refA_open hs
 dsimp only at hps hs
 obtain ⟨a1, c1, rfl, hc1⟩ := slB_shape (hs.take .k1)
 obtain ⟨a2, c2, rfl, hc2⟩ := slB_shape (hs.take .k2)
 obtain ⟨a3, c3, rfl⟩ := sl_shape (hs.take .k3)
 obtain ⟨a4, c4, rfl⟩ := sl_shape (hs.take .k5)
 refine c_enter (N := 9) Tryz.func86 rfl Tryz.ntmps86 (by simp) ?_
 intro a hf
 refine wp_seq (wp_region_lit ?_)
 refine s_a hf rfl ?_; clear hf a; intro a hf
 refine s_nil (then_n (wp_seq (wp_seq (wp_region_lit ?_))))
 refine s_m hf rfl ?_; clear hf a; intro a hf
 refine s_v hf (x_eqNil Tryz.underlying28 (hf.eval rfl) (hf.eval rfl)) ?_; clear hf a; intro a hf
 replace hf := hf.now (k := 4) (v' := .bool false) rfl rfl
 refine s_nil (then_n ?_)
 refine c_cond_f hf rfl rfl ?_
 refine wp_skip (then_n (wp_seq (wp_region_lit ?_)))
 refine s_m hf rfl ?_; clear hf a; intro a hf
 refine s_v hf (x_nilCheck (hf.eval rfl)) ?_; clear hf a; intro a hf
 refine s_v hf (x_fieldAddr fo88_0 (hf.eval rfl)) ?_; clear hf a; intro a hf
 refine s_r hf (x_load sc3 (hf.eval rfl) (by apply hs.cell <;> repeat constructor)) ?_; clear hf a; intro a hf
 refine s_a hf rfl ?_; clear hf a; intro a hf
 refine s_nil (then_n ?_)
 refine wp_ret ?_
 refine r_1 hf Tryz.results86 rfl ?_
 exact ⟨rfl, rfl⟩
theorem rCalls_spec (σ : Sig) (w : World) (R : List Asrt) (p : Nat) (s : DS) (hs : St σ w (refA 88 152 5 3 p s :: R)) : Calls Tryz.prog 19 #[.pointer (some ⟨p, 0, none⟩)] w fun e w' => e = .returned (.int .i64 (s.calls : Int)) ∧ w' = w := by
 obtain ⟨⟨v1, v2, v3, v4, ps⟩, hps, hs⟩ := refA_open hs
 dsimp only at hps hs
 obtain ⟨a1, c1, rfl, hc1⟩ := slB_shape (hs.take .k1)
 obtain ⟨a2, c2, rfl, hc2⟩ := slB_shape (hs.take .k2)
 obtain ⟨a3, c3, rfl⟩ := sl_shape (hs.take .k3)
 obtain ⟨a4, c4, rfl⟩ := sl_shape (hs.take .k5)
 refine c_enter (N := 9) Tryz.func19 rfl Tryz.ntmps19 (by simp) ?_
 intro a hf
 refine wp_seq (wp_region_lit ?_)
 refine s_a hf rfl ?_; clear hf a; intro a hf
 refine s_nil (then_n (wp_seq (wp_seq (wp_region_lit ?_))))
 refine s_m hf rfl ?_; clear hf a; intro a hf
 refine s_v hf (x_eqNil Tryz.underlying28 (hf.eval rfl) (hf.eval rfl)) ?_; clear hf a; intro a hf
 replace hf := hf.now (k := 4) (v' := .bool false) rfl rfl
 refine s_nil (then_n ?_)
 refine c_cond_f hf rfl rfl ?_
 refine wp_skip (then_n (wp_seq (wp_region_lit ?_)))
 refine s_m hf rfl ?_; clear hf a; intro a hf
 refine s_v hf (x_nilCheck (hf.eval rfl)) ?_; clear hf a; intro a hf
 refine s_v hf (x_fieldAddr fo88_5 (hf.eval rfl)) ?_; clear hf a; intro a hf
 refine s_r hf (x_load sc3 (hf.eval rfl) (by apply hs.cell <;> repeat constructor)) ?_; clear hf a; intro a hf
 refine s_a hf rfl ?_; clear hf a; intro a hf
 refine s_nil (then_n ?_)
 refine wp_ret ?_
 refine r_1 hf Tryz.results19 rfl ?_
 exact ⟨rfl, rfl⟩
theorem rAlive_spec (σ : Sig) (w : World) (R : List Asrt) (p : Nat) (s : DS) (hs : St σ w (refA 88 152 5 3 p s :: R)) : Calls Tryz.prog 61 #[.pointer (some ⟨p, 0, none⟩)] w fun e w' => e = .returned (.bool (!s.dead)) ∧ w' = w := by
 obtain ⟨⟨v1, v2, v3, v4, ps⟩, hps, hs⟩ := refA_open hs
 dsimp only at hps hs
 obtain ⟨a1, c1, rfl, hc1⟩ := slB_shape (hs.take .k1)
 obtain ⟨a2, c2, rfl, hc2⟩ := slB_shape (hs.take .k2)
 obtain ⟨a3, c3, rfl⟩ := sl_shape (hs.take .k3)
 obtain ⟨a4, c4, rfl⟩ := sl_shape (hs.take .k5)
 refine c_enter (N := 11) Tryz.func61 rfl Tryz.ntmps61 (by simp) ?_
 intro a hf
 refine wp_seq (wp_region_lit ?_)
 refine s_a hf rfl ?_; clear hf a; intro a hf
 refine s_nil (then_n (wp_seq (wp_region_lit ?_)))
 refine s_m hf rfl ?_; clear hf a; intro a hf
 refine s_v hf (x_neNil Tryz.underlying28 (hf.eval rfl) (hf.eval rfl)) ?_; clear hf a; intro a hf
 replace hf := hf.now (k := 4) (v' := .bool true) rfl rfl
 refine s_m hf rfl ?_; clear hf a; intro a hf
 refine s_do hf (wanted_of hf rfl rfl rfl) (.value (x_move (hf.eval rfl) _) ?_); clear hf a; intro a hf
 refine s_do hf (wanted_of hf rfl rfl rfl) (.value (x_nilCheck (hf.eval rfl) _) ?_); clear hf a; intro a hf
 refine s_do hf (wanted_of hf rfl rfl rfl) (.value (x_fieldAddr fo88_7 (hf.eval rfl) _) ?_); clear hf a; intro a hf
 refine s_do hf (wanted_of hf rfl rfl rfl) (.value (x_load sc4 (hf.eval rfl) (by apply hs.cell <;> repeat constructor)) ?_); clear hf a; intro a hf
 refine s_v hf (x_pick_t (hf.eval rfl) (hf.eval rfl)) ?_; clear hf a; intro a hf
 refine s_a hf rfl ?_; clear hf a; intro a hf
 refine s_nil (then_n ?_)
 refine wp_ret ?_
 refine r_1 hf Tryz.results61 rfl ?_
 exact ⟨rfl, rfl⟩
theorem rImage_spec (σ : Sig) (w : World) (R : List Asrt) (p : Nat) (s : DS) (hs : St σ w (refA 88 152 5 3 p s :: R)) (hn : s.now.length ≤ 140737488351232) : Calls Tryz.prog 22 #[.pointer (some ⟨p, 0, none⟩)] w fun e w' => ∃ a c, e = .returned (.slice a s.now.length c) ∧ St σ w' (slB 5 (.slice a s.now.length c) s.now :: refA 88 152 5 3 p s :: R) := by
 obtain ⟨⟨v1, v2, v3, v4, ps⟩, hps, hs⟩ := refA_open hs
 dsimp only at hps hs
 obtain ⟨a1, c1, rfl, hc1⟩ := slB_shape (hs.take .k1)
 obtain ⟨a2, c2, rfl, hc2⟩ := slB_shape (hs.take .k2)
 obtain ⟨a3, c3, rfl⟩ := sl_shape (hs.take .k3)
 obtain ⟨a4, c4, rfl⟩ := sl_shape (hs.take .k5)
 refine c_enter (N := 10) Tryz.func22 rfl Tryz.ntmps22 (by simp) ?_
 intro a hf
 refine wp_seq (wp_region_lit ?_)
 refine s_a hf rfl ?_; clear hf a; intro a hf
 refine s_nil (then_n (wp_seq (wp_seq (wp_region_lit ?_))))
 refine s_m hf rfl ?_; clear hf a; intro a hf
 refine s_v hf (x_eqNil Tryz.underlying28 (hf.eval rfl) (hf.eval rfl)) ?_; clear hf a; intro a hf
 replace hf := hf.now (k := 4) (v' := .bool false) rfl rfl
 refine s_nil (then_n ?_)
 refine c_cond_f hf rfl rfl ?_
 refine wp_skip (then_n (wp_seq (wp_region_lit ?_)))
 refine s_m hf rfl ?_; clear hf a; intro a hf
 refine s_v hf (x_nilCheck (hf.eval rfl)) ?_; clear hf a; intro a hf
 refine s_v hf (x_fieldAddr fo88_1 (hf.eval rfl)) ?_; clear hf a; intro a hf
 refine s_r hf (x_load sc22 (hf.eval rfl) (by apply hs.cell <;> repeat constructor)) ?_; clear hf a; intro a hf
 refine s_do hf rfl (y_call (hf.eval rfl) (hf.evals rfl) Tryz.call38 ((rclone_spec _ _ _ s.now (hs.rdB .k1 fun h => slB_rd) (by omega)).mono ?_))
 rintro e w1 ⟨e1, fe1, rfl, hj⟩
 replace hs := hs.join hj
 simp only [List.cons_append, List.nil_append] at hs
 refine ⟨_, rfl, ?_⟩; clear hf a; intro a hf
 refine s_a hf rfl ?_; clear hf a; intro a hf
 refine s_nil (then_n ?_)
 refine wp_ret ?_
 refine r_1 hf Tryz.results22 rfl ?_
 refine ⟨_, _, rfl, ?_⟩
 exact (refA_close (s := s) (x := ⟨_, _, _, _, ps⟩) (R := slB 5 _ s.now :: R) hps (St.give (L := _) hs .k6)).take .k1
theorem rNew_in (w0 : World) (a1 : Option Addr) (c1 : Nat) (image : List UInt8) (hr1 : RdB (hp w0) (.slice a1 image.length c1) image) (hl1 : image.length ≤ 140737488351232) (cap : Int) (hc1 : 0 ≤ cap) (hc2 : cap ≤ 16777216) (hc3 : image.length ≤ cap) : Calls Tryz.prog 8 #[.slice a1 image.length c1, .int .i64 cap] w0 fun e w' => ∃ p, e = .returned (.tuple #[.pointer (some ⟨p, 0, none⟩), .int .i64 0]) ∧ St ⟨w0, None_⟩ w' [refA 88 152 5 3 p (newS image cap)] := by
  refine (rNew_ok w0 a1 c1 image hr1 hl1 cap hc1 hc2 hc3).mono fun e w' h => ?_
  obtain ⟨q, u1, u2, rfl, hs⟩ := h
  refine ⟨q, rfl, ?_⟩
  replace hs := St.give (L := _) (hs.emp (A := sl 152 3 (.slice none 0 0) 0 []) (fun _ => ⟨rfl, .inl ⟨rfl, rfl⟩⟩)) .k3
  replace hs := St.give (L := _) (hs.emp (A := datA 5 []) (fun _ => trivial)) .k4
  replace hs := St.give (L := _) (hs.emp (A := sl 3 1 (.slice none 0 0) 0 []) (fun _ => ⟨rfl, .inl ⟨rfl, rfl⟩⟩)) .k5
  exact refA_close (s := newS image cap) (x := ⟨u1, u2, .slice none 0 0, .slice none 0 0, []⟩) rfl hs
theorem rlay_spec (σ : Sig) (w : World) (R : List Asrt) (p : Nat) (s : DS) (hs : St σ w (refA 88 152 5 3 p s :: R)) (at_ : Nat) (ad : Option Addr) (cd : Nat) (data : List UInt8) (hr : Rdy σ R (.slice ad data.length cd) data) (hd : data ≠ []) (hat : at_ ≤ s.now.length) (hsz : at_ + data.length ≤ 16777216) (hnow : s.now.length ≤ 16777216) (hpc : s.pcs.length ≤ 1099511627776) : Calls Tryz.prog 90 #[.pointer (some ⟨p, 0, none⟩), .int .i64 (at_ : Int), .slice ad data.length cd] w fun e w' => e = .returned (.tuple #[]) ∧ St σ w' (refA 88 152 5 3 p (layS s at_ data) :: R) := by
 have hdl : 0 < data.length := List.length_pos_iff.2 hd
 have hcd : data.length ≤ cd := (hr _ [_] hs).cap
 refine c_enter (N := 85) Tryz.func90 rfl Tryz.ntmps90 (by simp) ?_
 intro a hf
 refine wp_seq (wp_seq (wp_region_lit ?_))
 refine s_a hf rfl ?_; clear hf a; intro a hf
 refine s_nil (then_n (wp_block ?_))
 refine c_loop (L0 := [(0, _), (1, _), (2, _)]) (fun M w m => ∃ (k : Nat) (P : List Pc), M = [(6, .int .i64 (k : Int))] ∧ data.length - k = m ∧ k ≤ data.length ∧ P ++ cut (at_ + k) (data.drop k) = s.pcs ++ cut at_ data ∧ St σ w (refA 88 152 5 3 p { s with pcs := P } :: R)) (M0 := [(6, .int .i64 0)]) (⟨0, s.pcs, rfl, rfl, Nat.zero_le _, rfl, hs⟩) (hf.sub ⟨rfl, rfl, rfl, rfl, trivial⟩) ?_
 clear hf hs a
 rintro M m a w ⟨k, P, rfl, rfl, hk, hP, hs⟩ hf
 refine wp_seq (wp_seq (wp_region_lit ?_))
 refine s_m hf rfl ?_; clear hf a; intro a hf
 refine s_m hf rfl ?_; clear hf a; intro a hf
 refine s_v hf (x_len Tryz.underlying22 (hf.eval rfl)) ?_; clear hf a; intro a hf
 refine s_v hf (x_bin (hf.eval rfl) (hf.eval rfl) (r_lt _ _ _ _)) ?_; clear hf a; intro a hf
 refine s_nil (then_n ?_)
 refine c_cond hf rfl (fun hi0 => ?_) (fun hi0 => ?_)
 ·simp only [zd1, zd2, zd3, zd4, zd5, zd6, zd7] at hi0
  have hlt : k < data.length := by omega
  obtain ⟨q, hq⟩ : ∃ q, q = secN (at_ + k) (data.length - k) := ⟨_, rfl⟩
  have hq0 : 0 < q := by rw [hq]; exact secN_pos (by omega)
  have hq1 : q ≤ data.length - k := by rw [hq]; exact secN_le _ _
  have hdk : (data.drop k).length = data.length - k := List.length_drop ..
  have hcq : ((data.drop k).take q).length = q := by rw [List.length_take]; omega
  have hP9 : P.length ≤ 1099511700000 := by have h9 := congrArg List.length hP; simp only [List.length_append] at h9; have := cut_len data.length at_ data (Nat.le_refl _); omega
  have hP2 : P ++ [(at_ + k, (data.drop k).take q)] ++ cut (at_ + (k + q)) (data.drop (k + q)) = s.pcs ++ cut at_ data := by rw [← hP, cut_cons (l := data.drop k) (by intro h9; rw [h9] at hdk; simp at hdk; omega), hdk, ← hq, List.drop_drop, Nat.add_assoc, List.append_assoc]; rfl
  obtain ⟨⟨v1, v2, v3, v4, ps⟩, hps, hs⟩ := refA_open hs
  dsimp only at hps hs
  obtain ⟨a1, c1, rfl, hc1⟩ := slB_shape (hs.take .k1)
  obtain ⟨a2, c2, rfl, hc2⟩ := slB_shape (hs.take .k2)
  obtain ⟨a3, c3, rfl⟩ := sl_shape (hs.take .k3)
  obtain ⟨a4, c4, rfl⟩ := sl_shape (hs.take .k5)
  have hpl : ps.length = P.length := by have h9 := congrArg List.length hps; rw [List.length_map] at h9; exact h9
  refine wp_skip (then_n (wp_block (wp_seq (wp_region_lit ?_))))
  refine s_m hf rfl ?_; clear hf a; intro a hf
  refine s_m hf rfl ?_; clear hf a; intro a hf
  refine s_v hf (x_bin (hf.eval rfl) (hf.eval rfl) (r_addi _ (by omega) (by omega))) ?_; clear hf a; intro a hf
  refine s_v hf (x_bin (hf.eval rfl) (hf.eval rfl) (r_quon _ (by omega) (by omega) (by omega))) ?_; clear hf a; intro a hf
  replace hf := hf.now (k := 16) (v' := .int .i64 (((at_ + k) / 512 : Nat) : Int)) rfl (rfl)
  refine s_a hf rfl ?_; clear hf a; intro a hf
  refine s_nil (then_n (wp_seq (wp_region_lit ?_)))
  refine s_m hf rfl ?_; clear hf a; intro a hf
  refine s_v hf (x_bin (hf.eval rfl) (hf.eval rfl) (r_addi _ (by omega) (by omega))) ?_; clear hf a; intro a hf
  refine s_v hf (x_bin (hf.eval rfl) (hf.eval rfl) (r_muli _ (by omega) (by omega))) ?_; clear hf a; intro a hf
  refine s_m hf rfl ?_; clear hf a; intro a hf
  refine s_m hf rfl ?_; clear hf a; intro a hf
  refine s_v hf (x_bin (hf.eval rfl) (hf.eval rfl) (r_addi _ (by omega) (by omega))) ?_; clear hf a; intro a hf
  refine s_v hf (x_bin (hf.eval rfl) (hf.eval rfl) (r_subi _ (by omega) (by omega))) ?_; clear hf a; intro a hf
  refine s_a hf rfl ?_; clear hf a; intro a hf
  refine s_nil (then_n (wp_seq (wp_seq (wp_region_lit ?_))))
  refine s_m hf rfl ?_; clear hf a; intro a hf
  refine s_m hf rfl ?_; clear hf a; intro a hf
  refine s_v hf (x_len Tryz.underlying22 (hf.eval rfl)) ?_; clear hf a; intro a hf
  refine s_m hf rfl ?_; clear hf a; intro a hf
  refine s_v hf (x_bin (hf.eval rfl) (hf.eval rfl) (r_subi _ (by omega) (by omega))) ?_; clear hf a; intro a hf
  refine s_v hf (x_bin (hf.eval rfl) (hf.eval rfl) (r_gt _ _ _ _)) ?_; clear hf a; intro a hf
  refine s_nil (then_n ?_)
  refine c_cond hf rfl (fun hi1 => ?_) (fun hi1 => ?_)
  ·simp only [zd1, zd2, zd3, zd4, zd5, zd6, zd7] at hi1
   refine wp_region_lit ?_
   refine s_m hf rfl ?_; clear hf a; intro a hf
   refine s_v hf (x_len Tryz.underlying22 (hf.eval rfl)) ?_; clear hf a; intro a hf
   refine s_m hf rfl ?_; clear hf a; intro a hf
   refine s_v hf (x_bin (hf.eval rfl) (hf.eval rfl) (r_subi _ (by omega) (by omega))) ?_; clear hf a; intro a hf
   refine s_a hf rfl ?_; clear hf a; intro a hf
   replace hf := hf.now (k := 8) (v' := .int .i64 (q : Int)) rfl (by rw [hq]; unfold secN; congr 1; omega)
   refine s_nil (then_n (wp_seq ?_))
   refine c_draw hs (fun w' => w'.cell? ⟨p, 3, none⟩ = some (.slice a3 ps.length c3) ∧ RdB (hp w') (.slice ad data.length cd) data) [.held, .held, .held, .held, .held, .held, .held, .held, .held, .held, .held, .held, .held, .held, .held, .eff, .held, .eff, .eff, .held, .held, .fin] (by kernel_rfl) (by kernel_rfl) (fun w' _ hs => ⟨hs.cell (k := 3) .k0 rfl, hr _ [_, _, _, _, _, _] hs⟩) ?_
   clear hs; intro w hs hC hw
   refine m_held hf rfl (fun w' _ => x_move (hf.eval rfl) w') ?_; clear hf a; intro a hf
   refine m_held hf rfl (fun w' _ => x_move (hf.eval rfl) w') ?_; clear hf a; intro a hf
   refine m_held hf rfl (fun w' _ => x_nilCheck (hf.eval rfl) w') ?_; clear hf a; intro a hf
   refine m_held hf rfl (fun w' _ => x_fieldAddr fo88_3 (hf.eval rfl) w') ?_; clear hf a; intro a hf
   refine m_held hf rfl (fun w' hc => x_load sc86 (hf.eval rfl) hc.1) ?_; clear hf a; intro a hf
   refine m_held hf rfl (fun w' _ => x_move (hf.eval rfl) w') ?_; clear hf a; intro a hf
   refine m_held hf rfl (fun w' _ => x_move (hf.eval rfl) w') ?_; clear hf a; intro a hf
   refine m_held hf rfl (fun w' _ => x_move (hf.eval rfl) w') ?_; clear hf a; intro a hf
   refine m_held hf rfl (fun w' _ => x_bin (hf.eval rfl) (hf.eval rfl) (r_addi _ (by omega) (by omega)) w') ?_; clear hf a; intro a hf
   replace hf := hf.now (k := 42) (v' := .int .i64 ((at_ + k : Nat) : Int)) rfl (by congr 1)
   refine m_held hf rfl (fun w' _ => x_move (hf.eval rfl) w') ?_; clear hf a; intro a hf
   refine m_held hf rfl (fun w' _ => x_move (hf.eval rfl) w') ?_; clear hf a; intro a hf
   refine m_held hf rfl (fun w' _ => x_move (hf.eval rfl) w') ?_; clear hf a; intro a hf
   refine m_held hf rfl (fun w' _ => x_move (hf.eval rfl) w') ?_; clear hf a; intro a hf
   refine m_held hf rfl (fun w' _ => x_bin (hf.eval rfl) (hf.eval rfl) (r_addi _ (by omega) (by omega)) w') ?_; clear hf a; intro a hf
   refine m_held hf rfl (fun w' _ => x_slice sl22 (hf.eval rfl) (hf.eval rfl) (hf.eval rfl)  (by omega) (by omega) (by omega)  w') ?_; clear hf a; intro a hf
   replace hf := hf.now (k := 48) (v' := .slice (subA ad cd k 1) ((data.drop k).take q).length (cd - k)) rfl (by rw [hcq]; congr 1; omega)
   refine m_eff hf rfl (y_call (hf.eval rfl) (hf.evals rfl) Tryz.call38 ((rclone_spec _ _ _ ((data.drop k).take q) (by have := RdB.sub (i := k) (j := k + q) hC.2 rfl (by omega) (by omega); rw [show k + q - k = q by omega] at this; rw [hcq]; exact this) (by omega)).mono ?_))
   rintro e w1 ⟨e1, fe1, rfl, hj⟩
   replace hs := hs.join hj
   simp only [List.cons_append, List.nil_append] at hs
   refine ⟨_, rfl, ⟨⟨hs.cell (k := 3) .k1 rfl, hr _ [_, _, _, _, _, _, _] hs⟩, ?_⟩⟩; clear hf a; intro a hf
   refine m_held hf rfl (fun w' hc => x_build (v := .agg #[.int .i64 (((at_ + k) / 512 : Nat) : Int), .int .i64 ((at_ + k : Nat) : Int), .slice e1 ((data.drop k).take q).length fe1]) (hf.parts rfl) (fun w => by kernel_rfl) _) ?_; clear hf a; intro a hf
   refine m_eff hf rfl (y_lit (xs := [.tmp 50]) hs sl86 (hf.evals rfl) rfl (by simp [Value.cells]) (by decide) ?_); clear hf hs a; intro b2 w hs; refine ⟨⟨hs.cell (k := 3) .k2 rfl, hr _ [_, _, _, _, _, _, _, _] hs⟩, ?_⟩; intro a hf
   refine m_eff hf rfl (y_append (n := ps.length) (m := 1) (ys := [.int .i64 (((at_ + k) / 512 : Nat) : Int), .int .i64 ((at_ + k : Nat) : Int), .slice e1 ((data.drop k).take q).length fe1]) hs sl86 (hf.eval rfl) (hf.eval rfl) .k5 (hs.rd .k0 fun h hb => rd_rows hb rfl) (by simp [Value.oneCell']) (by omega) (by rw [maxLen_eq]; omega) ?_); clear hf hs a; intro v2 w hs hv; refine ⟨⟨hs.cell (k := 3) .k3 rfl, hr _ [_, _, _, _, _, _, _, _] hs⟩, ?_⟩; intro a hf
   obtain ⟨a8, c8, rfl⟩ := sl_shape hs
   obtain ⟨ps2, hps2⟩ : ∃ ps2, ps2 = ps ++ [((at_ + k, .slice e1 ((data.drop k).take q).length fe1, (data.drop k).take q) : Pt)] := ⟨_, rfl⟩
   have hl2 : ps.length + 1 = ps2.length := by rw [hps2]; simp
   have hx2 : ps.flatMap rpF ++ [.int .i64 (((at_ + k) / 512 : Nat) : Int), .int .i64 ((at_ + k : Nat) : Int), .slice e1 ((data.drop k).take q).length fe1] = ps2.flatMap rpF := by rw [hps2]; simp [rpF]
   rw [hl2, hx2] at hs
   replace hf := hf.now (k := 52) (v' := .slice a8 ps2.length c8) rfl (by rw [← hl2])
   refine m_held hf rfl (fun w' _ => x_nilCheck (hf.eval rfl) w') ?_; clear hf a; intro a hf
   refine m_held hf rfl (fun w' _ => x_fieldAddr fo88_3 (hf.eval rfl) w') ?_; clear hf a; intro a hf
   refine m_fin0 hf rfl (y_store hs sc86 (hf.eval rfl) (hf.eval rfl) rfl (by repeat constructor) (by simp) ?_); clear hf hs a; intro w hs; intro a hf
   replace hs := (((hs.lose .k1).take .k1).take .k5)
   replace hs := datA_push (p := ((at_ + k, .slice e1 ((data.drop k).take q).length fe1, (data.drop k).take q) : Pt)) hs
   rw [← hps2] at hs
   replace hs := St.give (L := _) (St.give (L := _) hs .k4) .k3
   replace hs := refA_close (s := { s with pcs := P ++ [(at_ + k, (data.drop k).take q)] }) (x := ⟨.slice a1 s.now.length c1, .slice a2 s.dur.length c2, .slice a8 ps2.length c8, .slice a4 s.sizes.length c4, ps2⟩) (by rw [hps2, List.map_append, hps]; rfl) hs
   refine then_n (wp_region_lit ?_)
   refine s_m hf rfl ?_; clear hf a; intro a hf
   refine s_m hf rfl ?_; clear hf a; intro a hf
   refine s_v hf (x_bin (hf.eval rfl) (hf.eval rfl) (r_addi _ (by omega) (by omega))) ?_; clear hf a; intro a hf
   replace hf := hf.now (k := 57) (v' := .int .i64 ((k + q : Nat) : Int)) rfl (by push_cast; rfl)
   refine s_a hf rfl ?_; clear hf a; intro a hf
   refine s_nil (blk_n ?_)
   exact ⟨_, _, ⟨k + q, P ++ [(at_ + k, (data.drop k).take q)], rfl, rfl, by omega, hP2, hs⟩, by omega, hf.sub ⟨rfl, rfl, rfl, rfl, trivial⟩⟩
  simp only [zd1, zd2, zd3, zd4, zd5, zd6, zd7] at hi1
  replace hf := hf.now (k := 8) (v' := .int .i64 (q : Int)) rfl (by rw [hq]; unfold secN; congr 1; omega)
  refine wp_skip (then_n (wp_seq ?_))
  refine c_draw hs (fun w' => w'.cell? ⟨p, 3, none⟩ = some (.slice a3 ps.length c3) ∧ RdB (hp w') (.slice ad data.length cd) data) [.held, .held, .held, .held, .held, .held, .held, .held, .held, .held, .held, .held, .held, .held, .held, .eff, .held, .eff, .eff, .held, .held, .fin] (by kernel_rfl) (by kernel_rfl) (fun w' _ hs => ⟨hs.cell (k := 3) .k0 rfl, hr _ [_, _, _, _, _, _] hs⟩) ?_
  clear hs; intro w hs hC hw
  refine m_held hf rfl (fun w' _ => x_move (hf.eval rfl) w') ?_; clear hf a; intro a hf
  refine m_held hf rfl (fun w' _ => x_move (hf.eval rfl) w') ?_; clear hf a; intro a hf
  refine m_held hf rfl (fun w' _ => x_nilCheck (hf.eval rfl) w') ?_; clear hf a; intro a hf
  refine m_held hf rfl (fun w' _ => x_fieldAddr fo88_3 (hf.eval rfl) w') ?_; clear hf a; intro a hf
  refine m_held hf rfl (fun w' hc => x_load sc86 (hf.eval rfl) hc.1) ?_; clear hf a; intro a hf
  refine m_held hf rfl (fun w' _ => x_move (hf.eval rfl) w') ?_; clear hf a; intro a hf
  refine m_held hf rfl (fun w' _ => x_move (hf.eval rfl) w') ?_; clear hf a; intro a hf
  refine m_held hf rfl (fun w' _ => x_move (hf.eval rfl) w') ?_; clear hf a; intro a hf
  refine m_held hf rfl (fun w' _ => x_bin (hf.eval rfl) (hf.eval rfl) (r_addi _ (by omega) (by omega)) w') ?_; clear hf a; intro a hf
  replace hf := hf.now (k := 42) (v' := .int .i64 ((at_ + k : Nat) : Int)) rfl (by congr 1)
  refine m_held hf rfl (fun w' _ => x_move (hf.eval rfl) w') ?_; clear hf a; intro a hf
  refine m_held hf rfl (fun w' _ => x_move (hf.eval rfl) w') ?_; clear hf a; intro a hf
  refine m_held hf rfl (fun w' _ => x_move (hf.eval rfl) w') ?_; clear hf a; intro a hf
  refine m_held hf rfl (fun w' _ => x_move (hf.eval rfl) w') ?_; clear hf a; intro a hf
  refine m_held hf rfl (fun w' _ => x_bin (hf.eval rfl) (hf.eval rfl) (r_addi _ (by omega) (by omega)) w') ?_; clear hf a; intro a hf
  refine m_held hf rfl (fun w' _ => x_slice sl22 (hf.eval rfl) (hf.eval rfl) (hf.eval rfl)  (by omega) (by omega) (by omega)  w') ?_; clear hf a; intro a hf
  replace hf := hf.now (k := 48) (v' := .slice (subA ad cd k 1) ((data.drop k).take q).length (cd - k)) rfl (by rw [hcq]; congr 1; omega)
  refine m_eff hf rfl (y_call (hf.eval rfl) (hf.evals rfl) Tryz.call38 ((rclone_spec _ _ _ ((data.drop k).take q) (by have := RdB.sub (i := k) (j := k + q) hC.2 rfl (by omega) (by omega); rw [show k + q - k = q by omega] at this; rw [hcq]; exact this) (by omega)).mono ?_))
  rintro e w1 ⟨e1, fe1, rfl, hj⟩
  replace hs := hs.join hj
  simp only [List.cons_append, List.nil_append] at hs
  refine ⟨_, rfl, ⟨⟨hs.cell (k := 3) .k1 rfl, hr _ [_, _, _, _, _, _, _] hs⟩, ?_⟩⟩; clear hf a; intro a hf
  refine m_held hf rfl (fun w' hc => x_build (v := .agg #[.int .i64 (((at_ + k) / 512 : Nat) : Int), .int .i64 ((at_ + k : Nat) : Int), .slice e1 ((data.drop k).take q).length fe1]) (hf.parts rfl) (fun w => by kernel_rfl) _) ?_; clear hf a; intro a hf
  refine m_eff hf rfl (y_lit (xs := [.tmp 50]) hs sl86 (hf.evals rfl) rfl (by simp [Value.cells]) (by decide) ?_); clear hf hs a; intro b2 w hs; refine ⟨⟨hs.cell (k := 3) .k2 rfl, hr _ [_, _, _, _, _, _, _, _] hs⟩, ?_⟩; intro a hf
  refine m_eff hf rfl (y_append (n := ps.length) (m := 1) (ys := [.int .i64 (((at_ + k) / 512 : Nat) : Int), .int .i64 ((at_ + k : Nat) : Int), .slice e1 ((data.drop k).take q).length fe1]) hs sl86 (hf.eval rfl) (hf.eval rfl) .k5 (hs.rd .k0 fun h hb => rd_rows hb rfl) (by simp [Value.oneCell']) (by omega) (by rw [maxLen_eq]; omega) ?_); clear hf hs a; intro v2 w hs hv; refine ⟨⟨hs.cell (k := 3) .k3 rfl, hr _ [_, _, _, _, _, _, _, _] hs⟩, ?_⟩; intro a hf
  obtain ⟨a8, c8, rfl⟩ := sl_shape hs
  obtain ⟨ps2, hps2⟩ : ∃ ps2, ps2 = ps ++ [((at_ + k, .slice e1 ((data.drop k).take q).length fe1, (data.drop k).take q) : Pt)] := ⟨_, rfl⟩
  have hl2 : ps.length + 1 = ps2.length := by rw [hps2]; simp
  have hx2 : ps.flatMap rpF ++ [.int .i64 (((at_ + k) / 512 : Nat) : Int), .int .i64 ((at_ + k : Nat) : Int), .slice e1 ((data.drop k).take q).length fe1] = ps2.flatMap rpF := by rw [hps2]; simp [rpF]
  rw [hl2, hx2] at hs
  replace hf := hf.now (k := 52) (v' := .slice a8 ps2.length c8) rfl (by rw [← hl2])
  refine m_held hf rfl (fun w' _ => x_nilCheck (hf.eval rfl) w') ?_; clear hf a; intro a hf
  refine m_held hf rfl (fun w' _ => x_fieldAddr fo88_3 (hf.eval rfl) w') ?_; clear hf a; intro a hf
  refine m_fin0 hf rfl (y_store hs sc86 (hf.eval rfl) (hf.eval rfl) rfl (by repeat constructor) (by simp) ?_); clear hf hs a; intro w hs; intro a hf
  replace hs := (((hs.lose .k1).take .k1).take .k5)
  replace hs := datA_push (p := ((at_ + k, .slice e1 ((data.drop k).take q).length fe1, (data.drop k).take q) : Pt)) hs
  rw [← hps2] at hs
  replace hs := St.give (L := _) (St.give (L := _) hs .k4) .k3
  replace hs := refA_close (s := { s with pcs := P ++ [(at_ + k, (data.drop k).take q)] }) (x := ⟨.slice a1 s.now.length c1, .slice a2 s.dur.length c2, .slice a8 ps2.length c8, .slice a4 s.sizes.length c4, ps2⟩) (by rw [hps2, List.map_append, hps]; rfl) hs
  refine then_n (wp_region_lit ?_)
  refine s_m hf rfl ?_; clear hf a; intro a hf
  refine s_m hf rfl ?_; clear hf a; intro a hf
  refine s_v hf (x_bin (hf.eval rfl) (hf.eval rfl) (r_addi _ (by omega) (by omega))) ?_; clear hf a; intro a hf
  replace hf := hf.now (k := 57) (v' := .int .i64 ((k + q : Nat) : Int)) rfl (by push_cast; rfl)
  refine s_a hf rfl ?_; clear hf a; intro a hf
  refine s_nil (blk_n ?_)
  exact ⟨_, _, ⟨k + q, P ++ [(at_ + k, (data.drop k).take q)], rfl, rfl, by omega, hP2, hs⟩, by omega, hf.sub ⟨rfl, rfl, rfl, rfl, trivial⟩⟩
 simp only [zd1, zd2, zd3, zd4, zd5, zd6, zd7] at hi0
 have hk9 : k = data.length := by omega
 subst hk9
 rw [List.drop_length, cut_nil, List.append_nil] at hP
 subst hP
 refine wp_exit (then_x (then_x (blk_x (then_n (wp_seq (wp_block ?_))))))
 refine c_loop (L0 := [(0, _), (1, _), (2, _), (6, _), (9, _), (10, _), (11, _), (12, _)]) (fun M w m => ∃ (j : Nat), M = [] ∧ (at_ + data.length - (s.now.length + j)) = m ∧ s.now.length + j ≤ max s.now.length (at_ + data.length) ∧ St σ w (refA 88 152 5 3 p { s with now := s.now ++ List.replicate j 0, pcs := s.pcs ++ cut at_ data } :: R)) (M0 := _) (⟨0, rfl, rfl, by omega, by rw [List.replicate_zero, List.append_nil]; exact hs⟩) (hf.sub ⟨rfl, rfl, rfl, rfl, rfl, rfl, rfl, rfl, trivial⟩) ?_
 clear hf hs a
 rintro M m a w ⟨j, rfl, rfl, hj, hs⟩ hf
 obtain ⟨⟨v1, v2, v3, v4, ps⟩, hps, hs⟩ := refA_open hs
 dsimp only at hps hs
 obtain ⟨a1, c1, rfl, hc1⟩ := slB_shape (hs.take .k1)
 obtain ⟨a2, c2, rfl, hc2⟩ := slB_shape (hs.take .k2)
 obtain ⟨a3, c3, rfl⟩ := sl_shape (hs.take .k3)
 obtain ⟨a4, c4, rfl⟩ := sl_shape (hs.take .k5)
 have hNl : (s.now ++ List.replicate j (0 : UInt8)).length = s.now.length + j := by simp
 refine wp_seq (wp_seq (wp_region_lit ?_))
 refine s_m hf rfl ?_; clear hf a; intro a hf
 refine s_v hf (x_nilCheck (hf.eval rfl)) ?_; clear hf a; intro a hf
 refine s_v hf (x_fieldAddr fo88_1 (hf.eval rfl)) ?_; clear hf a; intro a hf
 refine s_r hf (x_load sc22 (hf.eval rfl) (by apply hs.cell <;> repeat constructor)) ?_; clear hf a; intro a hf
 refine s_v hf (x_len Tryz.underlying22 (hf.eval rfl)) ?_; clear hf a; intro a hf
 refine s_m hf rfl ?_; clear hf a; intro a hf
 refine s_m hf rfl ?_; clear hf a; intro a hf
 refine s_v hf (x_len Tryz.underlying22 (hf.eval rfl)) ?_; clear hf a; intro a hf
 refine s_v hf (x_bin (hf.eval rfl) (hf.eval rfl) (r_addi _ (by omega) (by omega))) ?_; clear hf a; intro a hf
 refine s_v hf (x_bin (hf.eval rfl) (hf.eval rfl) (r_lt _ _ _ _)) ?_; clear hf a; intro a hf
 refine s_nil (then_n ?_)
 refine c_cond hf rfl (fun hi2 => ?_) (fun hi2 => ?_)
 ·simp only [zd1, zd2, zd3, zd4, zd5, zd6, zd7] at hi2
  refine wp_skip (then_n (wp_block (wp_region_lit ?_)))
  refine s_m hf rfl ?_; clear hf a; intro a hf
  refine s_m hf rfl ?_; clear hf a; intro a hf
  refine s_v hf (x_nilCheck (hf.eval rfl)) ?_; clear hf a; intro a hf
  refine s_v hf (x_fieldAddr fo88_1 (hf.eval rfl)) ?_; clear hf a; intro a hf
  refine s_r hf (x_load sc22 (hf.eval rfl) (by apply hs.cell <;> repeat constructor)) ?_; clear hf a; intro a hf
  refine s_do hf rfl (y_lit (xs := [.const (.int .u8 0)]) hs sl22 (hf.evals rfl) rfl (by simp [Value.cells]) (by decide) ?_); clear hf hs a; intro b2 w hs a hf
  refine s_do hf rfl (y_appendB (s := [0]) hs sl22 rfl (hf.eval rfl) (hf.eval rfl) .k2 (hs.rdB .k0 fun h hb => rdB_of_bb (T := 5) (l := [0]) hb (by simp) (by simp)) (by simp; omega) ?_); clear hf hs a; intro v2 w hs hv a hf
  rw [List.append_assoc, ← List.replicate_succ'] at hs
  obtain ⟨a9, c9, rfl, hc9⟩ := slB_shape hs
  refine s_v hf (x_nilCheck (hf.eval rfl)) ?_; clear hf a; intro a hf
  refine s_v hf (x_fieldAddr fo88_1 (hf.eval rfl)) ?_; clear hf a; intro a hf
  refine s_do0 hf rfl (y_store hs sc22 (hf.eval rfl) (hf.eval rfl) rfl (by repeat constructor) (by simp) ?_); clear hf hs a; intro w hs a hf
  replace hs := (hs.lose .k1).take .k1
  replace hs := refA_close (s := { s with now := s.now ++ List.replicate (j + 1) 0, pcs := s.pcs ++ cut at_ data }) (x := ⟨.slice a9 (s.now ++ List.replicate (j + 1) 0).length c9, .slice a2 s.dur.length c2, .slice a3 ps.length c3, .slice a4 s.sizes.length c4, ps⟩) hps hs
  refine s_nil (blk_n ?_)
  exact ⟨_, _, ⟨j + 1, rfl, rfl, by omega, hs⟩, by omega, hf.sub ⟨rfl, rfl, rfl, rfl, rfl, rfl, rfl, rfl, trivial⟩⟩
 simp only [zd1, zd2, zd3, zd4, zd5, zd6, zd7] at hi2
 obtain ⟨E, hE⟩ : ∃ E, E = ext s.now (at_ + data.length) := ⟨_, rfl⟩
 have hEl : E.length = max s.now.length (at_ + data.length) := by rw [hE, ext_length]
 have hE2 : s.now ++ List.replicate j (0 : UInt8) = E := by rw [hE, show j = at_ + data.length - s.now.length by omega]; rfl
 rw [hE2] at hs hc1
 obtain ⟨b1, cc, hb1, _⟩ := slB_block (hs.take .k1) (by omega)
 injection hb1 with hb1 _ hb1c
 subst hb1
 subst hb1c
 refine wp_exit (then_x (then_x (blk_x (then_n (wp_region_lit ?_)))))
 refine s_m hf rfl ?_; clear hf a; intro a hf
 refine s_v hf (x_nilCheck (hf.eval rfl)) ?_; clear hf a; intro a hf
 refine s_v hf (x_fieldAddr fo88_1 (hf.eval rfl)) ?_; clear hf a; intro a hf
 refine s_r hf (x_load sc22 (hf.eval rfl) (by apply hs.cell <;> repeat constructor)) ?_; clear hf a; intro a hf
 refine s_m hf rfl ?_; clear hf a; intro a hf
 refine s_v hf (x_slice_lo sl22 (hf.eval rfl) (hf.eval rfl)  (by omega) (by omega) ) ?_; clear hf a; intro a hf
 replace hf := hf.now (k := 82) (v' := .slice (subA (some ⟨b1, 0, none⟩) c1 at_ 1) (E.length - at_) (c1 - at_)) rfl (by first | rfl | (rw [← hE2]; rfl))
 refine s_m hf rfl ?_; clear hf a; intro a hf
 refine s_do hf rfl (y_copyAt (T := 5) (n := E.length) (o := at_) (s := data) hs sl22 (hf.eval rfl) rfl (hf.eval rfl) .k1 (hr _ [_, _, _, _, _, _] hs) (by omega) rfl ?_); clear hf hs a; intro w hs a hf
 rw [show min data.length (E.length - at_) = data.length by omega, List.take_length] at hs
 have hXl : (spl E at_ data).length = E.length := spl_length _ _ _ (by omega)
 rw [← hXl] at hs
 replace hs := refA_close (s := { s with now := spl E at_ data, pcs := s.pcs ++ cut at_ data }) (x := ⟨.slice (some ⟨b1, 0, none⟩) (spl E at_ data).length c1, .slice a2 s.dur.length c2, .slice a3 ps.length c3, .slice a4 s.sizes.length c4, ps⟩) hps (hs.take .k1)
 rw [hE] at hs
 refine s_nil ?_
 refine r_0n hf Tryz.results90 ?_
 exact ⟨rfl, hs⟩
end Go.Proofs.YtehakfbfjpolfaaGreatDoor

namespace Go.Proofs.YtehakfbfjpolfaaGreatDoor
open Go Vw
theorem hole_eq (n : Nat) (data : List UInt8) : List.replicate n (0 : UInt8) ++ data = spl (List.replicate (n + data.length) 0) n (data.take (min data.length data.length)) := by
  unfold spl
  rw [Nat.min_self, List.take_length, List.take_replicate, List.drop_replicate, Nat.min_eq_left (by omega), Nat.sub_self, List.replicate_zero, List.append_nil]
theorem rWrite_spec (σ : Sig) (w : World) (R : List Asrt) (p : Nat) (s : DS) (hs : St σ w (refA 88 152 5 3 p s :: R)) (off : Int) (ad : Option Addr) (cd : Nat) (data : List UInt8) (hr : Rdy σ R (.slice ad data.length cd) data) (hdl : data.length ≤ 140737488351232) (ho : DOk s) (hcl : s.calls ≤ 4611686018427387904) (hpc : s.pcs.length ≤ 1099511600000) (hsl : s.sizes.length ≤ 1099511600000) : Calls Tryz.prog 57 #[.pointer (some ⟨p, 0, none⟩), .int .i64 off, .slice ad data.length cd] w fun e w' => e = .returned (.int .i64 (wrS s off data).1) ∧ St σ w' (refA 88 152 5 3 p (wrS s off data).2 :: R) := by
 have hroom0 := ho.room0
 have hroom1 := ho.room1
 have hnow1 := ho.now
 obtain ⟨⟨v1, v2, v3, v4, ps⟩, hps, hs⟩ := refA_open hs
 dsimp only at hps hs
 obtain ⟨a1, c1, rfl, hc1⟩ := slB_shape (hs.take .k1)
 obtain ⟨a2, c2, rfl, hc2⟩ := slB_shape (hs.take .k2)
 obtain ⟨a3, c3, rfl⟩ := sl_shape (hs.take .k3)
 obtain ⟨a4, c4, rfl⟩ := sl_shape (hs.take .k5)
 refine c_enter (N := 94) Tryz.func57 rfl Tryz.ntmps57 (by simp) ?_
 intro a hf
 refine wp_seq (wp_region_lit ?_)
 refine s_a hf rfl ?_; clear hf a; intro a hf
 refine s_nil (then_n (wp_seq (wp_seq (wp_region_lit ?_))))
 refine s_m hf rfl ?_; clear hf a; intro a hf
 refine s_v hf (x_eqNil Tryz.underlying28 (hf.eval rfl) (hf.eval rfl)) ?_; clear hf a; intro a hf
 replace hf := hf.now (k := 11) (v' := .bool false) rfl rfl
 refine s_nil (then_n ?_)
 refine c_cond_f hf rfl rfl ?_
 refine wp_skip (then_n (wp_seq (wp_seq (wp_region_lit ?_))))
 refine s_m hf rfl ?_; clear hf a; intro a hf
 refine s_v hf (x_nilCheck (hf.eval rfl)) ?_; clear hf a; intro a hf
 refine s_v hf (x_fieldAddr fo88_7 (hf.eval rfl)) ?_; clear hf a; intro a hf
 refine s_r hf (x_load sc4 (hf.eval rfl) (by apply hs.cell <;> repeat constructor)) ?_; clear hf a; intro a hf
 refine s_v hf (x_not (hf.eval rfl)) ?_; clear hf a; intro a hf
 refine s_nil (then_n ?_)
 refine c_cond hf rfl (fun hi1 => ?_) (fun hi1 => ?_)
 ·simp only [Bool.not_not] at hi1
  refine wp_seq (wp_region_lit ?_)
  refine s_a hf rfl ?_; clear hf a; intro a hf
  refine s_nil (then_n ?_)
  refine wp_ret ?_
  refine then_r ?_
  refine r_1 hf Tryz.results57 rfl ?_
  rw [wrS_dead hi1]
  exact ⟨rfl, refA_close (x := ⟨_, _, _, _, ps⟩) hps hs⟩
 simp only [Bool.not_not] at hi1
 refine wp_skip (then_n (wp_seq (wp_seq (wp_region_lit ?_))))
 refine s_m hf rfl ?_; clear hf a; intro a hf
 refine s_v hf (x_bin (hf.eval rfl) (hf.eval rfl) (r_lt _ _ _ _)) ?_; clear hf a; intro a hf
 refine s_nil (then_n ?_)
 refine c_cond hf rfl (fun hi2 => ?_) (fun hi2 => ?_)
 ·simp only [zd1, zd2, zd3, zd4, zd5, zd6, zd7] at hi2
  refine wp_seq (wp_region_lit ?_)
  refine s_a hf rfl ?_; clear hf a; intro a hf
  refine s_nil (then_n ?_)
  refine wp_ret ?_
  refine then_r ?_
  refine r_1 hf Tryz.results57 rfl ?_
  rw [wrS_neg hi1 (by omega)]
  exact ⟨rfl, refA_close (x := ⟨_, _, _, _, ps⟩) hps hs⟩
 simp only [zd1, zd2, zd3, zd4, zd5, zd6, zd7] at hi2
 refine wp_skip (then_n (wp_seq (wp_seq (wp_region_lit ?_))))
 refine s_m hf rfl ?_; clear hf a; intro a hf
 refine s_m hf rfl ?_; clear hf a; intro a hf
 refine s_v hf (x_nilCheck (hf.eval rfl)) ?_; clear hf a; intro a hf
 refine s_v hf (x_fieldAddr fo88_0 (hf.eval rfl)) ?_; clear hf a; intro a hf
 refine s_r hf (x_load sc3 (hf.eval rfl) (by apply hs.cell <;> repeat constructor)) ?_; clear hf a; intro a hf
 refine s_v hf (x_bin (hf.eval rfl) (hf.eval rfl) (r_gt _ _ _ _)) ?_; clear hf a; intro a hf
 refine s_m hf rfl ?_; clear hf a; intro a hf
 refine s_bool hf (k := 25) rfl (fun hg7_6 hf' => ?_) (fun hg7_6 hf' => ?_)
 ·clear hf
  have hf := hf'
  clear hf'
  simp only [decide_eq_true_eq, decide_eq_false_iff_not] at hg7_6
  refine s_pass hf rfl rfl ?_; clear hf a; intro a hf
  refine s_pass hf rfl rfl ?_; clear hf a; intro a hf
  refine s_pass hf rfl rfl ?_; clear hf a; intro a hf
  refine s_pass hf rfl rfl ?_; clear hf a; intro a hf
  refine s_pass hf rfl rfl ?_; clear hf a; intro a hf
  refine s_pass hf rfl rfl ?_; clear hf a; intro a hf
  refine s_pass hf rfl rfl ?_; clear hf a; intro a hf
  refine s_pass hf rfl rfl ?_; clear hf a; intro a hf
  refine s_pass hf rfl rfl ?_; clear hf a; intro a hf
  refine s_v hf (x_pick_t (hf.eval rfl) (hf.eval rfl)) ?_; clear hf a; intro a hf
  refine s_nil (then_n ?_)
  refine c_cond_t hf rfl rfl ?_
  refine wp_seq (wp_region_lit ?_)
  refine s_a hf rfl ?_; clear hf a; intro a hf
  refine s_nil (then_n ?_)
  refine wp_ret ?_
  refine then_r ?_
  refine r_1 hf Tryz.results57 rfl ?_
  rw [wrS_big hi1 (by omega) (by omega)]
  exact ⟨rfl, refA_close (x := ⟨_, _, _, _, ps⟩) hps hs⟩
 clear hf
 have hf := hf'
 clear hf'
 simp only [decide_eq_true_eq, decide_eq_false_iff_not] at hg7_6
 refine s_do hf (wanted_of hf rfl rfl rfl) (.value (x_move (hf.eval rfl) _) ?_); clear hf a; intro a hf
 refine s_do hf (wanted_of hf rfl rfl rfl) (.value (x_len Tryz.underlying22 (hf.eval rfl) _) ?_); clear hf a; intro a hf
 refine s_do hf (wanted_of hf rfl rfl rfl) (.value (x_move (hf.eval rfl) _) ?_); clear hf a; intro a hf
 refine s_do hf (wanted_of hf rfl rfl rfl) (.value (x_nilCheck (hf.eval rfl) _) ?_); clear hf a; intro a hf
 refine s_do hf (wanted_of hf rfl rfl rfl) (.value (x_fieldAddr fo88_0 (hf.eval rfl) _) ?_); clear hf a; intro a hf
 refine s_do hf (wanted_of hf rfl rfl rfl) (.value (x_load sc3 (hf.eval rfl) (by apply hs.cell <;> repeat constructor)) ?_); clear hf a; intro a hf
 refine s_do hf (wanted_of hf rfl rfl rfl) (.value (x_move (hf.eval rfl) _) ?_); clear hf a; intro a hf
 refine s_do hf (wanted_of hf rfl rfl rfl) (.value (x_bin (hf.eval rfl) (hf.eval rfl) (r_subi _ (by omega) (by omega)) _) ?_); clear hf a; intro a hf
 refine s_do hf (wanted_of hf rfl rfl rfl) (.value (x_bin (hf.eval rfl) (hf.eval rfl) (r_gt _ _ _ _) _) ?_); clear hf a; intro a hf
 refine s_v hf (x_pick_f (hf.eval rfl) (hf.eval rfl)) ?_; clear hf a; intro a hf
 refine s_nil (then_n ?_)
 refine c_cond hf rfl (fun hi3 => ?_) (fun hi3 => ?_)
 ·simp only [zd1, zd2, zd3, zd4, zd5, zd6, zd7] at hi3
  refine wp_seq (wp_region_lit ?_)
  refine s_a hf rfl ?_; clear hf a; intro a hf
  refine s_nil (then_n ?_)
  refine wp_ret ?_
  refine then_r ?_
  refine r_1 hf Tryz.results57 rfl ?_
  rw [wrS_big hi1 (by omega) (by omega)]
  exact ⟨rfl, refA_close (x := ⟨_, _, _, _, ps⟩) hps hs⟩
 simp only [zd1, zd2, zd3, zd4, zd5, zd6, zd7] at hi3
 refine wp_skip (then_n (wp_seq (wp_region_lit ?_)))
 refine s_m hf rfl ?_; clear hf a; intro a hf
 replace hs := refA_close (s := s) (x := ⟨_, _, _, _, ps⟩) hps hs
 refine s_do hf rfl (y_call (hf.eval rfl) (hf.evals rfl) Tryz.call40 ((carried_spec _ _ _ p s hs ho.fuse.2 ho.fuse.1 hcl).mono ?_))
 rintro e w1 ⟨rfl, hs⟩
 obtain ⟨t, ht⟩ : ∃ t, t = spent s := ⟨_, rfl⟩
 rw [← ht] at hs
 obtain ⟨htn, htr, htd, htp, hts⟩ := spent_now s
 rw [← ht] at htn htr htd htp hts
 have hto := spent_ok ho
 rw [← ht] at hto
 have htn2 : t.now.length = s.now.length := by rw [htn]
 have htp2 : t.pcs.length = s.pcs.length := by rw [htp]
 have hts2 : t.sizes.length = s.sizes.length := by rw [hts]
 refine ⟨_, rfl, ?_⟩; clear hf a; intro a hf
 refine s_a hf rfl ?_; clear hf a; intro a hf
 refine s_nil (then_n (wp_seq (wp_seq (wp_region_lit ?_))))
 refine s_m hf rfl ?_; clear hf a; intro a hf
 refine s_v hf (x_not (hf.eval rfl)) ?_; clear hf a; intro a hf
 refine s_nil (then_n ?_)
 refine c_cond hf rfl (fun hi4 => ?_) (fun hi4 => ?_)
 ·simp only [Bool.not_eq_true', Bool.not_eq_false', decide_eq_true_eq, decide_eq_false_iff_not, ne_eq, Decidable.not_not] at hi4
  refine wp_seq (wp_region_lit ?_)
  refine s_a hf rfl ?_; clear hf a; intro a hf
  refine s_nil (then_n ?_)
  refine wp_ret ?_
  refine then_r ?_
  refine r_1 hf Tryz.results57 rfl ?_
  rw [wrS_fuse hi1 (by omega) (by omega) hi4, ← ht]
  exact ⟨rfl, hs⟩
 simp only [Bool.not_eq_true', Bool.not_eq_false', decide_eq_true_eq, decide_eq_false_iff_not, ne_eq, Decidable.not_not] at hi4
 refine wp_skip (then_n (wp_seq (wp_seq (wp_region_lit ?_))))
 refine s_m hf rfl ?_; clear hf a; intro a hf
 refine s_v hf (x_len Tryz.underlying22 (hf.eval rfl)) ?_; clear hf a; intro a hf
 refine s_v hf (x_bin (hf.eval rfl) (hf.eval rfl) (r_eq _ _ _ _)) ?_; clear hf a; intro a hf
 refine s_nil (then_n ?_)
 refine c_cond hf rfl (fun hi5 => ?_) (fun hi5 => ?_)
 ·simp only [zd1, zd2, zd3, zd4, zd5, zd6, zd7] at hi5
  refine wp_seq (wp_region_lit ?_)
  refine s_a hf rfl ?_; clear hf a; intro a hf
  refine s_nil (then_n ?_)
  refine wp_ret ?_
  refine then_r ?_
  refine r_1 hf Tryz.results57 rfl ?_
  rw [wrS_none hi1 (by omega) (by omega) hi4 (List.eq_nil_of_length_eq_zero (by omega)), ← ht]
  exact ⟨rfl, hs⟩
 simp only [zd1, zd2, zd3, zd4, zd5, zd6, zd7] at hi5
 have hd : data ≠ [] := by intro h9; subst h9; simp at hi5
 obtain ⟨⟨v1, v2, v3, v4, ps⟩, hps, hs⟩ := refA_open hs
 dsimp only at hps hs
 obtain ⟨a1, c1, rfl, hc1⟩ := slB_shape (hs.take .k1)
 obtain ⟨a2, c2, rfl, hc2⟩ := slB_shape (hs.take .k2)
 obtain ⟨a3, c3, rfl⟩ := sl_shape (hs.take .k3)
 obtain ⟨a4, c4, rfl⟩ := sl_shape (hs.take .k5)
 refine wp_skip (then_n (wp_seq (wp_region_lit ?_)))
 refine s_m hf rfl ?_; clear hf a; intro a hf
 refine s_v hf (x_nilCheck (hf.eval rfl)) ?_; clear hf a; intro a hf
 refine s_v hf (x_fieldAddr fo88_1 (hf.eval rfl)) ?_; clear hf a; intro a hf
 refine s_r hf (x_load sc22 (hf.eval rfl) (by apply hs.cell <;> repeat constructor)) ?_; clear hf a; intro a hf
 refine s_v hf (x_len Tryz.underlying22 (hf.eval rfl)) ?_; clear hf a; intro a hf
 refine s_a hf rfl ?_; clear hf a; intro a hf
 refine s_nil (then_n (wp_seq (wp_seq (wp_region_lit ?_))))
 refine s_m hf rfl ?_; clear hf a; intro a hf
 refine s_m hf rfl ?_; clear hf a; intro a hf
 refine s_v hf (x_bin (hf.eval rfl) (hf.eval rfl) (r_le _ _ _ _)) ?_; clear hf a; intro a hf
 refine s_nil (then_n ?_)
 refine c_cond hf rfl (fun hi6 => ?_) (fun hi6 => ?_)
 ·simp only [zd1, zd2, zd3, zd4, zd5, zd6, zd7] at hi6
  refine wp_region_lit ?_
  refine s_m hf rfl ?_; clear hf a; intro a hf
  refine s_m hf rfl ?_; clear hf a; intro a hf
  replace hf := hf.now (k := 52) (v' := .int .i64 (off.toNat : Int)) rfl (by congr 1; omega)
  refine s_m hf rfl ?_; clear hf a; intro a hf
  replace hs := refA_close (s := t) (x := ⟨_, _, _, _, ps⟩) hps hs
  refine s_do hf rfl (y_call (hf.eval rfl) (hf.evals rfl) Tryz.call90 ((rlay_spec σ _ _ p t hs off.toNat ad cd data hr hd (by omega) (by omega) (by omega) (by omega)).mono ?_))
  rintro e w1 ⟨rfl, hs⟩
  rw [← layW_in (by omega)] at hs
  obtain ⟨u, hu⟩ : ∃ u, u = layW t off.toNat data := ⟨_, rfl⟩
  rw [← hu] at hs
  have hul : u.now.length = max t.now.length (off.toNat + data.length) := by rw [hu, layW_len]
  have husz : u.sizes = t.sizes := by rw [hu]; unfold layW; split <;> rfl
  have husz2 : u.sizes.length = t.sizes.length := by rw [husz]
  obtain ⟨⟨v1, v2, v3, v4, ps⟩, hps, hs⟩ := refA_open hs
  dsimp only at hps hs
  obtain ⟨a1, c1, rfl, hc1⟩ := slB_shape (hs.take .k1)
  obtain ⟨a2, c2, rfl, hc2⟩ := slB_shape (hs.take .k2)
  obtain ⟨a3, c3, rfl⟩ := sl_shape (hs.take .k3)
  obtain ⟨a4, c4, rfl⟩ := sl_shape (hs.take .k5)
  refine ⟨_, rfl, ?_⟩; clear hf a; intro a hf
  refine s_nil (then_n (wp_seq (wp_seq (wp_region_lit ?_))))
  refine s_m hf rfl ?_; clear hf a; intro a hf
  refine s_v hf (x_nilCheck (hf.eval rfl)) ?_; clear hf a; intro a hf
  refine s_v hf (x_fieldAddr fo88_1 (hf.eval rfl)) ?_; clear hf a; intro a hf
  refine s_r hf (x_load sc22 (hf.eval rfl) (by apply hs.cell <;> repeat constructor)) ?_; clear hf a; intro a hf
  refine s_v hf (x_len Tryz.underlying22 (hf.eval rfl)) ?_; clear hf a; intro a hf
  refine s_m hf rfl ?_; clear hf a; intro a hf
  refine s_v hf (x_bin (hf.eval rfl) (hf.eval rfl) (r_ne _ _ _ _)) ?_; clear hf a; intro a hf
  refine s_nil (then_n ?_)
  refine c_cond hf rfl (fun hi7 => ?_) (fun hi7 => ?_)
  ·simp only [zd1, zd2, zd3, zd4, zd5, zd6, zd7] at hi7
   refine c_draw hs (fun w' => w'.cell? ⟨p, 4, none⟩ = some (.slice a4 u.sizes.length c4)) [.held, .held, .held, .held, .held, .held, .held, .held, .read, .held, .eff, .eff, .held, .held, .fin] (by kernel_rfl) (by kernel_rfl) (fun w' _ hs => hs.cell (k := 4) .k0 rfl) ?_
   clear hs; intro w hs hC hw
   refine m_held hf rfl (fun w' _ => x_move (hf.eval rfl) w') ?_; clear hf a; intro a hf
   refine m_held hf rfl (fun w' _ => x_move (hf.eval rfl) w') ?_; clear hf a; intro a hf
   refine m_held hf rfl (fun w' _ => x_nilCheck (hf.eval rfl) w') ?_; clear hf a; intro a hf
   refine m_held hf rfl (fun w' _ => x_fieldAddr fo88_4 (hf.eval rfl) w') ?_; clear hf a; intro a hf
   refine m_held hf rfl (fun w' hc => x_load sc62 (hf.eval rfl) hc) ?_; clear hf a; intro a hf
   refine m_held hf rfl (fun w' _ => x_move (hf.eval rfl) w') ?_; clear hf a; intro a hf
   refine m_held hf rfl (fun w' _ => x_nilCheck (hf.eval rfl) w') ?_; clear hf a; intro a hf
   refine m_held hf rfl (fun w' _ => x_fieldAddr fo88_1 (hf.eval rfl) w') ?_; clear hf a; intro a hf
   refine m_read hf rfl (x_load sc22 (hf.eval rfl) (by apply hs.cell <;> repeat constructor)) ?_; clear hf a; intro a hf
   refine m_held hf rfl (fun w' _ => x_len Tryz.underlying22 (hf.eval rfl) w') ?_; clear hf a; intro a hf
   refine m_eff hf rfl (y_lit (xs := [.tmp 89]) hs sl62 (hf.evals rfl) rfl (by simp [Value.cells]) (by decide) ?_); clear hf hs a; intro b2 w hs; refine ⟨hs.cell (k := 4) .k1 rfl, ?_⟩; intro a hf
   refine m_eff hf rfl (y_append (n := u.sizes.length) (m := 1) (ys := [.int .i64 (u.now.length : Int)]) hs sl62 (hf.eval rfl) (hf.eval rfl) .k6 (hs.rd .k0 fun h hb => rd_rows hb rfl) (by simp [Value.oneCell']) (by omega) (by rw [maxLen_eq]; omega) ?_); clear hf hs a; intro v2 w hs hv; refine ⟨hs.cell (k := 4) .k2 rfl, ?_⟩; intro a hf
   rw [← szC_append, show u.sizes.length + 1 = (u.sizes ++ [u.now.length]).length by simp] at hs
   obtain ⟨a7, c7, rfl⟩ := sl_shape hs
   refine m_held hf rfl (fun w' _ => x_nilCheck (hf.eval rfl) w') ?_; clear hf a; intro a hf
   refine m_held hf rfl (fun w' _ => x_fieldAddr fo88_4 (hf.eval rfl) w') ?_; clear hf a; intro a hf
   refine m_fin0 hf rfl (y_store hs sc62 (hf.eval rfl) (hf.eval rfl) rfl (by repeat constructor) (by simp) ?_); clear hf hs a; intro w hs; intro a hf
   replace hs := St.give (L := _) (hs.lose .k1) .k5
   refine then_n (wp_seq (wp_region_lit ?_))
   refine s_a hf rfl ?_; clear hf a; intro a hf
   refine s_nil (then_n ?_)
   refine wp_ret ?_
   refine r_1 hf Tryz.results57 rfl ?_
   rw [wrS_some hi1 (by omega) (by omega) hi4 hd, ← ht, ← hu]
   first | (rw [sized_eq (by omega)]; exact ⟨rfl, refA_close (x := ⟨_, _, _, _, ps⟩) hps hs⟩) | (rw [sized_ne (by omega)]; exact ⟨rfl, refA_close (x := ⟨.slice a1 u.now.length c1, .slice a2 u.dur.length c2, .slice a3 ps.length c3, .slice a7 (u.sizes ++ [u.now.length]).length c7, ps⟩) hps hs⟩)
  simp only [zd1, zd2, zd3, zd4, zd5, zd6, zd7] at hi7
  refine wp_skip (then_n (wp_seq (wp_region_lit ?_)))
  refine s_a hf rfl ?_; clear hf a; intro a hf
  refine s_nil (then_n ?_)
  refine wp_ret ?_
  refine r_1 hf Tryz.results57 rfl ?_
  rw [wrS_some hi1 (by omega) (by omega) hi4 hd, ← ht, ← hu]
  first | (rw [sized_eq (by omega)]; exact ⟨rfl, refA_close (x := ⟨_, _, _, _, ps⟩) hps hs⟩) | (rw [sized_ne (by omega)]; exact ⟨rfl, refA_close (x := ⟨.slice a1 u.now.length c1, .slice a2 u.dur.length c2, .slice a3 ps.length c3, .slice a7 (u.sizes ++ [u.now.length]).length c7, ps⟩) hps hs⟩)
 simp only [zd1, zd2, zd3, zd4, zd5, zd6, zd7] at hi6
 refine wp_seq (wp_region_lit ?_)
 refine s_m hf rfl ?_; clear hf a; intro a hf
 refine s_m hf rfl ?_; clear hf a; intro a hf
 refine s_v hf (x_bin (hf.eval rfl) (hf.eval rfl) (r_subi _ (by omega) (by omega))) ?_; clear hf a; intro a hf
 refine s_m hf rfl ?_; clear hf a; intro a hf
 refine s_v hf (x_len Tryz.underlying22 (hf.eval rfl)) ?_; clear hf a; intro a hf
 refine s_v hf (x_bin (hf.eval rfl) (hf.eval rfl) (r_addi _ (by omega) (by omega))) ?_; clear hf a; intro a hf
 refine s_do hf rfl (y_makeB (m := off.toNat - t.now.length + data.length) (c := off.toNat - t.now.length + data.length) hs sl22 (hf.eval rfl) (hf.eval rfl) (by omega) (by omega) (Nat.le_refl _) (by omega) ?_); clear hf hs a; intro b w hs a hf
 refine s_a hf rfl ?_; clear hf a; intro a hf
 refine s_nil (then_n (wp_seq (wp_region_lit ?_)))
 refine s_m hf rfl ?_; clear hf a; intro a hf
 refine s_m hf rfl ?_; clear hf a; intro a hf
 refine s_m hf rfl ?_; clear hf a; intro a hf
 refine s_v hf (x_bin (hf.eval rfl) (hf.eval rfl) (r_subi _ (by omega) (by omega))) ?_; clear hf a; intro a hf
 refine s_v hf (x_slice_lo sl22 (hf.eval rfl) (hf.eval rfl)  (by omega) (by omega) ) ?_; clear hf a; intro a hf
 replace hf := hf.now (k := 66) (v' := .slice (subA (some ⟨b, 0, none⟩) (off.toNat - t.now.length + data.length) (off.toNat - t.now.length) 1) data.length data.length) rfl (by rw [show (off - (t.now.length : Int)).toNat = off.toNat - t.now.length by omega]; congr 1; omega; omega)
 refine s_m hf rfl ?_; clear hf a; intro a hf
 rw [subA_at (by have := List.length_pos_iff.2 hd; omega)] at hf
 refine s_do hf rfl (y_copyB (o := off.toNat - t.now.length) (cur' := (List.replicate (off.toNat - t.now.length) (0 : UInt8)) ++ data) hs sl22 (hf.eval rfl) (hf.eval rfl) (fun _ => rfl) (hr _ [_, _, _, _, _, _, _] hs) rfl .k0 (hole_eq _ _) (by simp) ?_); clear hf hs a; intro w hs a hf
 replace hs := hs.ofBb (n := ((List.replicate (off.toNat - t.now.length) (0 : UInt8)) ++ data).length) rfl (by simp; omega)
 refine s_nil (then_n (wp_region_lit ?_))
 refine s_m hf rfl ?_; clear hf a; intro a hf
 refine s_m hf rfl ?_; clear hf a; intro a hf
 refine s_m hf rfl ?_; clear hf a; intro a hf
 replace hf := hf.now (k := 71) (v' := .slice (some ⟨b, 0, none⟩) ((List.replicate (off.toNat - t.now.length) (0 : UInt8)) ++ data).length ((List.replicate (off.toNat - t.now.length) (0 : UInt8)) ++ data).length) rfl (by simp)
 replace hs := St.give (L := _) hs .k6
 replace hs := refA_close (s := t) (x := ⟨_, _, _, _, ps⟩) hps hs
 refine s_do hf rfl (y_call (hf.eval rfl) (hf.evals rfl) Tryz.call90 ((rlay_spec σ _ _ p t hs t.now.length _ _ ((List.replicate (off.toNat - t.now.length) (0 : UInt8)) ++ data) (Rdy.own .k0) (by simp [hd]) (Nat.le_refl _) (by simp; omega) (by omega) (by omega)).mono ?_))
 rintro e w1 ⟨rfl, hs⟩
 replace hs := hs.lose .k1
 rw [← layW_hole (by omega)] at hs
 obtain ⟨u, hu⟩ : ∃ u, u = layW t off.toNat data := ⟨_, rfl⟩
 rw [← hu] at hs
 have hul : u.now.length = max t.now.length (off.toNat + data.length) := by rw [hu, layW_len]
 have husz : u.sizes = t.sizes := by rw [hu]; unfold layW; split <;> rfl
 have husz2 : u.sizes.length = t.sizes.length := by rw [husz]
 obtain ⟨⟨v1, v2, v3, v4, ps⟩, hps, hs⟩ := refA_open hs
 dsimp only at hps hs
 obtain ⟨a1, c1, rfl, hc1⟩ := slB_shape (hs.take .k1)
 obtain ⟨a2, c2, rfl, hc2⟩ := slB_shape (hs.take .k2)
 obtain ⟨a3, c3, rfl⟩ := sl_shape (hs.take .k3)
 obtain ⟨a4, c4, rfl⟩ := sl_shape (hs.take .k5)
 refine ⟨_, rfl, ?_⟩; clear hf a; intro a hf
 refine s_nil (then_n (wp_seq (wp_seq (wp_region_lit ?_))))
 refine s_m hf rfl ?_; clear hf a; intro a hf
 refine s_v hf (x_nilCheck (hf.eval rfl)) ?_; clear hf a; intro a hf
 refine s_v hf (x_fieldAddr fo88_1 (hf.eval rfl)) ?_; clear hf a; intro a hf
 refine s_r hf (x_load sc22 (hf.eval rfl) (by apply hs.cell <;> repeat constructor)) ?_; clear hf a; intro a hf
 refine s_v hf (x_len Tryz.underlying22 (hf.eval rfl)) ?_; clear hf a; intro a hf
 refine s_m hf rfl ?_; clear hf a; intro a hf
 refine s_v hf (x_bin (hf.eval rfl) (hf.eval rfl) (r_ne _ _ _ _)) ?_; clear hf a; intro a hf
 refine s_nil (then_n ?_)
 refine c_cond hf rfl (fun hi7 => ?_) (fun hi7 => ?_)
 ·simp only [zd1, zd2, zd3, zd4, zd5, zd6, zd7] at hi7
  refine c_draw hs (fun w' => w'.cell? ⟨p, 4, none⟩ = some (.slice a4 u.sizes.length c4)) [.held, .held, .held, .held, .held, .held, .held, .held, .read, .held, .eff, .eff, .held, .held, .fin] (by kernel_rfl) (by kernel_rfl) (fun w' _ hs => hs.cell (k := 4) .k0 rfl) ?_
  clear hs; intro w hs hC hw
  refine m_held hf rfl (fun w' _ => x_move (hf.eval rfl) w') ?_; clear hf a; intro a hf
  refine m_held hf rfl (fun w' _ => x_move (hf.eval rfl) w') ?_; clear hf a; intro a hf
  refine m_held hf rfl (fun w' _ => x_nilCheck (hf.eval rfl) w') ?_; clear hf a; intro a hf
  refine m_held hf rfl (fun w' _ => x_fieldAddr fo88_4 (hf.eval rfl) w') ?_; clear hf a; intro a hf
  refine m_held hf rfl (fun w' hc => x_load sc62 (hf.eval rfl) hc) ?_; clear hf a; intro a hf
  refine m_held hf rfl (fun w' _ => x_move (hf.eval rfl) w') ?_; clear hf a; intro a hf
  refine m_held hf rfl (fun w' _ => x_nilCheck (hf.eval rfl) w') ?_; clear hf a; intro a hf
  refine m_held hf rfl (fun w' _ => x_fieldAddr fo88_1 (hf.eval rfl) w') ?_; clear hf a; intro a hf
  refine m_read hf rfl (x_load sc22 (hf.eval rfl) (by apply hs.cell <;> repeat constructor)) ?_; clear hf a; intro a hf
  refine m_held hf rfl (fun w' _ => x_len Tryz.underlying22 (hf.eval rfl) w') ?_; clear hf a; intro a hf
  refine m_eff hf rfl (y_lit (xs := [.tmp 89]) hs sl62 (hf.evals rfl) rfl (by simp [Value.cells]) (by decide) ?_); clear hf hs a; intro b2 w hs; refine ⟨hs.cell (k := 4) .k1 rfl, ?_⟩; intro a hf
  refine m_eff hf rfl (y_append (n := u.sizes.length) (m := 1) (ys := [.int .i64 (u.now.length : Int)]) hs sl62 (hf.eval rfl) (hf.eval rfl) .k6 (hs.rd .k0 fun h hb => rd_rows hb rfl) (by simp [Value.oneCell']) (by omega) (by rw [maxLen_eq]; omega) ?_); clear hf hs a; intro v2 w hs hv; refine ⟨hs.cell (k := 4) .k2 rfl, ?_⟩; intro a hf
  rw [← szC_append, show u.sizes.length + 1 = (u.sizes ++ [u.now.length]).length by simp] at hs
  obtain ⟨a7, c7, rfl⟩ := sl_shape hs
  refine m_held hf rfl (fun w' _ => x_nilCheck (hf.eval rfl) w') ?_; clear hf a; intro a hf
  refine m_held hf rfl (fun w' _ => x_fieldAddr fo88_4 (hf.eval rfl) w') ?_; clear hf a; intro a hf
  refine m_fin0 hf rfl (y_store hs sc62 (hf.eval rfl) (hf.eval rfl) rfl (by repeat constructor) (by simp) ?_); clear hf hs a; intro w hs; intro a hf
  replace hs := St.give (L := _) (hs.lose .k1) .k5
  refine then_n (wp_seq (wp_region_lit ?_))
  refine s_a hf rfl ?_; clear hf a; intro a hf
  refine s_nil (then_n ?_)
  refine wp_ret ?_
  refine r_1 hf Tryz.results57 rfl ?_
  rw [wrS_some hi1 (by omega) (by omega) hi4 hd, ← ht, ← hu]
  first | (rw [sized_eq (by omega)]; exact ⟨rfl, refA_close (x := ⟨_, _, _, _, ps⟩) hps hs⟩) | (rw [sized_ne (by omega)]; exact ⟨rfl, refA_close (x := ⟨.slice a1 u.now.length c1, .slice a2 u.dur.length c2, .slice a3 ps.length c3, .slice a7 (u.sizes ++ [u.now.length]).length c7, ps⟩) hps hs⟩)
 simp only [zd1, zd2, zd3, zd4, zd5, zd6, zd7] at hi7
 refine wp_skip (then_n (wp_seq (wp_region_lit ?_)))
 refine s_a hf rfl ?_; clear hf a; intro a hf
 refine s_nil (then_n ?_)
 refine wp_ret ?_
 refine r_1 hf Tryz.results57 rfl ?_
 rw [wrS_some hi1 (by omega) (by omega) hi4 hd, ← ht, ← hu]
 first | (rw [sized_eq (by omega)]; exact ⟨rfl, refA_close (x := ⟨_, _, _, _, ps⟩) hps hs⟩) | (rw [sized_ne (by omega)]; exact ⟨rfl, refA_close (x := ⟨.slice a1 u.now.length c1, .slice a2 u.dur.length c2, .slice a3 ps.length c3, .slice a7 (u.sizes ++ [u.now.length]).length c7, ps⟩) hps hs⟩)
theorem rTrunc_spec (σ : Sig) (w : World) (R : List Asrt) (p : Nat) (s : DS) (hs : St σ w (refA 88 152 5 3 p s :: R)) (n : Int) (ho : DOk s) (hcl : s.calls ≤ 4611686018427387904) (hpc : s.pcs.length ≤ 1099511600000) (hsl : s.sizes.length ≤ 1099511600000) : Calls Tryz.prog 91 #[.pointer (some ⟨p, 0, none⟩), .int .i64 n] w fun e w' => e = .returned (.int .i64 (trS s n).1) ∧ St σ w' (refA 88 152 5 3 p (trS s n).2 :: R) := by
 have hroom0 := ho.room0
 have hroom1 := ho.room1
 have hnow1 := ho.now
 obtain ⟨⟨v1, v2, v3, v4, ps⟩, hps, hs⟩ := refA_open hs
 dsimp only at hps hs
 obtain ⟨a1, c1, rfl, hc1⟩ := slB_shape (hs.take .k1)
 obtain ⟨a2, c2, rfl, hc2⟩ := slB_shape (hs.take .k2)
 obtain ⟨a3, c3, rfl⟩ := sl_shape (hs.take .k3)
 obtain ⟨a4, c4, rfl⟩ := sl_shape (hs.take .k5)
 refine c_enter (N := 74) Tryz.func91 rfl Tryz.ntmps91 (by simp) ?_
 intro a hf
 refine wp_seq (wp_region_lit ?_)
 refine s_a hf rfl ?_; clear hf a; intro a hf
 refine s_nil (then_n (wp_seq (wp_seq (wp_region_lit ?_))))
 refine s_m hf rfl ?_; clear hf a; intro a hf
 refine s_v hf (x_eqNil Tryz.underlying28 (hf.eval rfl) (hf.eval rfl)) ?_; clear hf a; intro a hf
 replace hf := hf.now (k := 7) (v' := .bool false) rfl rfl
 refine s_nil (then_n ?_)
 refine c_cond_f hf rfl rfl ?_
 refine wp_skip (then_n (wp_seq (wp_seq (wp_region_lit ?_))))
 refine s_m hf rfl ?_; clear hf a; intro a hf
 refine s_v hf (x_nilCheck (hf.eval rfl)) ?_; clear hf a; intro a hf
 refine s_v hf (x_fieldAddr fo88_7 (hf.eval rfl)) ?_; clear hf a; intro a hf
 refine s_r hf (x_load sc4 (hf.eval rfl) (by apply hs.cell <;> repeat constructor)) ?_; clear hf a; intro a hf
 refine s_v hf (x_not (hf.eval rfl)) ?_; clear hf a; intro a hf
 refine s_nil (then_n ?_)
 refine c_cond hf rfl (fun hi1 => ?_) (fun hi1 => ?_)
 ·simp only [Bool.not_not] at hi1
  refine wp_seq (wp_region_lit ?_)
  refine s_a hf rfl ?_; clear hf a; intro a hf
  refine s_nil (then_n ?_)
  refine wp_ret ?_
  refine then_r ?_
  refine r_1 hf Tryz.results91 rfl ?_
  rw [trS_dead hi1]
  exact ⟨rfl, refA_close (x := ⟨_, _, _, _, ps⟩) hps hs⟩
 simp only [Bool.not_not] at hi1
 refine wp_skip (then_n (wp_seq (wp_seq (wp_region_lit ?_))))
 refine s_m hf rfl ?_; clear hf a; intro a hf
 refine s_v hf (x_bin (hf.eval rfl) (hf.eval rfl) (r_lt _ _ _ _)) ?_; clear hf a; intro a hf
 refine s_nil (then_n ?_)
 refine c_cond hf rfl (fun hi2 => ?_) (fun hi2 => ?_)
 ·simp only [zd1, zd2, zd3, zd4, zd5, zd6, zd7] at hi2
  refine wp_seq (wp_region_lit ?_)
  refine s_a hf rfl ?_; clear hf a; intro a hf
  refine s_nil (then_n ?_)
  refine wp_ret ?_
  refine then_r ?_
  refine r_1 hf Tryz.results91 rfl ?_
  rw [trS_neg hi1 (by omega)]
  exact ⟨rfl, refA_close (x := ⟨_, _, _, _, ps⟩) hps hs⟩
 simp only [zd1, zd2, zd3, zd4, zd5, zd6, zd7] at hi2
 refine wp_skip (then_n (wp_seq (wp_seq (wp_region_lit ?_))))
 refine s_m hf rfl ?_; clear hf a; intro a hf
 refine s_m hf rfl ?_; clear hf a; intro a hf
 refine s_v hf (x_nilCheck (hf.eval rfl)) ?_; clear hf a; intro a hf
 refine s_v hf (x_fieldAddr fo88_0 (hf.eval rfl)) ?_; clear hf a; intro a hf
 refine s_r hf (x_load sc3 (hf.eval rfl) (by apply hs.cell <;> repeat constructor)) ?_; clear hf a; intro a hf
 refine s_v hf (x_bin (hf.eval rfl) (hf.eval rfl) (r_gt _ _ _ _)) ?_; clear hf a; intro a hf
 refine s_nil (then_n ?_)
 refine c_cond hf rfl (fun hi3 => ?_) (fun hi3 => ?_)
 ·simp only [zd1, zd2, zd3, zd4, zd5, zd6, zd7] at hi3
  refine wp_seq (wp_region_lit ?_)
  refine s_a hf rfl ?_; clear hf a; intro a hf
  refine s_nil (then_n ?_)
  refine wp_ret ?_
  refine then_r ?_
  refine r_1 hf Tryz.results91 rfl ?_
  rw [trS_big hi1 (by omega) (by omega)]
  exact ⟨rfl, refA_close (x := ⟨_, _, _, _, ps⟩) hps hs⟩
 simp only [zd1, zd2, zd3, zd4, zd5, zd6, zd7] at hi3
 refine wp_skip (then_n (wp_seq (wp_region_lit ?_)))
 refine s_m hf rfl ?_; clear hf a; intro a hf
 replace hs := refA_close (s := s) (x := ⟨_, _, _, _, ps⟩) hps hs
 refine s_do hf rfl (y_call (hf.eval rfl) (hf.evals rfl) Tryz.call40 ((carried_spec _ _ _ p s hs ho.fuse.2 ho.fuse.1 hcl).mono ?_))
 rintro e w1 ⟨rfl, hs⟩
 obtain ⟨t, ht⟩ : ∃ t, t = spent s := ⟨_, rfl⟩
 rw [← ht] at hs
 obtain ⟨htn, htr, htd, htp, hts⟩ := spent_now s
 rw [← ht] at htn htr htd htp hts
 have hto := spent_ok ho
 rw [← ht] at hto
 have htn2 : t.now.length = s.now.length := by rw [htn]
 have htp2 : t.pcs.length = s.pcs.length := by rw [htp]
 have hts2 : t.sizes.length = s.sizes.length := by rw [hts]
 refine ⟨_, rfl, ?_⟩; clear hf a; intro a hf
 refine s_a hf rfl ?_; clear hf a; intro a hf
 refine s_nil (then_n (wp_seq (wp_seq (wp_region_lit ?_))))
 refine s_m hf rfl ?_; clear hf a; intro a hf
 refine s_v hf (x_not (hf.eval rfl)) ?_; clear hf a; intro a hf
 refine s_nil (then_n ?_)
 refine c_cond hf rfl (fun hi4 => ?_) (fun hi4 => ?_)
 ·simp only [Bool.not_eq_true', Bool.not_eq_false', decide_eq_true_eq, decide_eq_false_iff_not, ne_eq, Decidable.not_not] at hi4
  refine wp_seq (wp_region_lit ?_)
  refine s_a hf rfl ?_; clear hf a; intro a hf
  refine s_nil (then_n ?_)
  refine wp_ret ?_
  refine then_r ?_
  refine r_1 hf Tryz.results91 rfl ?_
  rw [trS_fuse hi1 (by omega) (by omega) hi4, ← ht]
  exact ⟨rfl, hs⟩
 simp only [Bool.not_eq_true', Bool.not_eq_false', decide_eq_true_eq, decide_eq_false_iff_not, ne_eq, Decidable.not_not] at hi4
 obtain ⟨⟨v1, v2, v3, v4, ps⟩, hps, hs⟩ := refA_open hs
 dsimp only at hps hs
 obtain ⟨a1, c1, rfl, hc1⟩ := slB_shape (hs.take .k1)
 obtain ⟨a2, c2, rfl, hc2⟩ := slB_shape (hs.take .k2)
 obtain ⟨a3, c3, rfl⟩ := sl_shape (hs.take .k3)
 obtain ⟨a4, c4, rfl⟩ := sl_shape (hs.take .k5)
 refine wp_skip (then_n (wp_seq (wp_seq (wp_region_lit ?_))))
 refine s_m hf rfl ?_; clear hf a; intro a hf
 refine s_m hf rfl ?_; clear hf a; intro a hf
 refine s_v hf (x_nilCheck (hf.eval rfl)) ?_; clear hf a; intro a hf
 refine s_v hf (x_fieldAddr fo88_1 (hf.eval rfl)) ?_; clear hf a; intro a hf
 refine s_r hf (x_load sc22 (hf.eval rfl) (by apply hs.cell <;> repeat constructor)) ?_; clear hf a; intro a hf
 refine s_v hf (x_len Tryz.underlying22 (hf.eval rfl)) ?_; clear hf a; intro a hf
 refine s_v hf (x_bin (hf.eval rfl) (hf.eval rfl) (r_eq _ _ _ _)) ?_; clear hf a; intro a hf
 refine s_nil (then_n ?_)
 refine c_cond hf rfl (fun hi5 => ?_) (fun hi5 => ?_)
 ·simp only [zd1, zd2, zd3, zd4, zd5, zd6, zd7] at hi5
  refine wp_seq (wp_region_lit ?_)
  refine s_a hf rfl ?_; clear hf a; intro a hf
  refine s_nil (then_n ?_)
  refine wp_ret ?_
  refine then_r ?_
  refine r_1 hf Tryz.results91 rfl ?_
  rw [trS_some hi1 (by omega) (by omega) hi4, ← ht]
  have htn9 : trN t n.toNat = t := by unfold trN; rw [trC_in (by omega), List.take_of_length_le (by omega)]
  rw [htn9, sized_eq (by omega)]
  exact ⟨rfl, refA_close (x := ⟨_, _, _, _, ps⟩) hps hs⟩
 simp only [zd1, zd2, zd3, zd4, zd5, zd6, zd7] at hi5
 refine wp_skip (then_n (wp_seq (wp_seq (wp_region_lit ?_))))
 refine s_m hf rfl ?_; clear hf a; intro a hf
 refine s_m hf rfl ?_; clear hf a; intro a hf
 refine s_v hf (x_nilCheck (hf.eval rfl)) ?_; clear hf a; intro a hf
 refine s_v hf (x_fieldAddr fo88_1 (hf.eval rfl)) ?_; clear hf a; intro a hf
 refine s_r hf (x_load sc22 (hf.eval rfl) (by apply hs.cell <;> repeat constructor)) ?_; clear hf a; intro a hf
 refine s_v hf (x_len Tryz.underlying22 (hf.eval rfl)) ?_; clear hf a; intro a hf
 refine s_v hf (x_bin (hf.eval rfl) (hf.eval rfl) (r_gt _ _ _ _)) ?_; clear hf a; intro a hf
 refine s_nil (then_n ?_)
 refine c_cond hf rfl (fun hi6 => ?_) (fun hi6 => ?_)
 ·simp only [zd1, zd2, zd3, zd4, zd5, zd6, zd7] at hi6
  refine c_draw hs (fun w' => w'.cell? ⟨p, 1, none⟩ = some (.slice a1 t.now.length c1)) [.held, .held, .held, .held, .held, .held, .held, .held, .held, .held, .read, .held, .held, .eff, .fin] (by kernel_rfl) (by kernel_rfl) (fun w' _ hs => hs.cell (k := 1) .k0 rfl) ?_
  clear hs; intro w hs hC hw
  refine m_held hf rfl (fun w' _ => x_move (hf.eval rfl) w') ?_; clear hf a; intro a hf
  refine m_held hf rfl (fun w' _ => x_move (hf.eval rfl) w') ?_; clear hf a; intro a hf
  refine m_held hf rfl (fun w' _ => x_nilCheck (hf.eval rfl) w') ?_; clear hf a; intro a hf
  refine m_held hf rfl (fun w' _ => x_fieldAddr fo88_1 (hf.eval rfl) w') ?_; clear hf a; intro a hf
  refine m_held hf rfl (fun w' hc => x_load sc22 (hf.eval rfl) hc) ?_; clear hf a; intro a hf
  refine m_held hf rfl (fun w' _ => x_len Tryz.underlying22 (hf.eval rfl) w') ?_; clear hf a; intro a hf
  refine m_held hf rfl (fun w' _ => x_move (hf.eval rfl) w') ?_; clear hf a; intro a hf
  refine m_held hf rfl (fun w' _ => x_move (hf.eval rfl) w') ?_; clear hf a; intro a hf
  refine m_held hf rfl (fun w' _ => x_nilCheck (hf.eval rfl) w') ?_; clear hf a; intro a hf
  refine m_held hf rfl (fun w' _ => x_fieldAddr fo88_1 (hf.eval rfl) w') ?_; clear hf a; intro a hf
  refine m_read hf rfl (x_load sc22 (hf.eval rfl) (by apply hs.cell <;> repeat constructor)) ?_; clear hf a; intro a hf
  refine m_held hf rfl (fun w' _ => x_len Tryz.underlying22 (hf.eval rfl) w') ?_; clear hf a; intro a hf
  refine m_held hf rfl (fun w' _ => x_bin (hf.eval rfl) (hf.eval rfl) (r_subi _ (by omega) (by omega)) w') ?_; clear hf a; intro a hf
  refine m_eff hf rfl (y_makeB (m := n.toNat - t.now.length) (c := n.toNat - t.now.length) hs sl22 (hf.eval rfl) (hf.eval rfl) (by omega) (by omega) (Nat.le_refl _) (by omega) ?_); clear hf hs a; intro b w hs; refine ⟨hs.cell (k := 1) .k1 rfl, ?_⟩; intro a hf
  replace hs := hs.ofBb (n := (List.replicate (n.toNat - t.now.length) (0 : UInt8)).length) rfl (by simp; omega)
  replace hf := hf.now (k := 52) (v' := .slice (some ⟨b, 0, none⟩) (List.replicate (n.toNat - t.now.length) (0 : UInt8)).length (List.replicate (n.toNat - t.now.length) (0 : UInt8)).length) rfl (by simp)
  replace hs := St.give (L := _) hs .k6
  replace hs := refA_close (s := t) (x := ⟨_, _, _, _, ps⟩) hps hs
  refine m_fin hf rfl (y_call (hf.eval rfl) (hf.evals rfl) Tryz.call90 ((rlay_spec σ _ _ p t hs t.now.length _ _ (List.replicate (n.toNat - t.now.length) (0 : UInt8)) (Rdy.own .k0) (by intro h9; have h8 := congrArg List.length h9; simp at h8; omega) (Nat.le_refl _) (by simp; omega) (by omega) (by omega)).mono ?_))
  rintro e w1 ⟨rfl, hs⟩
  replace hs := hs.lose .k1
  rw [← trC_up (by omega)] at hs
  have hle9 : (trC t n.toNat).now.length ≤ n.toNat := by rw [trC_up (by omega), layS_len]; simp; omega
  have e9 : trC t n.toNat = trN t n.toNat := by unfold trN; rw [List.take_of_length_le hle9]
  rw [e9] at hs
  obtain ⟨u, hu⟩ : ∃ u, u = trN t n.toNat := ⟨_, rfl⟩
  rw [← hu] at hs
  have husz : u.sizes = t.sizes := by rw [hu]; unfold trN trC; split <;> rfl
  have husz2 : u.sizes.length = t.sizes.length := by rw [husz]
  have hul : u.now.length = n.toNat := by rw [hu, trN_len]
  obtain ⟨⟨v1, v2, v3, v4, ps⟩, hps, hs⟩ := refA_open hs
  dsimp only at hps hs
  obtain ⟨a1, c1, rfl, hc1⟩ := slB_shape (hs.take .k1)
  obtain ⟨a2, c2, rfl, hc2⟩ := slB_shape (hs.take .k2)
  obtain ⟨a3, c3, rfl⟩ := sl_shape (hs.take .k3)
  obtain ⟨a4, c4, rfl⟩ := sl_shape (hs.take .k5)
  refine ⟨_, rfl, ?_⟩; clear hf a; intro a hf
  refine then_n (wp_seq (wp_region_lit ?_))
  refine s_m hf rfl ?_; clear hf a; intro a hf
  refine s_m hf rfl ?_; clear hf a; intro a hf
  refine s_v hf (x_nilCheck (hf.eval rfl)) ?_; clear hf a; intro a hf
  refine s_v hf (x_fieldAddr fo88_4 (hf.eval rfl)) ?_; clear hf a; intro a hf
  refine s_r hf (x_load sc62 (hf.eval rfl) (by apply hs.cell <;> repeat constructor)) ?_; clear hf a; intro a hf
  refine s_m hf rfl ?_; clear hf a; intro a hf
  replace hf := hf.now (k := 69) (v' := .int .i64 (u.now.length : Int)) rfl (by rw [hul]; congr 1; omega)
  refine s_do hf rfl (y_lit (xs := [.tmp 69]) hs sl62 (hf.evals rfl) rfl (by simp [Value.cells]) (by decide) ?_); clear hf hs a; intro b2 w hs a hf
  refine s_do hf rfl (y_append (n := u.sizes.length) (m := 1) (ys := [.int .i64 (u.now.length : Int)]) hs sl62 (hf.eval rfl) (hf.eval rfl) .k6 (hs.rd .k0 fun h hb => rd_rows hb rfl) (by simp [Value.oneCell']) (by omega) (by rw [maxLen_eq]; omega) ?_); clear hf hs a; intro v2 w hs hv a hf
  rw [← szC_append, show u.sizes.length + 1 = (u.sizes ++ [u.now.length]).length by simp] at hs
  obtain ⟨a7, c7, rfl⟩ := sl_shape hs
  refine s_v hf (x_nilCheck (hf.eval rfl)) ?_; clear hf a; intro a hf
  refine s_v hf (x_fieldAddr fo88_4 (hf.eval rfl)) ?_; clear hf a; intro a hf
  refine s_do0 hf rfl (y_store hs sc62 (hf.eval rfl) (hf.eval rfl) rfl (by repeat constructor) (by simp) ?_); clear hf hs a; intro w hs a hf
  replace hs := St.give (L := _) (hs.lose .k1) .k5
  refine s_nil (then_n (wp_seq (wp_region_lit ?_)))
  refine s_a hf rfl ?_; clear hf a; intro a hf
  refine s_nil (then_n ?_)
  refine wp_ret ?_
  refine r_1 hf Tryz.results91 rfl ?_
  rw [trS_some hi1 (by omega) (by omega) hi4, ← ht, ← hu, sized_ne (by omega)]
  exact ⟨rfl, refA_close (x := ⟨.slice a1 u.now.length c1, .slice a2 u.dur.length c2, .slice a3 ps.length c3, .slice a7 (u.sizes ++ [u.now.length]).length c7, ps⟩) hps hs⟩
 simp only [zd1, zd2, zd3, zd4, zd5, zd6, zd7] at hi6
 refine wp_region_lit ?_
 refine s_m hf rfl ?_; clear hf a; intro a hf
 refine s_m hf rfl ?_; clear hf a; intro a hf
 refine s_v hf (x_nilCheck (hf.eval rfl)) ?_; clear hf a; intro a hf
 refine s_v hf (x_fieldAddr fo88_1 (hf.eval rfl)) ?_; clear hf a; intro a hf
 refine s_r hf (x_load sc22 (hf.eval rfl) (by apply hs.cell <;> repeat constructor)) ?_; clear hf a; intro a hf
 refine s_m hf rfl ?_; clear hf a; intro a hf
 refine s_v hf (x_slice_hi sl22 (hf.eval rfl) (hf.eval rfl)  (by omega) (by omega) ) ?_; clear hf a; intro a hf
 have htk : (t.now.take n.toNat).length = n.toNat := by rw [List.length_take]; omega
 replace hf := hf.now (k := 60) (v' := .slice a1 (t.now.take n.toNat).length c1) rfl (by rw [htk])
 refine s_do hf rfl (y_call (hf.eval rfl) (hf.evals rfl) Tryz.call38 ((rclone_spec _ _ _ (t.now.take n.toNat) (by rw [htk]; exact RdB.pre (hs.rdB .k1 fun h => slB_rd) rfl (by omega)) (by omega)).mono ?_))
 rintro e w1 ⟨e1, fe1, rfl, hj⟩
 replace hs := hs.join hj
 simp only [List.cons_append, List.nil_append] at hs
 refine ⟨_, rfl, ?_⟩; clear hf a; intro a hf
 refine s_v hf (x_nilCheck (hf.eval rfl)) ?_; clear hf a; intro a hf
 refine s_v hf (x_fieldAddr fo88_1 (hf.eval rfl)) ?_; clear hf a; intro a hf
 refine s_do0 hf rfl (y_store hs sc22 (hf.eval rfl) (hf.eval rfl) rfl (by repeat constructor) (by simp) ?_); clear hf hs a; intro w hs a hf
 replace hs := (hs.lose .k2).take .k1
 replace hs := refA_close (s := { t with now := t.now.take n.toNat }) (x := ⟨.slice e1 (t.now.take n.toNat).length fe1, .slice a2 t.dur.length c2, .slice a3 ps.length c3, .slice a4 t.sizes.length c4, ps⟩) hps hs
 have e9 : { t with now := t.now.take n.toNat } = trN t n.toNat := by unfold trN; rw [trC_in (by omega)]
 rw [e9] at hs
 obtain ⟨u, hu⟩ : ∃ u, u = trN t n.toNat := ⟨_, rfl⟩
 rw [← hu] at hs
 have husz : u.sizes = t.sizes := by rw [hu]; unfold trN trC; split <;> rfl
 have husz2 : u.sizes.length = t.sizes.length := by rw [husz]
 have hul : u.now.length = n.toNat := by rw [hu, trN_len]
 obtain ⟨⟨v1, v2, v3, v4, ps⟩, hps, hs⟩ := refA_open hs
 dsimp only at hps hs
 obtain ⟨a1, c1, rfl, hc1⟩ := slB_shape (hs.take .k1)
 obtain ⟨a2, c2, rfl, hc2⟩ := slB_shape (hs.take .k2)
 obtain ⟨a3, c3, rfl⟩ := sl_shape (hs.take .k3)
 obtain ⟨a4, c4, rfl⟩ := sl_shape (hs.take .k5)
 refine s_nil (then_n (wp_seq (wp_region_lit ?_)))
 refine s_m hf rfl ?_; clear hf a; intro a hf
 refine s_m hf rfl ?_; clear hf a; intro a hf
 refine s_v hf (x_nilCheck (hf.eval rfl)) ?_; clear hf a; intro a hf
 refine s_v hf (x_fieldAddr fo88_4 (hf.eval rfl)) ?_; clear hf a; intro a hf
 refine s_r hf (x_load sc62 (hf.eval rfl) (by apply hs.cell <;> repeat constructor)) ?_; clear hf a; intro a hf
 refine s_m hf rfl ?_; clear hf a; intro a hf
 replace hf := hf.now (k := 69) (v' := .int .i64 (u.now.length : Int)) rfl (by rw [hul]; congr 1; omega)
 refine s_do hf rfl (y_lit (xs := [.tmp 69]) hs sl62 (hf.evals rfl) rfl (by simp [Value.cells]) (by decide) ?_); clear hf hs a; intro b2 w hs a hf
 refine s_do hf rfl (y_append (n := u.sizes.length) (m := 1) (ys := [.int .i64 (u.now.length : Int)]) hs sl62 (hf.eval rfl) (hf.eval rfl) .k6 (hs.rd .k0 fun h hb => rd_rows hb rfl) (by simp [Value.oneCell']) (by omega) (by rw [maxLen_eq]; omega) ?_); clear hf hs a; intro v2 w hs hv a hf
 rw [← szC_append, show u.sizes.length + 1 = (u.sizes ++ [u.now.length]).length by simp] at hs
 obtain ⟨a7, c7, rfl⟩ := sl_shape hs
 refine s_v hf (x_nilCheck (hf.eval rfl)) ?_; clear hf a; intro a hf
 refine s_v hf (x_fieldAddr fo88_4 (hf.eval rfl)) ?_; clear hf a; intro a hf
 refine s_do0 hf rfl (y_store hs sc62 (hf.eval rfl) (hf.eval rfl) rfl (by repeat constructor) (by simp) ?_); clear hf hs a; intro w hs a hf
 replace hs := St.give (L := _) (hs.lose .k1) .k5
 refine s_nil (then_n (wp_seq (wp_region_lit ?_)))
 refine s_a hf rfl ?_; clear hf a; intro a hf
 refine s_nil (then_n ?_)
 refine wp_ret ?_
 refine r_1 hf Tryz.results91 rfl ?_
 rw [trS_some hi1 (by omega) (by omega) hi4, ← ht, ← hu, sized_ne (by omega)]
 exact ⟨rfl, refA_close (x := ⟨.slice a1 u.now.length c1, .slice a2 u.dur.length c2, .slice a3 ps.length c3, .slice a7 (u.sizes ++ [u.now.length]).length c7, ps⟩) hps hs⟩
theorem rSync_spec (σ : Sig) (w : World) (R : List Asrt) (p : Nat) (s : DS) (hs : St σ w (refA 88 152 5 3 p s :: R)) (ho : DOk s) (hcl : s.calls ≤ 4611686018427387904) (hpc : s.pcs.length ≤ 1099511600000) (hsl : s.sizes.length ≤ 1099511600000) : Calls Tryz.prog 12 #[.pointer (some ⟨p, 0, none⟩)] w fun e w' => e = .returned (.int .i64 (syS s).1) ∧ St σ w' (refA 88 152 5 3 p (syS s).2 :: R) := by
 have hroom1 := ho.room1
 have hnow1 := ho.now
 obtain ⟨⟨v1, v2, v3, v4, ps⟩, hps, hs⟩ := refA_open hs
 dsimp only at hps hs
 obtain ⟨a1, c1, rfl, hc1⟩ := slB_shape (hs.take .k1)
 obtain ⟨a2, c2, rfl, hc2⟩ := slB_shape (hs.take .k2)
 obtain ⟨a3, c3, rfl⟩ := sl_shape (hs.take .k3)
 obtain ⟨a4, c4, rfl⟩ := sl_shape (hs.take .k5)
 refine c_enter (N := 29) Tryz.func12 rfl Tryz.ntmps12 (by simp) ?_
 intro a hf
 refine wp_seq (wp_region_lit ?_)
 refine s_a hf rfl ?_; clear hf a; intro a hf
 refine s_nil (then_n (wp_seq (wp_seq (wp_region_lit ?_))))
 refine s_m hf rfl ?_; clear hf a; intro a hf
 refine s_v hf (x_eqNil Tryz.underlying28 (hf.eval rfl) (hf.eval rfl)) ?_; clear hf a; intro a hf
 replace hf := hf.now (k := 5) (v' := .bool false) rfl rfl
 refine s_nil (then_n ?_)
 refine c_cond_f hf rfl rfl ?_
 refine wp_skip (then_n (wp_seq (wp_seq (wp_region_lit ?_))))
 refine s_m hf rfl ?_; clear hf a; intro a hf
 refine s_v hf (x_nilCheck (hf.eval rfl)) ?_; clear hf a; intro a hf
 refine s_v hf (x_fieldAddr fo88_7 (hf.eval rfl)) ?_; clear hf a; intro a hf
 refine s_r hf (x_load sc4 (hf.eval rfl) (by apply hs.cell <;> repeat constructor)) ?_; clear hf a; intro a hf
 refine s_v hf (x_not (hf.eval rfl)) ?_; clear hf a; intro a hf
 refine s_nil (then_n ?_)
 refine c_cond hf rfl (fun hi1 => ?_) (fun hi1 => ?_)
 ·simp only [Bool.not_not] at hi1
  refine wp_seq (wp_region_lit ?_)
  refine s_a hf rfl ?_; clear hf a; intro a hf
  refine s_nil (then_n ?_)
  refine wp_ret ?_
  refine then_r ?_
  refine r_1 hf Tryz.results12 rfl ?_
  rw [syS_dead hi1]
  exact ⟨rfl, refA_close (x := ⟨_, _, _, _, ps⟩) hps hs⟩
 simp only [Bool.not_not] at hi1
 refine wp_skip (then_n (wp_seq (wp_region_lit ?_)))
 refine s_m hf rfl ?_; clear hf a; intro a hf
 replace hs := refA_close (s := s) (x := ⟨_, _, _, _, ps⟩) hps hs
 refine s_do hf rfl (y_call (hf.eval rfl) (hf.evals rfl) Tryz.call40 ((carried_spec _ _ _ p s hs ho.fuse.2 ho.fuse.1 hcl).mono ?_))
 rintro e w1 ⟨rfl, hs⟩
 obtain ⟨t, ht⟩ : ∃ t, t = spent s := ⟨_, rfl⟩
 rw [← ht] at hs
 obtain ⟨htn, htr, htd, htp, hts⟩ := spent_now s
 rw [← ht] at htn htr htd htp hts
 have hto := spent_ok ho
 rw [← ht] at hto
 have htn2 : t.now.length = s.now.length := by rw [htn]
 have htp2 : t.pcs.length = s.pcs.length := by rw [htp]
 have hts2 : t.sizes.length = s.sizes.length := by rw [hts]
 refine ⟨_, rfl, ?_⟩; clear hf a; intro a hf
 refine s_a hf rfl ?_; clear hf a; intro a hf
 refine s_nil (then_n (wp_seq (wp_seq (wp_region_lit ?_))))
 refine s_m hf rfl ?_; clear hf a; intro a hf
 refine s_v hf (x_not (hf.eval rfl)) ?_; clear hf a; intro a hf
 refine s_nil (then_n ?_)
 refine c_cond hf rfl (fun hi2 => ?_) (fun hi2 => ?_)
 ·simp only [Bool.not_eq_true', Bool.not_eq_false', decide_eq_true_eq, decide_eq_false_iff_not, ne_eq, Decidable.not_not] at hi2
  refine wp_seq (wp_region_lit ?_)
  refine s_a hf rfl ?_; clear hf a; intro a hf
  refine s_nil (then_n ?_)
  refine wp_ret ?_
  refine then_r ?_
  refine r_1 hf Tryz.results12 rfl ?_
  rw [syS_fuse hi1 hi2, ← ht]
  exact ⟨rfl, hs⟩
 simp only [Bool.not_eq_true', Bool.not_eq_false', decide_eq_true_eq, decide_eq_false_iff_not, ne_eq, Decidable.not_not] at hi2
 obtain ⟨⟨v1, v2, v3, v4, ps⟩, hps, hs⟩ := refA_open hs
 dsimp only at hps hs
 obtain ⟨a1, c1, rfl, hc1⟩ := slB_shape (hs.take .k1)
 obtain ⟨a2, c2, rfl, hc2⟩ := slB_shape (hs.take .k2)
 obtain ⟨a3, c3, rfl⟩ := sl_shape (hs.take .k3)
 obtain ⟨a4, c4, rfl⟩ := sl_shape (hs.take .k5)
 refine wp_skip (then_n (wp_seq (wp_region_lit ?_)))
 refine s_m hf rfl ?_; clear hf a; intro a hf
 refine s_m hf rfl ?_; clear hf a; intro a hf
 refine s_v hf (x_nilCheck (hf.eval rfl)) ?_; clear hf a; intro a hf
 refine s_v hf (x_fieldAddr fo88_1 (hf.eval rfl)) ?_; clear hf a; intro a hf
 refine s_r hf (x_load sc22 (hf.eval rfl) (by apply hs.cell <;> repeat constructor)) ?_; clear hf a; intro a hf
 refine s_do hf rfl (y_call (hf.eval rfl) (hf.evals rfl) Tryz.call38 ((rclone_spec _ _ _ t.now (hs.rdB .k1 fun h => slB_rd) (by omega)).mono ?_))
 rintro e w1 ⟨e1, fe1, rfl, hj⟩
 replace hs := hs.join hj
 simp only [List.cons_append, List.nil_append] at hs
 refine ⟨_, rfl, ?_⟩; clear hf a; intro a hf
 refine s_v hf (x_nilCheck (hf.eval rfl)) ?_; clear hf a; intro a hf
 refine s_v hf (x_fieldAddr fo88_2 (hf.eval rfl)) ?_; clear hf a; intro a hf
 refine s_do0 hf rfl (y_store hs sc22 (hf.eval rfl) (hf.eval rfl) rfl (by repeat constructor) (by simp) ?_); clear hf hs a; intro w hs a hf
 replace hs := (((hs.lose .k3).take .k2).take .k2)
 refine s_nil (then_n (wp_seq (wp_region_lit ?_)))
 refine s_m hf rfl ?_; clear hf a; intro a hf
 refine s_v hf (x_nilCheck (hf.eval rfl)) ?_; clear hf a; intro a hf
 refine s_v hf (x_fieldAddr fo88_3 (hf.eval rfl)) ?_; clear hf a; intro a hf
 refine s_do0 hf rfl (y_store hs sc86 (hf.eval rfl) (hf.eval rfl) rfl (by repeat constructor) (by simp) ?_); clear hf hs a; intro w hs a hf
 refine s_nil (then_n (wp_seq (wp_region_lit ?_)))
 refine s_m hf rfl ?_; clear hf a; intro a hf
 refine s_v hf (x_nilCheck (hf.eval rfl)) ?_; clear hf a; intro a hf
 refine s_v hf (x_fieldAddr fo88_4 (hf.eval rfl)) ?_; clear hf a; intro a hf
 refine s_do0 hf rfl (y_store hs sc62 (hf.eval rfl) (hf.eval rfl) rfl (by repeat constructor) (by simp) ?_); clear hf hs a; intro w hs a hf
 refine s_nil (then_n (wp_seq (wp_region_lit ?_)))
 refine s_a hf rfl ?_; clear hf a; intro a hf
 refine s_nil (then_n ?_)
 refine wp_ret ?_
 refine r_1 hf Tryz.results12 rfl ?_
 rw [syS_some hi1 hi2, ← ht, ← htn]
 replace hs := ((hs.lose .k3).lose .k3).lose .k3
 replace hs := St.give (L := _) (hs.emp (A := sl 152 3 (.slice none 0 0) 0 []) (fun _ => ⟨rfl, .inl ⟨rfl, rfl⟩⟩)) .k3
 replace hs := St.give (L := _) (hs.emp (A := datA 5 []) (fun _ => trivial)) .k4
 replace hs := St.give (L := _) (hs.emp (A := sl 3 1 (.slice none 0 0) 0 []) (fun _ => ⟨rfl, .inl ⟨rfl, rfl⟩⟩)) .k5
 exact ⟨rfl, refA_close (s := { t with dur := t.now, pcs := [], sizes := [] }) (x := ⟨.slice a1 t.now.length c1, .slice e1 t.now.length fe1, .slice none 0 0, .slice none 0 0, []⟩) rfl hs⟩
end Go.Proofs.YtehakfbfjpolfaaGreatDoor

namespace Go.Proofs.YtehakfbfjpolfaaGreatDoor
open Go Vw
def preR (im : List UInt8) : List COp := if (lkV im).1.1 = 3 then (lkP im).map wrO ++ [syO] else []
attribute [local irreducible] Vw.sl Vw.sdS Vw.bodyS Vw.zt Vw.putPs Vw.seOk Vw.bkOk Vw.lkZ Vw.lkP Vw.lkOk Vw.lkV Vw.runS Vw.opsR Vw.wrsU recV recS preR Vw.bkL Vw.spL Vw.spA Vw.spN Vw.totB Vw.upZ
theorem rcut_spec (w0 w : World) (R : List Asrt) (D : Nat) (s : DS) (size : Int) (hs : St ⟨w0, None_⟩ w (refA 88 152 5 3 D s :: R)) (ho : DOk s) (k : Nat) (hb : DB s k) (hk : k ≤ 33000000) : Calls Tryz.prog 58 #[.pointer (some ⟨D, 0, none⟩), .int .i64 size] w fun e w' => e = .returned (.int .i64 (runS s [(3, size, []), syO]).1) ∧ St ⟨w0, None_⟩ w' (refA 88 152 5 3 D (runS s [(3, size, []), syO]).2 :: R) := by
 refine c_enter (N := 14) Tryz.func58 rfl Tryz.ntmps58 (by simp) ?_
 intro a hf
 refine wp_seq (wp_region_lit ?_)
 refine s_a hf rfl ?_; clear hf a; intro a hf
 refine s_nil (then_n (wp_seq (wp_region_lit ?_)))
 refine s_m hf rfl ?_; clear hf a; intro a hf
 refine s_m hf rfl ?_; clear hf a; intro a hf
 refine s_do hf rfl (y_call (hf.eval rfl) (hf.evals rfl) Tryz.call91 ((rTrunc_spec _ _ _ D s hs size ho (by have := hb.calls; omega) (by have := hb.pcs; omega) (by have := hb.sizes; omega)).mono ?_))
 rintro e w1 ⟨rfl, hs⟩
 rw [← co_tr] at hs ⊢
 obtain ⟨t, ht⟩ : ∃ t, t = (coS s (3, size, [])).2 := ⟨_, rfl⟩
 have hto := coS_ok ho (3, size, [])
 have htb := coS_b ho hb (3, size, [])
 rw [← ht] at hs hto htb
 refine ⟨_, rfl, ?_⟩; clear hf a; intro a hf
 refine s_a hf rfl ?_; clear hf a; intro a hf
 refine s_nil (then_n (wp_seq (wp_seq (wp_region_lit ?_))))
 refine s_m hf rfl ?_; clear hf a; intro a hf
 refine s_v hf (x_bin (hf.eval rfl) (hf.eval rfl) (r_ne _ _ _ _)) ?_; clear hf a; intro a hf
 refine s_nil (then_n ?_)
 refine c_cond hf rfl (fun hi0 => ?_) (fun hi0 => ?_)
 ·first | simp only [zd1, zd2, zd3, zd4, ne_eq, Classical.not_not] at hi0 | skip
  refine wp_seq (wp_region_lit ?_)
  refine s_m hf rfl ?_; clear hf a; intro a hf
  refine s_a hf rfl ?_; clear hf a; intro a hf
  refine s_nil (then_n ?_)
  refine wp_ret ?_
  refine then_r ?_
  refine r_1 hf Tryz.results58 rfl ?_
  rw [runS2_bad hi0, ← ht]
  exact ⟨rfl, hs⟩
 first | simp only [zd1, zd2, zd3, zd4, ne_eq, Classical.not_not] at hi0 | skip
 refine wp_skip (then_n (wp_seq (wp_region_lit ?_)))
 refine s_m hf rfl ?_; clear hf a; intro a hf
 refine s_do hf rfl (y_call (hf.eval rfl) (hf.evals rfl) Tryz.call12 ((rSync_spec _ _ _ D t hs hto (by have := htb.calls; omega) (by have := htb.pcs; omega) (by have := htb.sizes; omega)).mono ?_))
 rintro e w1 ⟨rfl, hs⟩
 rw [← co_sy] at hs ⊢
 refine ⟨_, rfl, ?_⟩; clear hf a; intro a hf
 refine s_a hf rfl ?_; clear hf a; intro a hf
 refine s_nil (then_n ?_)
 refine wp_ret ?_
 refine r_1 hf Tryz.results58 rfl ?_
 rw [runS2_ok hi0, ← ht]
 exact ⟨rfl, hs⟩
set_option maxHeartbeats 1600000
end Go.Proofs.YtehakfbfjpolfaaGreatDoor

namespace Go.Proofs.YtehakfbfjpolfaaGreatDoor
open Go Vw
theorem rnum2_spec (σ : Sig) (w : World) (R : List Asrt) (ax : Option Addr) (cx : Nat) (l : List UInt8) (v : Int) (hv0 : 0 ≤ v) (hv1 : v ≤ 9223372036854775807) (hl : l.length ≤ 1099511627776) (hs : St σ w (slB 5 (.slice ax l.length cx) l :: R)) : Calls Tryz.prog 87 #[.slice ax l.length cx, .int .i64 v] w fun e w' => ∃ a2 c2, e = .returned (.slice a2 (l ++ leB 4 v.toNat).length c2) ∧ St σ w' (slB 5 (.slice a2 (l ++ leB 4 v.toNat).length c2) (l ++ leB 4 v.toNat) :: R) := by
 obtain ⟨V, rfl⟩ := Int.eq_ofNat_of_zero_le hv0
 rw [Int.toNat_natCast]
 refine c_enter (N := 19) Tryz.func87 rfl Tryz.ntmps87 (by simp) ?_
 intro a hf
 refine wp_seq (wp_region_lit ?_)
 refine s_a hf rfl ?_; clear hf a; intro a hf
 refine s_nil (then_n (wp_seq (wp_seq (wp_region_lit ?_))))
 refine s_a hf rfl ?_; clear hf a; intro a hf
 refine s_nil (then_n (wp_block ?_))
 refine c_loop (L0 := [(4, _)]) (fun M w m => ∃ (j : Nat) (v0 : Value), M = [(0, v0), (1, .int .i64 ((V / 256 ^ j : Nat) : Int)), (5, .int .i64 (j : Int))] ∧ 4 - j = m ∧ j ≤ 4 ∧ St σ w (slB 5 v0 (l ++ leB j V) :: R)) (M0 := [(0, .slice ax l.length cx), (1, .int .i64 (V : Int)), (5, .int .i64 0)]) (⟨0, _, by rw [Nat.pow_zero, Nat.div_one]; rfl, rfl, Nat.zero_le _, by simpa [leB] using hs⟩) (hf.sub ⟨rfl, rfl, rfl, rfl, trivial⟩) ?_
 clear hf hs a
 rintro M m a w ⟨j, v0, rfl, rfl, hj, hs⟩ hf
 refine wp_seq (wp_seq (wp_region_lit ?_))
 refine s_m hf rfl ?_; clear hf a; intro a hf
 refine s_v hf (x_bin (hf.eval rfl) (hf.eval rfl) (r_lt _ _ _ _)) ?_; clear hf a; intro a hf
 refine s_nil (then_n ?_)
 refine c_cond hf rfl (fun hi0 => ?_) (fun hi0 => ?_)
 ·simp only [zd1, zd2, zd3, zd4, zd5, zd6, zd7] at hi0
  have hVj : V / 256 ^ j ≤ V := Nat.div_le_self _ _
  have hv1 : V ≤ 9223372036854775807 := by omega
  refine wp_skip (then_n (wp_seq (wp_block (wp_seq (wp_region_lit ?_)))))
  refine s_m hf rfl ?_; clear hf a; intro a hf
  refine s_m hf rfl ?_; clear hf a; intro a hf
  refine s_v hf (x_bin (hf.eval rfl) (hf.eval rfl) (r_remn _ _ (Int.natCast_nonneg _) (by decide))) ?_; clear hf a; intro a hf
  replace hf := hf.now (k := 12) (v' := .int .i64 ((V / 256 ^ j % 256 : Nat) : Int)) rfl (by congr 1)
  refine s_v hf (x_convr Tryz.underlying3 Tryz.underlying5 (hf.eval rfl) (by rw [u8_of .i64 rfl, Nat.mod_mod] : IntKind.u8.wrap ((V / 256 ^ j % 256 : Nat) : Int) = ((UInt8.ofNat (V / 256 ^ j % 256)).toNat : Int))) ?_; clear hf a; intro a hf
  replace hf := hf.now (k := 13) (v' := u8v (UInt8.ofNat (V / 256 ^ j % 256))) rfl (rfl)
  refine s_do hf rfl (y_lit (xs := [.tmp 13]) hs sl22 (hf.evals rfl) rfl (by simp [Value.cells, u8v]) (by decide) ?_); clear hf hs a; intro b2 w hs a hf
  refine s_do hf rfl (y_appendB (s := [UInt8.ofNat (V / 256 ^ j % 256)]) hs sl22 rfl (hf.eval rfl) (hf.eval rfl) .k1 (hs.rdB .k0 fun h hb => rdB_of_bb (T := 5) (l := [UInt8.ofNat (V / 256 ^ j % 256)]) hb (by simp) (by simp)) (by simp [leB_len]; omega) ?_); clear hf hs a; intro v2 w hs hv a hf
  replace hs := hs.lose .k1
  rw [List.append_assoc, ← leB_succ] at hs
  refine s_a hf rfl ?_; clear hf a; intro a hf
  refine s_nil (then_n (wp_region_lit ?_))
  refine s_m hf rfl ?_; clear hf a; intro a hf
  refine s_v hf (x_bin (hf.eval rfl) (hf.eval rfl) (r_quon _ (Int.natCast_nonneg _) (by decide) (by omega))) ?_; clear hf a; intro a hf
  replace hf := hf.now (k := 17) (v' := .int .i64 ((V / 256 ^ (j + 1) : Nat) : Int)) rfl (by rw [Nat.pow_succ, ← Nat.div_div_eq_div_mul]; congr 1)
  refine s_a hf rfl ?_; clear hf a; intro a hf
  refine s_nil (blk_n (then_n (wp_region_lit ?_)))
  refine s_m hf rfl ?_; clear hf a; intro a hf
  refine s_v hf (x_bin (hf.eval rfl) (hf.eval rfl) (r_addi _ (by omega) (by omega))) ?_; clear hf a; intro a hf
  refine s_a hf rfl ?_; clear hf a; intro a hf
  refine s_nil ?_
  exact ⟨_, _, ⟨j + 1, _, rfl, rfl, by omega, hs⟩, by omega, hf.sub ⟨rfl, rfl, rfl, rfl, trivial⟩⟩
 simp only [zd1, zd2, zd3, zd4, zd5, zd6, zd7] at hi0
 refine wp_exit (then_x (then_x (blk_x (then_n (wp_seq (wp_region_lit ?_))))))
 refine s_m hf rfl ?_; clear hf a; intro a hf
 refine s_a hf rfl ?_; clear hf a; intro a hf
 refine s_nil (then_n ?_)
 refine wp_ret ?_
 refine r_1 hf Tryz.results87 rfl ?_
 obtain rfl : j = 4 := by omega
 obtain ⟨a2, c2, rfl, hc2⟩ := slB_shape hs
 exact ⟨_, _, rfl, hs⟩
def putO (at_ : Int) (d : List UInt8) : List COp := if d = [] then [syO] else [(2, at_, d), syO]
theorem putO_len (at_ : Int) (d : List UInt8) : (putO at_ d).length ≤ 2 := by unfold putO; split <;> simp
theorem putO_no {at_ : Int} {d : List UInt8} (h : d ≠ []) : putO at_ d = [(2, at_, d), syO] := if_neg h
def clmB (c : List UInt8) (seq size : Int) (ws : List Wr) : List UInt8 := secS (slU 2 seq c size ws) ++ List.replicate (filU c size ws - seaU c size ws - 512).toNat 0
theorem sec_ne (s : Sl) : secS s ≠ [] := fun h => by have := secS_len s; rw [h] at this; cases this
theorem clm_ne (c : List UInt8) (seq size : Int) (ws : List Wr) : clmB c seq size ws ≠ [] := fun h => sec_ne (slU 2 seq c size ws) (List.append_eq_nil_iff.1 h).1
theorem opsU_put (c : List UInt8) (seq size : Int) (ws : List Wr) : opsU c seq size ws = putO (seaU c size ws) (clmB c seq size ws) ++ (putO (bplU c size) (bodU c ws) ++ (putO (seaU c size ws) (secS (slU 3 seq c size ws)) ++ (wrsU ws ++ ([syO] ++ (putO (seaU c size ws) (secS (slU 4 seq c size ws)) ++ [(3, size, []), syO]))))) := by
  rw [putO_no (clm_ne c seq size ws), putO_no (sec_ne _), putO_no (sec_ne _)]
  unfold opsU opsA savU putO clmU armU clmB
  split <;> simp
theorem wrsU_dropC {ws : List Wr} {i : Nat} (h : i < ws.length) : wrsU (ws.drop i) = (2, ws[i].1, ws[i].2.2.2) :: wrsU (ws.drop (i + 1)) := by
  unfold wrsU; rw [List.drop_eq_getElem_cons h]; rfl
theorem wrsU_end (ws : List Wr) (x : List COp) : wrsU (ws.drop ws.length) ++ x = x := by unfold wrsU; rw [List.drop_length]; rfl
theorem filU_def (c : List UInt8) (size : Int) (ws : List Wr) : filU c size ws = filZ (c.length : Int) size ((bodU c ws).length : Int) := rfl
theorem seaU_def (c : List UInt8) (size : Int) (ws : List Wr) : filU c size ws / 512 * 512 - 512 = seaU c size ws := rfl
theorem bplU_def (c : List UInt8) (size : Int) : upZ (max (c.length : Int) size) = bplU c size := rfl
theorem bodU_def (c : List UInt8) (ws : List Wr) : bodyB c (savL (c.length : Int) ws) = bodU c ws := rfl
theorem rBody_spec (w0 : World) (a1 : Option Addr) (c1 : Nat) (c : List UInt8) (hr1 : RdB (hp w0) (.slice a1 c.length c1) c) (hcl : c.length ≤ 16777216) (as_ : Option Addr) (cs : Nat) (ss : List (Int × Int)) (hrs : RdS spF 2 (hp w0) (.slice as_ ss.length cs) ss) (hls : ss.length ≤ 1048576) (hss : spc (c.length : Int) 0 ss) : Calls Tryz.prog 50 #[.slice a1 c.length c1, .slice as_ ss.length cs] w0 fun e w' => ∃ a cc, e = .returned (.slice a (bodyB c ss).length cc) ∧ St ⟨w0, None_⟩ w' [slB 5 (.slice a (bodyB c ss).length cc) (bodyB c ss)] := by
 have hs := (St.start w0 None_).emp (slB_nil 5)
 have hcp := RdB.cap hr1
 have hle := lenS_le hss (by omega)
 have hdl := dat_len (Int.le_refl 0) hss
 have hhl := hd_len ss
 refine c_enter (N := 55) Tryz.func50 rfl Tryz.ntmps50 (by simp) ?_
 intro a hf
 refine wp_seq (wp_region_lit ?_)
 refine s_a hf rfl ?_; clear hf a; intro a hf
 refine s_nil (then_n (wp_seq (wp_region_lit ?_)))
 refine s_a hf rfl ?_; clear hf a; intro a hf
 refine s_nil (then_n (wp_seq (wp_seq (wp_region_lit ?_))))
 refine s_a hf rfl ?_; clear hf a; intro a hf
 refine s_nil (then_n (wp_block ?_))
 refine c_loop (L0 := [(0, _), (1, _), (4, _)]) (fun M w m => ∃ (i : Nat) (v : Value), M = [(5, v), (6, .int .i64 (i : Int))] ∧ ss.length - i = m ∧ i ≤ ss.length ∧ St ⟨w0, None_⟩ w [slB 5 v (((ss.take i).flatMap spH))]) (M0 := [(5, .slice none 0 0), (6, .int .i64 0)]) (⟨0, _, rfl, rfl, Nat.zero_le _, hs⟩) (hf.sub ⟨rfl, rfl, rfl, rfl, rfl, trivial⟩) ?_
 clear hf hs a
 rintro M m a w ⟨i, v, rfl, rfl, hi, hs⟩ hf
 refine wp_seq (wp_seq (wp_region_lit ?_))
 refine s_m hf rfl ?_; clear hf a; intro a hf
 refine s_m hf rfl ?_; clear hf a; intro a hf
 refine s_v hf (x_len Tryz.underlying68 (hf.eval rfl)) ?_; clear hf a; intro a hf
 refine s_v hf (x_bin (hf.eval rfl) (hf.eval rfl) (r_lt _ _ _ _)) ?_; clear hf a; intro a hf
 refine s_nil (then_n ?_)
 refine c_cond hf rfl (fun hi0 => ?_) (fun hi0 => ?_)
 ·simp only [zd1, zd2, zd3, zd4, zd5, zd6, zd7] at hi0
  have hlt : i < ss.length := by omega
  obtain ⟨as_, rfl⟩ := hrs.some (by omega)
  obtain ⟨k1, k2, k3, _⟩ := spc_get hss hlt
  have hli : ((ss.take i).flatMap spH).length = 8 * i := by rw [hd_len, List.length_take]; omega
  obtain ⟨av, cv, rfl⟩ := sl_shape hs
  refine wp_skip (then_n (wp_seq (wp_block (wp_seq (wp_region_lit ?_)))))
  refine s_m hf rfl ?_; clear hf a; intro a hf
  refine s_m hf rfl ?_; clear hf a; intro a hf
  refine s_m hf rfl ?_; clear hf a; intro a hf
  refine s_v hf (x_indexAddr sl68 (hf.eval rfl) (hf.eval rfl) (by omega) (by omega)) ?_; clear hf a; intro a hf
  refine s_v hf (x_fieldAddrG fo119_0 (hf.eval rfl)) ?_; clear hf a; intro a hf
  refine s_r hf (x_loadF (k := 0) (i := i) (f := spF) (l := ss) (u := .int .i64 ss[i].1) sc3 (by intro _; rfl) (hs.old hrs) (hf.eval rfl) hlt rfl) ?_; clear hf a; intro a hf
  refine s_do hf rfl (y_call (hf.eval rfl) (hf.evals rfl) Tryz.call87 ((rnum2_spec _ _ _ av cv ((ss.take i).flatMap spH) ss[i].1 (by omega) (by omega) (by omega) hs).mono ?_))
  rintro e w1 ⟨a6, c6, rfl, hs⟩
  refine ⟨_, rfl, ?_⟩; clear hf a; intro a hf
  refine s_a hf rfl ?_; clear hf a; intro a hf
  refine s_nil (then_n ?_)
  refine c_draw hs (fun _ => True) [.held, .held, .held, .held, .held, .read, .held, .held, .held, .held, .read, .held, .eff, .held] (by kernel_rfl) (by kernel_rfl) (fun _ _ _ => trivial) ?_
  clear hs; intro w hs hC hw
  refine m_held hf rfl (fun w' _ => x_move (hf.eval rfl) w') ?_; clear hf a; intro a hf
  refine m_held hf rfl (fun w' _ => x_move (hf.eval rfl) w') ?_; clear hf a; intro a hf
  refine m_held hf rfl (fun w' _ => x_move (hf.eval rfl) w') ?_; clear hf a; intro a hf
  refine m_held hf rfl (fun w' _ => x_indexAddr sl68 (hf.eval rfl) (hf.eval rfl) (by omega) (by omega) w') ?_; clear hf a; intro a hf
  refine m_held hf rfl (fun w' _ => x_fieldAddrG fo119_1 (hf.eval rfl) w') ?_; clear hf a; intro a hf
  refine m_read hf rfl (x_loadF (k := 1) (i := i) (f := spF) (l := ss) (u := .int .i64 ss[i].2) sc3 (by intro _; rfl) (hs.old hrs) (hf.eval rfl) hlt rfl) ?_; clear hf a; intro a hf
  refine m_held hf rfl (fun w' _ => x_move (hf.eval rfl) w') ?_; clear hf a; intro a hf
  refine m_held hf rfl (fun w' _ => x_move (hf.eval rfl) w') ?_; clear hf a; intro a hf
  refine m_held hf rfl (fun w' _ => x_indexAddr sl68 (hf.eval rfl) (hf.eval rfl) (by omega) (by omega) w') ?_; clear hf a; intro a hf
  refine m_held hf rfl (fun w' _ => x_fieldAddrG fo119_0 (hf.eval rfl) w') ?_; clear hf a; intro a hf
  refine m_read hf rfl (x_loadF (k := 0) (i := i) (f := spF) (l := ss) (u := .int .i64 ss[i].1) sc3 (by intro _; rfl) (hs.old hrs) (hf.eval rfl) hlt rfl) ?_; clear hf a; intro a hf
  refine m_held hf rfl (fun w' _ => x_bin (hf.eval rfl) (hf.eval rfl) (r_subi _ (by omega) (by omega)) w') ?_; clear hf a; intro a hf
  refine m_eff hf rfl (y_call (hf.eval rfl) (hf.evals rfl) Tryz.call87 ((rnum2_spec _ _ _ a6 c6 (((ss.take i).flatMap spH) ++ leB 4 ss[i].1.toNat) (ss[i].2 - ss[i].1) (by omega) (by omega) (by rw [List.length_append, leB_len]; omega) hs).mono ?_))
  rintro e w1 ⟨a7, c7, rfl, hs⟩
  refine ⟨_, rfl, ⟨trivial, ?_⟩⟩; clear hf a; intro a hf
  refine m_held hf rfl (fun w' _ => x_assign (hf.eval rfl) w') ?_; clear hf a; intro a hf
  refine m_nil ?_
  refine blk_n (then_n (wp_region_lit ?_))
  refine s_m hf rfl ?_; clear hf a; intro a hf
  refine s_v hf (x_bin (hf.eval rfl) (hf.eval rfl) (r_addi _ (by omega) (by omega))) ?_; clear hf a; intro a hf
  refine s_a hf rfl ?_; clear hf a; intro a hf
  refine s_nil ?_
  exact ⟨_, _, ⟨i + 1, _, rfl, rfl, by omega, by rw [flat_succ hlt]; unfold spH at hs ⊢; rw [← List.append_assoc]; exact hs⟩, by omega, hf.sub ⟨rfl, rfl, rfl, rfl, rfl, trivial⟩⟩
 simp only [zd1, zd2, zd3, zd4, zd5, zd6, zd7] at hi0
 obtain rfl : i = ss.length := by omega
 rw [List.take_length] at hs
 refine wp_exit (then_x (then_x (blk_x (then_n (wp_seq (wp_seq (wp_region_lit ?_)))))))
 refine s_a hf rfl ?_; clear hf a; intro a hf
 refine s_nil (then_n (wp_block ?_))
 refine c_loop (L0 := [(0, _), (1, _), (4, _), (6, _), (8, _), (9, _), (10, _), (11, _)]) (fun M w m => ∃ (i : Nat) (v : Value), M = [(5, v), (7, .int .i64 (i : Int))] ∧ ss.length - i = m ∧ i ≤ ss.length ∧ St ⟨w0, None_⟩ w [slB 5 v ((ss.flatMap spH ++ (ss.take i).flatMap (spD c)))]) (M0 := _) (⟨0, _, rfl, rfl, Nat.zero_le _, by rw [List.take_zero, List.flatMap_nil, List.append_nil]; exact hs⟩) (hf.sub ⟨rfl, rfl, rfl, rfl, rfl, rfl, rfl, rfl, rfl, rfl, trivial⟩) ?_
 clear hf hs a
 rintro M m a w ⟨i, v, rfl, rfl, hi, hs⟩ hf
 refine wp_seq (wp_seq (wp_region_lit ?_))
 refine s_m hf rfl ?_; clear hf a; intro a hf
 refine s_m hf rfl ?_; clear hf a; intro a hf
 refine s_v hf (x_len Tryz.underlying68 (hf.eval rfl)) ?_; clear hf a; intro a hf
 refine s_v hf (x_bin (hf.eval rfl) (hf.eval rfl) (r_lt _ _ _ _)) ?_; clear hf a; intro a hf
 refine s_nil (then_n ?_)
 refine c_cond hf rfl (fun hi1 => ?_) (fun hi1 => ?_)
 ·simp only [zd1, zd2, zd3, zd4, zd5, zd6, zd7] at hi1
  have hlt : i < ss.length := by omega
  obtain ⟨as_, rfl⟩ := hrs.some (by omega)
  obtain ⟨k1, k2, k3, _⟩ := spc_get hss hlt
  have hdi := dat_len (Int.le_refl 0) (spc_take i hss)
  have hls9 := lenS_succ hlt
  have hsl9 := spD_len (c := c) (s := ss[i]) (by omega) k2 k3
  have hmono : lenS (ss.take (i + 1)) ≤ lenS ss := lenS_take _ _
  refine wp_skip (then_n (wp_seq (wp_block ?_)))
  refine c_draw hs (fun _ => True) [.held, .held, .held, .held, .held, .held, .read, .held, .held, .held, .held, .read, .held, .eff, .held] (by kernel_rfl) (by kernel_rfl) (fun _ _ _ => trivial) ?_
  clear hs; intro w hs hC hw
  refine m_held hf rfl (fun w' _ => x_move (hf.eval rfl) w') ?_; clear hf a; intro a hf
  refine m_held hf rfl (fun w' _ => x_move (hf.eval rfl) w') ?_; clear hf a; intro a hf
  refine m_held hf rfl (fun w' _ => x_move (hf.eval rfl) w') ?_; clear hf a; intro a hf
  refine m_held hf rfl (fun w' _ => x_move (hf.eval rfl) w') ?_; clear hf a; intro a hf
  refine m_held hf rfl (fun w' _ => x_indexAddr sl68 (hf.eval rfl) (hf.eval rfl) (by omega) (by omega) w') ?_; clear hf a; intro a hf
  refine m_held hf rfl (fun w' _ => x_fieldAddrG fo119_0 (hf.eval rfl) w') ?_; clear hf a; intro a hf
  refine m_read hf rfl (x_loadF (k := 0) (i := i) (f := spF) (l := ss) (u := .int .i64 ss[i].1) sc3 (by intro _; rfl) (hs.old hrs) (hf.eval rfl) hlt rfl) ?_; clear hf a; intro a hf
  refine m_held hf rfl (fun w' _ => x_move (hf.eval rfl) w') ?_; clear hf a; intro a hf
  refine m_held hf rfl (fun w' _ => x_move (hf.eval rfl) w') ?_; clear hf a; intro a hf
  refine m_held hf rfl (fun w' _ => x_indexAddr sl68 (hf.eval rfl) (hf.eval rfl) (by omega) (by omega) w') ?_; clear hf a; intro a hf
  refine m_held hf rfl (fun w' _ => x_fieldAddrG fo119_1 (hf.eval rfl) w') ?_; clear hf a; intro a hf
  refine m_read hf rfl (x_loadF (k := 1) (i := i) (f := spF) (l := ss) (u := .int .i64 ss[i].2) sc3 (by intro _; rfl) (hs.old hrs) (hf.eval rfl) hlt rfl) ?_; clear hf a; intro a hf
  refine m_held hf rfl (fun w' _ => x_slice sl22 (hf.eval rfl) (hf.eval rfl) (hf.eval rfl)  (by omega) (by omega) (by omega) w') ?_; clear hf a; intro a hf
  replace hf := hf.now (k := 52) (v' := .slice (subA a1 c1 ss[i].1.toNat 1) (spD c ss[i]).length (c1 - ss[i].1.toNat)) rfl (by rw [hsl9]; exact slice_eq rfl (by omega) rfl)
  refine m_eff hf rfl (y_appendB (s := spD c ss[i]) hs sl22 rfl (hf.eval rfl) (hf.eval rfl) .k0 (by unfold spD; exact sub_rd (hs.oldB hr1) (by omega)) (by rw [List.length_append]; omega) ?_); clear hf hs a; intro v2 w hs hv; refine ⟨trivial, ?_⟩; intro a hf
  refine m_held hf rfl (fun w' _ => x_assign (hf.eval rfl) w') ?_; clear hf a; intro a hf
  refine m_nil ?_
  refine blk_n (then_n (wp_region_lit ?_))
  refine s_m hf rfl ?_; clear hf a; intro a hf
  refine s_v hf (x_bin (hf.eval rfl) (hf.eval rfl) (r_addi _ (by omega) (by omega))) ?_; clear hf a; intro a hf
  refine s_a hf rfl ?_; clear hf a; intro a hf
  refine s_nil ?_
  exact ⟨_, _, ⟨i + 1, _, rfl, rfl, by omega, by rw [flat_succ hlt, ← List.append_assoc]; exact hs⟩, by omega, hf.sub ⟨rfl, rfl, rfl, rfl, rfl, rfl, rfl, rfl, rfl, rfl, trivial⟩⟩
 simp only [zd1, zd2, zd3, zd4, zd5, zd6, zd7] at hi1
 obtain rfl : i = ss.length := by omega
 rw [List.take_length] at hs
 refine wp_exit (then_x (then_x (blk_x (then_n (wp_seq (wp_region_lit ?_))))))
 refine s_m hf rfl ?_; clear hf a; intro a hf
 refine s_a hf rfl ?_; clear hf a; intro a hf
 refine s_nil (then_n ?_)
 refine wp_ret ?_
 refine r_1 hf Tryz.results50 rfl ?_
 obtain ⟨ga, gc, rfl⟩ := sl_shape hs
 exact ⟨ga, gc, rfl, hs⟩
attribute [local irreducible] Vw.sl Vw.lkV Vw.runS Vw.opsU Vw.aplR Vw.aplE Vw.updR Vw.filU Vw.seaU Vw.bplU Vw.bodU Vw.savL Vw.secS Vw.wrsU Vw.filZ Vw.upZ Vw.bodyB putO clmB
theorem rput_spec (w0 w : World) (R : List Asrt) (D : Nat) (s : DS) (at_ : Int) (ad : Option Addr) (cd : Nat) (data : List UInt8) (hr : Rdy ⟨w0, None_⟩ R (.slice ad data.length cd) data) (hdl : data.length ≤ 140737488351232) (hs : St ⟨w0, None_⟩ w (refA 88 152 5 3 D s :: R)) (ho : DOk s) (k : Nat) (hb : DB s k) (hk : k ≤ 33000000) : Calls Tryz.prog 55 #[.pointer (some ⟨D, 0, none⟩), .int .i64 at_, .slice ad data.length cd] w fun e w' => e = .returned (.int .i64 (runS s (putO at_ data)).1) ∧ St ⟨w0, None_⟩ w' (refA 88 152 5 3 D (runS s (putO at_ data)).2 :: R) := by
 refine c_enter (N := 20) Tryz.func55 rfl Tryz.ntmps55 (by simp) ?_
 intro a hf
 refine wp_seq (wp_region_lit ?_)
 refine s_a hf rfl ?_; clear hf a; intro a hf
 refine s_nil (then_n (wp_seq (wp_seq (wp_region_lit ?_))))
 refine s_m hf rfl ?_; clear hf a; intro a hf
 refine s_v hf (x_len Tryz.underlying22 (hf.eval rfl)) ?_; clear hf a; intro a hf
 refine s_v hf (x_bin (hf.eval rfl) (hf.eval rfl) (r_gt _ _ _ _)) ?_; clear hf a; intro a hf
 refine s_nil (then_n ?_)
 refine c_cond hf rfl (fun hi0 => ?_) (fun hi0 => ?_)
 ·first | simp only [zd1, zd2, zd3, zd4, ne_eq, Classical.not_not] at hi0 | skip
  have hp : putO at_ data = [(2, at_, data), syO] := putO_no (by rintro rfl; simp at hi0)
  refine wp_seq (wp_region_lit ?_)
  refine s_m hf rfl ?_; clear hf a; intro a hf
  refine s_m hf rfl ?_; clear hf a; intro a hf
  refine s_m hf rfl ?_; clear hf a; intro a hf
  refine s_do hf rfl (y_call (hf.eval rfl) (hf.evals rfl) Tryz.call57 ((rWrite_spec _ _ _ D s hs at_ ad cd data hr hdl ho (by have := hb.calls; omega) (by have := hb.pcs; omega) (by have := hb.sizes; omega)).mono ?_))
  rintro e w1 ⟨rfl, hs⟩
  rw [← co_wr] at hs ⊢
  obtain ⟨t, ht⟩ : ∃ t, t = (coS s (2, at_, data)).2 := ⟨_, rfl⟩
  have hto := coS_ok ho (2, at_, data)
  have htb := coS_b ho hb (2, at_, data)
  rw [← ht] at hs hto htb
  refine ⟨_, rfl, ?_⟩; clear hf a; intro a hf
  refine s_a hf rfl ?_; clear hf a; intro a hf
  refine s_nil (then_n (wp_seq (wp_region_lit ?_)))
  refine s_m hf rfl ?_; clear hf a; intro a hf
  refine s_v hf (x_bin (hf.eval rfl) (hf.eval rfl) (r_ne _ _ _ _)) ?_; clear hf a; intro a hf
  refine s_nil (then_n ?_)
  refine c_cond hf rfl (fun hi1 => ?_) (fun hi1 => ?_)
  ·first | simp only [zd1, zd2, zd3, zd4, ne_eq, Classical.not_not] at hi1 | skip
   refine wp_seq (wp_region_lit ?_)
   refine s_m hf rfl ?_; clear hf a; intro a hf
   refine s_a hf rfl ?_; clear hf a; intro a hf
   refine s_nil (then_n ?_)
   refine wp_ret ?_
   refine then_r ?_
   refine r_1 hf Tryz.results55 rfl ?_
   rw [hp, runS2_bad hi1, ← ht]
   exact ⟨rfl, hs⟩
  first | simp only [zd1, zd2, zd3, zd4, ne_eq, Classical.not_not] at hi1 | skip
  refine wp_skip (then_n (wp_seq (wp_region_lit ?_)))
  refine s_m hf rfl ?_; clear hf a; intro a hf
  refine s_do hf rfl (y_call (hf.eval rfl) (hf.evals rfl) Tryz.call12 ((rSync_spec _ _ _ D t hs hto (by have := htb.calls; omega) (by have := htb.pcs; omega) (by have := htb.sizes; omega)).mono ?_))
  rintro e w1 ⟨rfl, hs⟩
  rw [← co_sy] at hs ⊢
  refine ⟨_, rfl, ?_⟩; clear hf a; intro a hf
  refine s_a hf rfl ?_; clear hf a; intro a hf
  refine s_nil (then_n ?_)
  refine wp_ret ?_
  refine r_1 hf Tryz.results55 rfl ?_
  first | (rw [hp, runS2_ok hi1, ← ht]; exact ⟨rfl, hs⟩) | (rw [hp, runS_one, ← ht]; exact ⟨rfl, hs⟩)
 first | simp only [zd1, zd2, zd3, zd4, ne_eq, Classical.not_not] at hi0 | skip
 have hp : putO at_ data = [syO] := by unfold putO; rw [if_pos (List.eq_nil_of_length_eq_zero (by omega))]
 obtain ⟨t, ht⟩ : ∃ t, t = s := ⟨_, rfl⟩
 have hto := ho
 have htb := hb.up (Nat.le_succ k)
 rw [← ht] at hs hto htb
 refine wp_skip (then_n (wp_seq (wp_region_lit ?_)))
 refine s_m hf rfl ?_; clear hf a; intro a hf
 refine s_do hf rfl (y_call (hf.eval rfl) (hf.evals rfl) Tryz.call12 ((rSync_spec _ _ _ D t hs hto (by have := htb.calls; omega) (by have := htb.pcs; omega) (by have := htb.sizes; omega)).mono ?_))
 rintro e w1 ⟨rfl, hs⟩
 rw [← co_sy] at hs ⊢
 refine ⟨_, rfl, ?_⟩; clear hf a; intro a hf
 refine s_a hf rfl ?_; clear hf a; intro a hf
 refine s_nil (then_n ?_)
 refine wp_ret ?_
 refine r_1 hf Tryz.results55 rfl ?_
 first | (rw [hp, runS2_ok hi1, ← ht]; exact ⟨rfl, hs⟩) | (rw [hp, runS_one, ← ht]; exact ⟨rfl, hs⟩)
theorem rrefused_spec (w0 w : World) (R : List Asrt) (D : Nat) (s : DS) (hs : St ⟨w0, None_⟩ w (refA 88 152 5 3 D s :: R)) (ho : DOk s) (seq size : Int) (aw : Option Addr) (cw : Nat) (ws : List Wr) (hrw : RdS wF 2 (hp w0) (.slice aw ws.length cw) ws) (hlw : ws.length ≤ 1048576) (hgd : ∀ z ∈ ws, RdB (hp w0) (.slice z.2.1 z.2.2.2.length z.2.2.1) z.2.2.2 ∧ z.2.2.2.length ≤ 1048576) : Calls Tryz.prog 49 #[.pointer (some ⟨D, 0, none⟩), .int .i64 seq, .int .i64 size, .slice aw ws.length cw] w fun e w' => e = .returned (.int .i64 (refE s seq size ws)) ∧ St ⟨w0, None_⟩ w' (refA 88 152 5 3 D s :: R) := by
 have hnw := ho.now
 have hrm := ho.room1
 refine c_enter (N := 63) Tryz.func49 rfl Tryz.ntmps49 (by simp) ?_
 intro a hf
 refine wp_seq (wp_region_lit ?_)
 refine s_a hf rfl ?_; clear hf a; intro a hf
 refine s_nil (then_n (wp_seq (wp_seq (wp_region_lit ?_))))
 refine s_m hf rfl ?_; clear hf a; intro a hf
 refine s_v hf (x_eqNil Tryz.underlying28 (hf.eval rfl) (hf.eval rfl)) ?_; clear hf a; intro a hf
 replace hf := hf.now (k := 16) (v' := .bool false) rfl rfl
 refine s_m hf rfl ?_; clear hf a; intro a hf
 refine s_do hf (wanted_of hf rfl rfl rfl) (.value (x_move (hf.eval rfl) _) ?_); clear hf a; intro a hf
 refine s_do hf (wanted_of hf rfl rfl rfl) (y_call (hf.eval rfl) (hf.evals rfl) Tryz.call84 ((inField_spec _ _).mono ?_))
 rintro e w1 ⟨rfl, hw9⟩
 rw [hw9]
 clear hw9 w1
 refine ⟨_, rfl, ?_⟩; clear hf a; intro a hf
 refine s_do hf (wanted_of hf rfl rfl rfl) (.value (x_not (hf.eval rfl) _) ?_); clear hf a; intro a hf
 refine s_v hf (x_pick_f (hf.eval rfl) (hf.eval rfl)) ?_; clear hf a; intro a hf
 refine s_m hf rfl ?_; clear hf a; intro a hf
 refine s_bool hf (k := 22) rfl (fun hg1_7 hf' => ?_) (fun hg1_7 hf' => ?_)
 ·clear hf
  have hf := hf'
  clear hf'
  simp only [Bool.not_not, Bool.not_eq_true', Bool.not_eq_false'] at hg1_7
  refine s_pass hf rfl rfl ?_; clear hf a; intro a hf
  refine s_pass hf rfl rfl ?_; clear hf a; intro a hf
  refine s_pass hf rfl rfl ?_; clear hf a; intro a hf
  refine s_v hf (x_pick_t (hf.eval rfl) (hf.eval rfl)) ?_; clear hf a; intro a hf
  refine s_nil (then_n ?_)
  refine c_cond_t hf rfl rfl ?_
  refine wp_seq (wp_region_lit ?_)
  refine s_a hf rfl ?_; clear hf a; intro a hf
  refine s_nil (then_n ?_)
  refine wp_ret ?_
  refine then_r ?_
  refine r_1 hf Tryz.results49 rfl ?_
  have hE : refE s seq size ws = 1 := by unfold refE; rw [if_pos (by first | (unfold inF at hg1_7; have h9 := of_decide_eq_false hg1_7; omega) | omega)]
  rw [hE]
  replace hs := hs.take (A := refA 88 152 5 3 D s) (by repeat constructor)
  first | exact ⟨rfl, hs⟩ | exact ⟨rfl, St.cut [_] [_] hs⟩ | exact ⟨rfl, St.cut [_] [_, _] hs⟩
 clear hf
 have hf := hf'
 clear hf'
 simp only [Bool.not_not, Bool.not_eq_true', Bool.not_eq_false'] at hg1_7
 refine s_do hf (wanted_of hf rfl rfl rfl) (.value (x_move (hf.eval rfl) _) ?_); clear hf a; intro a hf
 refine s_do hf (wanted_of hf rfl rfl rfl) (y_call (hf.eval rfl) (hf.evals rfl) Tryz.call85 ((inSize_spec _ _).mono ?_))
 rintro e w1 ⟨rfl, hw9⟩
 rw [hw9]
 clear hw9 w1
 refine ⟨_, rfl, ?_⟩; clear hf a; intro a hf
 refine s_do hf (wanted_of hf rfl rfl rfl) (.value (x_not (hf.eval rfl) _) ?_); clear hf a; intro a hf
 refine s_v hf (x_pick_f (hf.eval rfl) (hf.eval rfl)) ?_; clear hf a; intro a hf
 refine s_nil (then_n ?_)
 refine c_cond hf rfl (fun hi0 => ?_) (fun hi0 => ?_)
 ·first | simp only [zd1, zd2, zd3, zd4, ne_eq, Classical.not_not] at hi0 | skip
  refine wp_seq (wp_region_lit ?_)
  refine s_a hf rfl ?_; clear hf a; intro a hf
  refine s_nil (then_n ?_)
  refine wp_ret ?_
  refine then_r ?_
  refine r_1 hf Tryz.results49 rfl ?_
  have hE : refE s seq size ws = 1 := by unfold refE; rw [if_pos (by first | (unfold inF at hg1_7; have h9 := of_decide_eq_false hg1_7; omega) | omega)]
  rw [hE]
  replace hs := hs.take (A := refA 88 152 5 3 D s) (by repeat constructor)
  first | exact ⟨rfl, hs⟩ | exact ⟨rfl, St.cut [_] [_] hs⟩ | exact ⟨rfl, St.cut [_] [_, _] hs⟩
 first | simp only [zd1, zd2, zd3, zd4, ne_eq, Classical.not_not] at hi0 | skip
 have hq1 : ¬ (seq < 0 ∨ 4294967295 < seq ∨ ¬ (0 ≤ size ∧ size ≤ 16777216)) := by unfold inF at hg1_7; have h9 := of_decide_eq_true hg1_7; omega
 refine wp_skip (then_n (wp_seq (wp_region_lit ?_)))
 refine s_m hf rfl ?_; clear hf a; intro a hf
 refine s_do hf rfl (y_call (hf.eval rfl) (hf.evals rfl) Tryz.call61 ((rAlive_spec _ _ _ D s hs).mono ?_))
 rintro e w1 ⟨rfl, hw9⟩
 rw [hw9]
 clear hw9 w1
 refine ⟨_, rfl, ?_⟩; clear hf a; intro a hf
 refine s_a hf rfl ?_; clear hf a; intro a hf
 refine s_nil (then_n (wp_seq (wp_seq (wp_region_lit ?_))))
 refine s_m hf rfl ?_; clear hf a; intro a hf
 refine s_v hf (x_not (hf.eval rfl)) ?_; clear hf a; intro a hf
 refine s_nil (then_n ?_)
 refine c_cond hf rfl (fun hi1 => ?_) (fun hi1 => ?_)
 ·simp only [Bool.not_not, Bool.not_eq_true', Bool.not_eq_false'] at hi1
  refine wp_seq (wp_region_lit ?_)
  refine s_a hf rfl ?_; clear hf a; intro a hf
  refine s_nil (then_n ?_)
  refine wp_ret ?_
  refine then_r ?_
  refine r_1 hf Tryz.results49 rfl ?_
  have hE : refE s seq size ws = 12 := by unfold refE; rw [if_neg hq1, if_pos hi1]
  rw [hE]
  replace hs := hs.take (A := refA 88 152 5 3 D s) (by repeat constructor)
  first | exact ⟨rfl, hs⟩ | exact ⟨rfl, St.cut [_] [_] hs⟩ | exact ⟨rfl, St.cut [_] [_, _] hs⟩
 simp only [Bool.not_not, Bool.not_eq_true', Bool.not_eq_false'] at hi1
 refine wp_skip (then_n (wp_seq (wp_region_lit ?_)))
 refine s_m hf rfl ?_; clear hf a; intro a hf
 refine s_do hf rfl (y_call (hf.eval rfl) (hf.evals rfl) Tryz.call22 ((rImage_spec _ _ _ D s hs (by omega)).mono ?_))
 rintro e w1 ⟨ai, ci, rfl, hs⟩
 refine ⟨_, rfl, ?_⟩; clear hf a; intro a hf
 refine s_a hf rfl ?_; clear hf a; intro a hf
 refine s_nil (then_n (wp_seq (wp_region_lit ?_)))
 refine s_m hf rfl ?_; clear hf a; intro a hf
 refine s_m hf rfl ?_; clear hf a; intro a hf
 refine s_m hf rfl ?_; clear hf a; intro a hf
 refine s_do hf rfl (y_call (hf.eval rfl) (hf.evals rfl) Tryz.call69 ((rapply_spec _ ai ci s.now (hs.rdB .k0 fun h => slB_rd) (by omega) size aw cw ws (hs.old hrw) hlw (fun z hz => ⟨hs.oldB (hgd z hz).1, (hgd z hz).2⟩) (aplR s.now size ws) rfl (aplE s.now.length size ws) rfl).mono ?_))
 rintro e w1 ⟨ga, gc, rfl, hj⟩
 replace hs := hs.join hj
 simp only [List.cons_append, List.nil_append] at hs
 refine ⟨_, rfl, ?_⟩; clear hf a; intro a hf
 refine s_m hf rfl ?_; clear hf a; intro a hf
 refine s_v hf (x_extract (hf.eval rfl) rfl) ?_; clear hf a; intro a hf
 refine s_v hf (x_extract (hf.eval rfl) rfl) ?_; clear hf a; intro a hf
 refine s_a hf rfl ?_; clear hf a; intro a hf
 refine s_a hf rfl ?_; clear hf a; intro a hf
 refine s_nil (then_n (wp_seq (wp_seq (wp_region_lit ?_))))
 refine s_m hf rfl ?_; clear hf a; intro a hf
 refine s_v hf (x_bin (hf.eval rfl) (hf.eval rfl) (r_ne _ _ _ _)) ?_; clear hf a; intro a hf
 refine s_nil (then_n ?_)
 refine c_cond hf rfl (fun hi2 => ?_) (fun hi2 => ?_)
 ·first | simp only [zd1, zd2, zd3, zd4, ne_eq, Classical.not_not] at hi2 | skip
  refine wp_seq (wp_region_lit ?_)
  refine s_m hf rfl ?_; clear hf a; intro a hf
  refine s_a hf rfl ?_; clear hf a; intro a hf
  refine s_nil (then_n ?_)
  refine wp_ret ?_
  refine then_r ?_
  refine r_1 hf Tryz.results49 rfl ?_
  have hE : refE s seq size ws = aplE s.now.length size ws := by unfold refE; rw [if_neg hq1, if_neg (by rw [hi1]; simp), if_pos hi2]
  rw [hE]
  replace hs := hs.take (A := refA 88 152 5 3 D s) (by repeat constructor)
  first | exact ⟨rfl, hs⟩ | exact ⟨rfl, St.cut [_] [_] hs⟩ | exact ⟨rfl, St.cut [_] [_, _] hs⟩
 first | simp only [zd1, zd2, zd3, zd4, ne_eq, Classical.not_not] at hi2 | skip
 obtain ⟨u1, u2, u3⟩ := aplE_0 hi2
 have hVl := aplR_len s.now size ws
 refine wp_skip (then_n (wp_seq (wp_seq (wp_region_lit ?_))))
 refine s_m hf rfl ?_; clear hf a; intro a hf
 refine s_do hf rfl (y_call (hf.eval rfl) (hf.evals rfl) Tryz.call35 ((rquiet_spec _ _ _ s.now (hs.rdB (A := slB 5 (.slice ai s.now.length ci) s.now) (by repeat constructor) fun h => slB_rd) (by omega)).mono ?_))
 rintro e w1 ⟨rfl, hk⟩
 replace hs := hs.ext hk
 refine ⟨_, rfl, ?_⟩; clear hf a; intro a hf
 refine s_v hf (x_not (hf.eval rfl)) ?_; clear hf a; intro a hf
 refine s_m hf rfl ?_; clear hf a; intro a hf
 refine s_bool hf (k := 46) rfl (fun hg10_3 hf' => ?_) (fun hg10_3 hf' => ?_)
 ·clear hf
  have hf := hf'
  clear hf'
  first | simp only [zd1, zd2, zd3, zd4, ne_eq, Classical.not_not] at hg10_3 | skip
  refine s_pass hf rfl rfl ?_; clear hf a; intro a hf
  refine s_pass hf rfl rfl ?_; clear hf a; intro a hf
  refine s_pass hf rfl rfl ?_; clear hf a; intro a hf
  refine s_v hf (x_pick_t (hf.eval rfl) (hf.eval rfl)) ?_; clear hf a; intro a hf
  refine s_nil (then_n ?_)
  refine c_cond_t hf rfl rfl ?_
  refine wp_seq (wp_region_lit ?_)
  refine s_a hf rfl ?_; clear hf a; intro a hf
  refine s_nil (then_n ?_)
  refine wp_ret ?_
  refine then_r ?_
  refine r_1 hf Tryz.results49 rfl ?_
  have hE : refE s seq size ws = 141 := by unfold refE; rw [if_neg hq1, if_neg (by rw [hi1]; simp), if_neg (fun h => h hi2), if_pos (by first | exact .inl hg10_3 | exact .inr hi3)]
  rw [hE]
  replace hs := hs.take (A := refA 88 152 5 3 D s) (by repeat constructor)
  first | exact ⟨rfl, hs⟩ | exact ⟨rfl, St.cut [_] [_] hs⟩ | exact ⟨rfl, St.cut [_] [_, _] hs⟩
 clear hf
 have hf := hf'
 clear hf'
 first | simp only [zd1, zd2, zd3, zd4, ne_eq, Classical.not_not] at hg10_3 | skip
 refine s_do hf (wanted_of hf rfl rfl rfl) (.value (x_move (hf.eval rfl) _) ?_); clear hf a; intro a hf
 refine s_do hf (wanted_of hf rfl rfl rfl) (y_call (hf.eval rfl) (hf.evals rfl) Tryz.call35 ((rquiet_spec _ _ _ (aplR s.now size ws) (hs.rdB (A := slB 5 (.slice ga (aplR s.now size ws).length gc) (aplR s.now size ws)) (by repeat constructor) fun h => slB_rd) (by omega)).mono ?_))
 rintro e w1 ⟨rfl, hk⟩
 replace hs := hs.ext hk
 refine ⟨_, rfl, ?_⟩; clear hf a; intro a hf
 refine s_do hf (wanted_of hf rfl rfl rfl) (.value (x_not (hf.eval rfl) _) ?_); clear hf a; intro a hf
 refine s_v hf (x_pick_f (hf.eval rfl) (hf.eval rfl)) ?_; clear hf a; intro a hf
 refine s_nil (then_n ?_)
 refine c_cond hf rfl (fun hi3 => ?_) (fun hi3 => ?_)
 ·first | simp only [zd1, zd2, zd3, zd4, ne_eq, Classical.not_not] at hi3 | skip
  refine wp_seq (wp_region_lit ?_)
  refine s_a hf rfl ?_; clear hf a; intro a hf
  refine s_nil (then_n ?_)
  refine wp_ret ?_
  refine then_r ?_
  refine r_1 hf Tryz.results49 rfl ?_
  have hE : refE s seq size ws = 141 := by unfold refE; rw [if_neg hq1, if_neg (by rw [hi1]; simp), if_neg (fun h => h hi2), if_pos (by first | exact .inl hg10_3 | exact .inr hi3)]
  rw [hE]
  replace hs := hs.take (A := refA 88 152 5 3 D s) (by repeat constructor)
  first | exact ⟨rfl, hs⟩ | exact ⟨rfl, St.cut [_] [_] hs⟩ | exact ⟨rfl, St.cut [_] [_, _] hs⟩
 first | simp only [zd1, zd2, zd3, zd4, ne_eq, Classical.not_not] at hi3 | skip
 refine wp_skip (then_n (wp_seq (wp_region_lit ?_)))
 refine s_m hf rfl ?_; clear hf a; intro a hf
 refine s_v hf (x_len Tryz.underlying22 (hf.eval rfl)) ?_; clear hf a; intro a hf
 refine s_m hf rfl ?_; clear hf a; intro a hf
 refine s_m hf rfl ?_; clear hf a; intro a hf
 refine s_do hf rfl (y_call (hf.eval rfl) (hf.evals rfl) Tryz.call70 ((rneed_all _ s.now.length size aw cw ws (hs.old hrw) hlw).mono ?_))
 rintro e w1 ⟨rfl, hk9⟩
 replace hs := hs.ext hk9
 rw [if_pos hi2, fil_fil u3]
 refine ⟨_, rfl, ?_⟩; clear hf a; intro a hf
 refine s_m hf rfl ?_; clear hf a; intro a hf
 refine s_v hf (x_extract (hf.eval rfl) rfl) ?_; clear hf a; intro a hf
 refine s_v hf (x_extract (hf.eval rfl) rfl) ?_; clear hf a; intro a hf
 refine s_a hf rfl ?_; clear hf a; intro a hf
 refine s_a hf rfl ?_; clear hf a; intro a hf
 refine s_nil (then_n (wp_seq (wp_seq (wp_region_lit ?_))))
 refine s_m hf rfl ?_; clear hf a; intro a hf
 refine s_m hf rfl ?_; clear hf a; intro a hf
 replace hs := hs.take (A := refA 88 152 5 3 D s) (by repeat constructor)
 refine s_do hf rfl (y_call (hf.eval rfl) (hf.evals rfl) Tryz.call86 ((rCapacity_spec _ _ _ D s hs).mono ?_))
 rintro e w1 ⟨rfl, hw9⟩
 rw [hw9]
 clear hw9 w1
 refine ⟨_, rfl, ?_⟩; clear hf a; intro a hf
 refine s_v hf (x_bin (hf.eval rfl) (hf.eval rfl) (r_gt _ _ _ _)) ?_; clear hf a; intro a hf
 refine s_nil (then_n ?_)
 refine c_cond hf rfl (fun hi4 => ?_) (fun hi4 => ?_)
 ·first | simp only [zd1, zd2, zd3, zd4, ne_eq, Classical.not_not] at hi4 | skip
  refine wp_seq (wp_region_lit ?_)
  refine s_a hf rfl ?_; clear hf a; intro a hf
  refine s_nil (then_n ?_)
  refine wp_ret ?_
  refine then_r ?_
  refine r_1 hf Tryz.results49 rfl ?_
  have hE : refE s seq size ws = 142 := by unfold refE; rw [if_neg hq1, if_neg (by rw [hi1]; simp), if_neg (fun h => h hi2), if_neg (by rintro (h | h); exact h hg10_3; exact h hi3), if_pos (by omega)]
  rw [hE]
  replace hs := hs.take (A := refA 88 152 5 3 D s) (by repeat constructor)
  first | exact ⟨rfl, hs⟩ | exact ⟨rfl, St.cut [_] [_] hs⟩ | exact ⟨rfl, St.cut [_] [_, _] hs⟩
 first | simp only [zd1, zd2, zd3, zd4, ne_eq, Classical.not_not] at hi4 | skip
 refine wp_skip (then_n (wp_seq (wp_region_lit ?_)))
 refine s_a hf rfl ?_; clear hf a; intro a hf
 refine s_nil (then_n ?_)
 refine wp_ret ?_
 refine r_1 hf Tryz.results49 rfl ?_
 have hE : refE s seq size ws = 0 := by unfold refE; rw [if_neg hq1, if_neg (by rw [hi1]; simp), if_neg (fun h => h hi2), if_neg (by rintro (h | h); exact h hg10_3; exact h hi3), if_neg (by omega)]
 rw [hE]
 replace hs := hs.take (A := refA 88 152 5 3 D s) (by repeat constructor)
 first | exact ⟨rfl, hs⟩ | exact ⟨rfl, St.cut [_] [_] hs⟩ | exact ⟨rfl, St.cut [_] [_, _] hs⟩
theorem rupdate_spec (w0 w : World) (R : List Asrt) (D : Nat) (s : DS) (hs : St ⟨w0, None_⟩ w (refA 88 152 5 3 D s :: R)) (ho : DOk s) (k : Nat) (hb : DB s k) (hk : k ≤ 28000000) (seq size : Int) (aw : Option Addr) (cw : Nat) (ws : List Wr) (hrw : RdS wF 2 (hp w0) (.slice aw ws.length cw) ws) (hlw : ws.length ≤ 1048576) (hgd : ∀ z ∈ ws, RdB (hp w0) (.slice z.2.1 z.2.2.2.length z.2.2.1) z.2.2.2 ∧ z.2.2.2.length ≤ 1048576) : Calls Tryz.prog 14 #[.pointer (some ⟨D, 0, none⟩), .int .i64 seq, .int .i64 size, .slice aw ws.length cw] w fun e w' => e = .returned (.int .i64 (updR s seq size ws).1) ∧ St ⟨w0, None_⟩ w' (refA 88 152 5 3 D (updR s seq size ws).2 :: R) := by
 have hnw := ho.now
 have hrm := ho.room1
 refine c_enter (N := 146) Tryz.func14 rfl Tryz.ntmps14 (by simp) ?_
 intro a hf
 refine wp_seq (wp_region_lit ?_)
 refine s_a hf rfl ?_; clear hf a; intro a hf
 refine s_nil (then_n (wp_seq (wp_region_lit ?_)))
 refine s_m hf rfl ?_; clear hf a; intro a hf
 refine s_m hf rfl ?_; clear hf a; intro a hf
 refine s_m hf rfl ?_; clear hf a; intro a hf
 refine s_m hf rfl ?_; clear hf a; intro a hf
 refine s_do hf rfl (y_call (hf.eval rfl) (hf.evals rfl) Tryz.call49 ((rrefused_spec w0 _ _ D s hs ho seq size aw cw ws hrw hlw hgd).mono ?_))
 rintro e w1 ⟨rfl, hs⟩
 refine ⟨_, rfl, ?_⟩; clear hf a; intro a hf
 refine s_a hf rfl ?_; clear hf a; intro a hf
 refine s_nil (then_n (wp_seq (wp_seq (wp_region_lit ?_))))
 refine s_m hf rfl ?_; clear hf a; intro a hf
 refine s_v hf (x_bin (hf.eval rfl) (hf.eval rfl) (r_ne _ _ _ _)) ?_; clear hf a; intro a hf
 refine s_nil (then_n ?_)
 refine c_cond hf rfl (fun hi0 => ?_) (fun hi0 => ?_)
 ·first | simp only [zd1, zd2, zd3, zd4, ne_eq, Classical.not_not] at hi0 | skip
  refine wp_seq (wp_region_lit ?_)
  refine s_m hf rfl ?_; clear hf a; intro a hf
  refine s_a hf rfl ?_; clear hf a; intro a hf
  refine s_nil (then_n ?_)
  refine wp_ret ?_
  refine then_r ?_
  refine r_1 hf Tryz.results14 rfl ?_
  have e9 : updR s seq size ws = (refE s seq size ws, s) := by unfold updR; rw [if_pos hi0]
  rw [e9]
  exact ⟨rfl, hs⟩
 first | simp only [zd1, zd2, zd3, zd4, ne_eq, Classical.not_not] at hi0 | skip
 obtain ⟨hUo, hro, q1, q4, q5, hd⟩ := ref_facts hi0 (by omega)
 obtain ⟨F, bp, kg, g⟩ := geo hUo
 have g1 := g.fil
 have g2 := g.sea
 have g3 := g.bpl
 have g4 := g.b1
 have g5 := g.b2
 have g6 := g.s1
 obtain ⟨u1, u2, u3⟩ := aplE_0 q1
 have hup : updR s seq size ws = runS s (opsU s.now seq size ws) := by unfold updR; rw [if_neg (by simp [hi0])]
 rw [opsU_put] at hup
 have hok : ∀ z ∈ ws, 0 ≤ z.1 ∧ z.1 + wL z ≤ 16777216 := fun z hz => by have h8 := rgt_all size ws 0 (Int.le_refl _) u3 z hz; omega
 have hsv := savL_len (s.now.length : Int) ws
 have hse0 : 0 ≤ (seaU s.now size ws) := by rw [g2]; exact Int.natCast_nonneg _
 refine wp_skip (then_n (wp_seq (wp_region_lit ?_)))
 refine s_m hf rfl ?_; clear hf a; intro a hf
 refine s_do hf rfl (y_call (hf.eval rfl) (hf.evals rfl) Tryz.call22 ((rImage_spec _ _ _ D s hs (by omega)).mono ?_))
 rintro e w1 ⟨ai, ci, rfl, hs⟩
 refine ⟨_, rfl, ?_⟩; clear hf a; intro a hf
 refine s_a hf rfl ?_; clear hf a; intro a hf
 refine s_nil (then_n (wp_seq (wp_region_lit ?_)))
 refine s_m hf rfl ?_; clear hf a; intro a hf
 refine s_v hf (x_len Tryz.underlying22 (hf.eval rfl)) ?_; clear hf a; intro a hf
 refine s_m hf rfl ?_; clear hf a; intro a hf
 refine s_do hf rfl (y_call (hf.eval rfl) (hf.evals rfl) Tryz.call32 ((spans_spec _ (s.now.length : Int) (by omega) (by omega) aw cw ws (hs.old hrw) hlw hok).mono ?_))
 rintro e w1 ⟨vs, rfl, hj⟩
 replace hs := hs.join hj
 simp only [List.cons_append, List.nil_append] at hs
 obtain ⟨avs, cvs, rfl⟩ := sl_shape hs
 refine ⟨_, rfl, ?_⟩; clear hf a; intro a hf
 refine s_a hf rfl ?_; clear hf a; intro a hf
 refine s_nil (then_n (wp_seq (wp_region_lit ?_)))
 refine s_m hf rfl ?_; clear hf a; intro a hf
 refine s_m hf rfl ?_; clear hf a; intro a hf
 refine s_do hf rfl (y_call (hf.eval rfl) (hf.evals rfl) Tryz.call50 ((rBody_spec _ ai ci s.now (hs.rdB (A := slB 5 (.slice ai s.now.length ci) s.now) (by repeat constructor) fun h => slB_rd) (by omega) avs cvs (savL (s.now.length : Int) ws) (hs.rd .k0 fun h hh => sl_rd hh) (by omega) (sav_spc u3)).mono ?_))
 rintro e w1 ⟨gb, gcb, rfl, hj⟩
 replace hs := hs.join hj
 simp only [List.cons_append, List.nil_append] at hs
 rw [bodU_def] at hs ⊢
 have hbl : (bodU s.now ws).length ≤ 33554432 := by omega
 refine ⟨_, rfl, ?_⟩; clear hf a; intro a hf
 refine s_a hf rfl ?_; clear hf a; intro a hf
 refine s_nil (then_n (wp_seq (wp_region_lit ?_)))
 refine s_m hf rfl ?_; clear hf a; intro a hf
 refine s_v hf (x_len Tryz.underlying22 (hf.eval rfl)) ?_; clear hf a; intro a hf
 refine s_m hf rfl ?_; clear hf a; intro a hf
 refine s_m hf rfl ?_; clear hf a; intro a hf
 refine s_v hf (x_len Tryz.underlying22 (hf.eval rfl)) ?_; clear hf a; intro a hf
 refine s_do hf rfl (y_call (hf.eval rfl) (hf.evals rfl) Tryz.call51 ((file_spec _ (s.now.length : Int) size ((bodU s.now ws).length : Int) (by omega) (by omega) (by omega) (by omega) (by omega) (by omega)).mono ?_))
 rintro e w1 ⟨rfl, hk9⟩
 replace hs := hs.ext hk9
 rw [← filU_def]
 refine ⟨_, rfl, ?_⟩; clear hf a; intro a hf
 refine s_a hf rfl ?_; clear hf a; intro a hf
 refine s_nil (then_n (wp_seq (wp_region_lit ?_)))
 refine s_m hf rfl ?_; clear hf a; intro a hf
 refine s_m hf rfl ?_; clear hf a; intro a hf
 refine s_v hf (x_len Tryz.underlying22 (hf.eval rfl)) ?_; clear hf a; intro a hf
 refine s_m hf rfl ?_; clear hf a; intro a hf
 refine s_m hf rfl ?_; clear hf a; intro a hf
 refine s_v hf (x_len Tryz.underlying68 (hf.eval rfl)) ?_; clear hf a; intro a hf
 refine s_m hf rfl ?_; clear hf a; intro a hf
 refine s_v hf (x_len Tryz.underlying22 (hf.eval rfl)) ?_; clear hf a; intro a hf
 refine s_m hf rfl ?_; clear hf a; intro a hf
 refine s_do hf rfl (y_call (hf.eval rfl) (hf.evals rfl) Tryz.call52 ((refSum_spec _ _ _ (bodU s.now ws) (hs.rdB (A := slB 5 (.slice gb (bodU s.now ws).length gcb) (bodU s.now ws)) (by repeat constructor) fun h => slB_rd) (by omega)).mono ?_))
 rintro e w1 ⟨rfl, hk⟩
 replace hs := hs.ext hk
 refine ⟨_, rfl, ?_⟩; clear hf a; intro a hf
 refine s_r hf (x_build (v := .agg (slF (slU 2 seq s.now size ws)).toArray) (hf.parts rfl) (fun w => by kernel_rfl) _) ?_; clear hf a; intro a hf
 refine s_do hf rfl (y_alloc hs Tryz.zeroValue99 ?_); clear hf hs a; intro b14 w hs a hf
 change St _ _ (cb b14 99 (slF (0, 0, 0, 0, 0, 0, 0)) :: _) at hs
 refine s_do0 hf rfl (y_storeAgg (cs := slF (slU 2 seq s.now size ws)) hs (n := 7) (by kernel_rfl) (hf.eval rfl) (hf.eval rfl) (by simp [Value.oneCell', slF]) rfl rfl .k0 ?_); clear hf hs a; intro w hs a hf
 refine s_nil (then_n (wp_seq (wp_region_lit ?_)))
 refine s_r hf (x_loadBlk hs ag99 (hf.eval rfl) rfl (by repeat constructor)) ?_; clear hf a; intro a hf
 refine s_do hf rfl (y_call (hf.eval rfl) (hf.evals rfl) Tryz.call53 ((rencode_spec _ (slU 2 seq s.now size ws) (crcU_lt0 _)).mono ?_))
 rintro e w1 ⟨e1, ce1, rfl, hj⟩
 replace hs := hs.join hj
 simp only [List.cons_append, List.nil_append] at hs
 obtain ⟨ec1, ec2⟩ := enc_ok (slU_ok hUo (st := 2) (by omega) (by omega))
 rw [ec2] at hs ⊢
 refine ⟨_, rfl, ?_⟩; clear hf a; intro a hf
 refine s_m hf rfl ?_; clear hf a; intro a hf
 refine s_v hf (x_extract (hf.eval rfl) rfl) ?_; clear hf a; intro a hf
 refine s_v hf (x_extract (hf.eval rfl) rfl) ?_; clear hf a; intro a hf
 refine s_a hf rfl ?_; clear hf a; intro a hf
 refine s_a hf rfl ?_; clear hf a; intro a hf
 refine s_nil (then_n (wp_seq (wp_block ?_)))
 rw [secS_len] at hs
 obtain ⟨N0, hN0⟩ : ∃ N0, N0 = ((filU s.now size ws) - (seaU s.now size ws) - 512).toNat := ⟨_, rfl⟩
 replace hs := hs.take (A := cb b14 99 (slF (slU 2 seq s.now size ws))) (by repeat constructor)
 replace hs := hs.take (A := slB 5 (.slice gb (bodU s.now ws).length gcb) (bodU s.now ws)) (by repeat constructor)
 replace hs := hs.take (A := slB 5 (.slice e1 512 ce1) (secS (slU 2 seq s.now size ws))) (by repeat constructor)
 replace hs := hs.take (A := refA 88 152 5 3 D s) (by repeat constructor)
 replace hs := St.cut [_, _, _, _] [_, _] hs
 replace hf := hf.now (k := 15) (v' := .slice e1 (512 + 0) ce1) rfl (by rw [secS_len]; rfl)
 refine c_loop (L0 := [(0, _), (2, _), (3, _), (8, _), (9, _), (10, _), (12, _), (13, _), (14, _)]) (fun M w m => ∃ (j : Nat) (af : Option Addr) (cf : Nat), M = [(15, .slice af (512 + j) cf)] ∧ N0 - j = m ∧ j ≤ N0 ∧ St ⟨w0, None_⟩ w (refA 88 152 5 3 D s :: slB 5 (.slice af (512 + j) cf) (secS (slU 2 seq s.now size ws) ++ List.replicate j 0) :: slB 5 (.slice gb (bodU s.now ws).length gcb) (bodU s.now ws) :: cb b14 99 (slF (slU 2 seq s.now size ws)) :: R)) (M0 := _) (⟨0, e1, ce1, rfl, rfl, Nat.zero_le _, by rw [List.replicate_zero, List.append_nil]; exact hs⟩) (hf.sub ⟨rfl, rfl, rfl, rfl, rfl, rfl, rfl, rfl, rfl, rfl, trivial⟩) ?_
 clear hf hs a
 rintro M m a w ⟨j, af, cf, rfl, rfl, hj9, hs⟩ hf
 refine wp_seq (wp_seq (wp_region_lit ?_))
 refine s_m hf rfl ?_; clear hf a; intro a hf
 refine s_do hf rfl (y_call (hf.eval rfl) (hf.evals rfl) Tryz.call54 ((seal_spec _ (filU s.now size ws) (by omega) (by omega)).mono ?_))
 rintro e w1 ⟨rfl, hw9⟩
 rw [hw9]
 clear hw9 w1
 rw [seaU_def]
 refine ⟨_, rfl, ?_⟩; clear hf a; intro a hf
 refine s_m hf rfl ?_; clear hf a; intro a hf
 refine s_v hf (x_len Tryz.underlying22 (hf.eval rfl)) ?_; clear hf a; intro a hf
 refine s_v hf (x_bin (hf.eval rfl) (hf.eval rfl) (r_addi _ (by omega) (by omega))) ?_; clear hf a; intro a hf
 refine s_m hf rfl ?_; clear hf a; intro a hf
 refine s_v hf (x_bin (hf.eval rfl) (hf.eval rfl) (r_lt _ _ _ _)) ?_; clear hf a; intro a hf
 refine s_nil (then_n ?_)
 refine c_cond hf rfl (fun hi1 => ?_) (fun hi1 => ?_)
 ·first | simp only [zd1, zd2, zd3, zd4, ne_eq, Classical.not_not] at hi1 | skip
  refine wp_skip (then_n (wp_block (wp_region_lit ?_)))
  refine s_m hf rfl ?_; clear hf a; intro a hf
  refine s_do hf rfl (y_lit (xs := [.const (.int .u8 0)]) hs sl22 (hf.evals rfl) rfl (by simp [Value.cells]) (by decide) ?_); clear hf hs a; intro b2 w hs a hf
  refine s_do hf rfl (y_appendB (s := [0]) hs sl22 rfl (hf.eval rfl) (hf.eval rfl) .k2 (hs.rdB .k0 fun h hb => rdB_of_bb (T := 5) (l := [0]) hb (by simp) (by simp)) (by rw [List.length_append, secS_len, List.length_replicate]; simp; omega) ?_); clear hf hs a; intro v2 w hs hv a hf
  skip
  rw [List.append_assoc, ← List.replicate_succ'] at hs
  obtain ⟨a2, c2, rfl, hc2⟩ := slB_shape (hs.take (A := slB 5 v2 (secS (slU 2 seq s.now size ws) ++ List.replicate (j + 1) 0)) (by repeat constructor))
  rw [show (secS (slU 2 seq s.now size ws) ++ List.replicate (j + 1) (0 : UInt8)).length = 512 + (j + 1) by rw [List.length_append, secS_len, List.length_replicate]] at *
  refine s_a hf rfl ?_; clear hf a; intro a hf
  refine s_nil (blk_n ?_)
  replace hs := hs.take (A := slB 5 (.slice a2 (512 + (j + 1)) c2) (secS (slU 2 seq s.now size ws) ++ List.replicate (j + 1) 0)) (by repeat constructor)
  replace hs := hs.take (A := refA 88 152 5 3 D s) (by repeat constructor)
  exact ⟨_, _, ⟨j + 1, a2, c2, rfl, rfl, by omega, St.cut [_, _] [_] hs⟩, by omega, hf.sub ⟨rfl, rfl, rfl, rfl, rfl, rfl, rfl, rfl, rfl, rfl, trivial⟩⟩
 first | simp only [zd1, zd2, zd3, zd4, ne_eq, Classical.not_not] at hi1 | skip
 obtain rfl : j = N0 := by omega
 have hcl9 : (clmB s.now seq size ws).length = 512 + j := by unfold clmB; rw [List.length_append, secS_len, List.length_replicate, ← hN0]
 have hce9 : secS (slU 2 seq s.now size ws) ++ List.replicate j 0 = (clmB s.now seq size ws) := by unfold clmB; rw [← hN0]
 rw [hce9, ← hcl9] at hs
 replace hf := hf.now (k := 15) (v' := .slice af (clmB s.now seq size ws).length cf) rfl (by rw [hcl9])
 have hso := ho
 have hsb := hb
 refine wp_exit (then_x (then_x (blk_x (then_n (wp_seq (wp_region_lit ?_))))))
 refine s_m hf rfl ?_; clear hf a; intro a hf
 refine s_m hf rfl ?_; clear hf a; intro a hf
 refine s_do hf rfl (y_call (hf.eval rfl) (hf.evals rfl) Tryz.call54 ((seal_spec _ (filU s.now size ws) (by omega) (by omega)).mono ?_))
 rintro e w1 ⟨rfl, hw9⟩
 rw [hw9]
 clear hw9 w1
 rw [seaU_def]
 refine ⟨_, rfl, ?_⟩; clear hf a; intro a hf
 refine s_m hf rfl ?_; clear hf a; intro a hf
 replace hs := hs.take (A := refA 88 152 5 3 D s) (by repeat constructor)
 have hln := putO_len (seaU s.now size ws) (clmB s.now seq size ws)
 have hl1 : ([syO] : List COp).length = 1 := rfl
 refine s_do hf rfl (y_call (hf.eval rfl) (hf.evals rfl) Tryz.call55 ((rput_spec w0 _ _ D s (seaU s.now size ws) af cf (clmB s.now seq size ws) (Rdy.own (by repeat constructor)) (by omega) hs hso _ hsb (by omega)).mono ?_))
 rintro e w1 ⟨rfl, hs⟩
 obtain ⟨t1, ht1⟩ : ∃ x, x = (runS s (putO (seaU s.now size ws) (clmB s.now seq size ws))).2 := ⟨_, rfl⟩
 have ht1o := runS_ok (putO (seaU s.now size ws) (clmB s.now seq size ws)) hso
 have ht1b := runS_b (putO (seaU s.now size ws) (clmB s.now seq size ws)) hso hsb
 rw [← ht1] at hs ht1o ht1b
 refine ⟨_, rfl, ?_⟩; clear hf a; intro a hf
 refine s_a hf rfl ?_; clear hf a; intro a hf
 refine s_nil (then_n (wp_seq (wp_seq (wp_region_lit ?_))))
 refine s_m hf rfl ?_; clear hf a; intro a hf
 refine s_v hf (x_bin (hf.eval rfl) (hf.eval rfl) (r_ne _ _ _ _)) ?_; clear hf a; intro a hf
 refine s_nil (then_n ?_)
 refine c_cond hf rfl (fun hi2 => ?_) (fun hi2 => ?_)
 ·first | simp only [zd1, zd2, zd3, zd4, ne_eq, Classical.not_not] at hi2 | skip
  refine wp_seq (wp_region_lit ?_)
  refine s_m hf rfl ?_; clear hf a; intro a hf
  refine s_a hf rfl ?_; clear hf a; intro a hf
  refine s_nil (then_n ?_)
  refine wp_ret ?_
  refine then_r ?_
  refine r_1 hf Tryz.results14 rfl ?_
  rw [hup, runS_stop hi2, ← ht1]
  replace hs := hs.take (A := refA 88 152 5 3 D t1) (by repeat constructor)
  first | exact ⟨rfl, St.cut [_] [] hs⟩ | exact ⟨rfl, St.cut [_] [_] hs⟩ | exact ⟨rfl, St.cut [_] [_, _] hs⟩ | exact ⟨rfl, St.cut [_] [_, _, _] hs⟩ | exact ⟨rfl, St.cut [_] [_, _, _, _] hs⟩ | exact ⟨rfl, St.cut [_] [_, _, _, _, _] hs⟩
 first | simp only [zd1, zd2, zd3, zd4, ne_eq, Classical.not_not] at hi2 | skip
 rw [runS_go hi2, ← ht1] at hup
 refine wp_skip (then_n (wp_seq (wp_region_lit ?_)))
 refine s_m hf rfl ?_; clear hf a; intro a hf
 refine s_m hf rfl ?_; clear hf a; intro a hf
 refine s_v hf (x_len Tryz.underlying22 (hf.eval rfl)) ?_; clear hf a; intro a hf
 refine s_m hf rfl ?_; clear hf a; intro a hf
 refine s_do hf rfl (y_call (hf.eval rfl) (hf.evals rfl) Tryz.call56 ((body_spec _ (s.now.length : Int) size (by omega) (by omega) (by omega) (by omega)).mono ?_))
 rintro e w1 ⟨rfl, hk9⟩
 replace hs := hs.ext hk9
 rw [bplU_def]
 refine ⟨_, rfl, ?_⟩; clear hf a; intro a hf
 refine s_m hf rfl ?_; clear hf a; intro a hf
 replace hs := hs.take (A := refA 88 152 5 3 D t1) (by repeat constructor)
 have hln := putO_len (bplU s.now size) (bodU s.now ws)
 have hl1 : ([syO] : List COp).length = 1 := rfl
 refine s_do hf rfl (y_call (hf.eval rfl) (hf.evals rfl) Tryz.call55 ((rput_spec w0 _ _ D t1 (bplU s.now size) gb gcb (bodU s.now ws) (Rdy.own (by repeat constructor)) (by omega) hs ht1o _ ht1b (by omega)).mono ?_))
 rintro e w1 ⟨rfl, hs⟩
 obtain ⟨t2, ht2⟩ : ∃ x, x = (runS t1 (putO (bplU s.now size) (bodU s.now ws))).2 := ⟨_, rfl⟩
 have ht2o := runS_ok (putO (bplU s.now size) (bodU s.now ws)) ht1o
 have ht2b := runS_b (putO (bplU s.now size) (bodU s.now ws)) ht1o ht1b
 rw [← ht2] at hs ht2o ht2b
 refine ⟨_, rfl, ?_⟩; clear hf a; intro a hf
 refine s_a hf rfl ?_; clear hf a; intro a hf
 refine s_nil (then_n (wp_seq (wp_seq (wp_region_lit ?_))))
 refine s_m hf rfl ?_; clear hf a; intro a hf
 refine s_v hf (x_bin (hf.eval rfl) (hf.eval rfl) (r_ne _ _ _ _)) ?_; clear hf a; intro a hf
 refine s_nil (then_n ?_)
 refine c_cond hf rfl (fun hi3 => ?_) (fun hi3 => ?_)
 ·first | simp only [zd1, zd2, zd3, zd4, ne_eq, Classical.not_not] at hi3 | skip
  refine wp_seq (wp_region_lit ?_)
  refine s_m hf rfl ?_; clear hf a; intro a hf
  refine s_a hf rfl ?_; clear hf a; intro a hf
  refine s_nil (then_n ?_)
  refine wp_ret ?_
  refine then_r ?_
  refine r_1 hf Tryz.results14 rfl ?_
  rw [hup, runS_stop hi3, ← ht2]
  replace hs := hs.take (A := refA 88 152 5 3 D t2) (by repeat constructor)
  first | exact ⟨rfl, St.cut [_] [] hs⟩ | exact ⟨rfl, St.cut [_] [_] hs⟩ | exact ⟨rfl, St.cut [_] [_, _] hs⟩ | exact ⟨rfl, St.cut [_] [_, _, _] hs⟩ | exact ⟨rfl, St.cut [_] [_, _, _, _] hs⟩ | exact ⟨rfl, St.cut [_] [_, _, _, _, _] hs⟩
 first | simp only [zd1, zd2, zd3, zd4, ne_eq, Classical.not_not] at hi3 | skip
 rw [runS_go hi3, ← ht2] at hup
 refine wp_skip (then_n (wp_seq (wp_region_lit ?_)))
 refine s_v hf (x_fieldAddr fo99_0 (hf.eval rfl)) ?_; clear hf a; intro a hf
 replace hs := hs.take (A := cb b14 99 (slF (slU 2 seq s.now size ws))) (by repeat constructor)
 refine s_do0 hf rfl (y_store hs sc3 (hf.eval rfl) (hf.eval rfl) rfl (by repeat constructor) (by simp [slF]) ?_); clear hf hs a; intro w hs a hf
 replace hs : St _ _ (cb b14 99 (slF (slU 3 seq s.now size ws)) :: _) := hs
 refine s_nil (then_n (wp_seq (wp_region_lit ?_)))
 refine s_r hf (x_loadBlk hs ag99 (hf.eval rfl) rfl (by repeat constructor)) ?_; clear hf a; intro a hf
 refine s_do hf rfl (y_call (hf.eval rfl) (hf.evals rfl) Tryz.call53 ((rencode_spec _ (slU 3 seq s.now size ws) (crcU_lt0 _)).mono ?_))
 rintro e w1 ⟨e3, ce3, rfl, hj⟩
 replace hs := hs.join hj
 simp only [List.cons_append, List.nil_append] at hs
 obtain ⟨ec1, ec2⟩ := enc_ok (slU_ok hUo (st := 3) (by omega) (by omega))
 rw [ec2] at hs ⊢
 refine ⟨_, rfl, ?_⟩; clear hf a; intro a hf
 refine s_m hf rfl ?_; clear hf a; intro a hf
 refine s_v hf (x_extract (hf.eval rfl) rfl) ?_; clear hf a; intro a hf
 refine s_v hf (x_extract (hf.eval rfl) rfl) ?_; clear hf a; intro a hf
 refine s_a hf rfl ?_; clear hf a; intro a hf
 refine s_a hf rfl ?_; clear hf a; intro a hf
 refine s_nil (then_n (wp_seq (wp_region_lit ?_)))
 refine s_m hf rfl ?_; clear hf a; intro a hf
 refine s_m hf rfl ?_; clear hf a; intro a hf
 refine s_do hf rfl (y_call (hf.eval rfl) (hf.evals rfl) Tryz.call54 ((seal_spec _ (filU s.now size ws) (by omega) (by omega)).mono ?_))
 rintro e w1 ⟨rfl, hw9⟩
 rw [hw9]
 clear hw9 w1
 rw [seaU_def]
 refine ⟨_, rfl, ?_⟩; clear hf a; intro a hf
 refine s_m hf rfl ?_; clear hf a; intro a hf
 replace hs := hs.take (A := refA 88 152 5 3 D t2) (by repeat constructor)
 have hln := putO_len (seaU s.now size ws) (secS (slU 3 seq s.now size ws))
 have hl1 : ([syO] : List COp).length = 1 := rfl
 refine s_do hf rfl (y_call (hf.eval rfl) (hf.evals rfl) Tryz.call55 ((rput_spec w0 _ _ D t2 (seaU s.now size ws) e3 ce3 (secS (slU 3 seq s.now size ws)) (Rdy.own (by repeat constructor)) (by rw [secS_len]; decide) hs ht2o _ ht2b (by omega)).mono ?_))
 rintro e w1 ⟨rfl, hs⟩
 obtain ⟨t3, ht3⟩ : ∃ x, x = (runS t2 (putO (seaU s.now size ws) (secS (slU 3 seq s.now size ws)))).2 := ⟨_, rfl⟩
 have ht3o := runS_ok (putO (seaU s.now size ws) (secS (slU 3 seq s.now size ws))) ht2o
 have ht3b := runS_b (putO (seaU s.now size ws) (secS (slU 3 seq s.now size ws))) ht2o ht2b
 rw [← ht3] at hs ht3o ht3b
 refine ⟨_, rfl, ?_⟩; clear hf a; intro a hf
 refine s_a hf rfl ?_; clear hf a; intro a hf
 refine s_nil (then_n (wp_seq (wp_seq (wp_region_lit ?_))))
 refine s_m hf rfl ?_; clear hf a; intro a hf
 refine s_v hf (x_bin (hf.eval rfl) (hf.eval rfl) (r_ne _ _ _ _)) ?_; clear hf a; intro a hf
 refine s_nil (then_n ?_)
 refine c_cond hf rfl (fun hi4 => ?_) (fun hi4 => ?_)
 ·first | simp only [zd1, zd2, zd3, zd4, ne_eq, Classical.not_not] at hi4 | skip
  refine wp_seq (wp_region_lit ?_)
  refine s_m hf rfl ?_; clear hf a; intro a hf
  refine s_a hf rfl ?_; clear hf a; intro a hf
  refine s_nil (then_n ?_)
  refine wp_ret ?_
  refine then_r ?_
  refine r_1 hf Tryz.results14 rfl ?_
  rw [hup, runS_stop hi4, ← ht3]
  replace hs := hs.take (A := refA 88 152 5 3 D t3) (by repeat constructor)
  first | exact ⟨rfl, St.cut [_] [] hs⟩ | exact ⟨rfl, St.cut [_] [_] hs⟩ | exact ⟨rfl, St.cut [_] [_, _] hs⟩ | exact ⟨rfl, St.cut [_] [_, _, _] hs⟩ | exact ⟨rfl, St.cut [_] [_, _, _, _] hs⟩ | exact ⟨rfl, St.cut [_] [_, _, _, _, _] hs⟩
 first | simp only [zd1, zd2, zd3, zd4, ne_eq, Classical.not_not] at hi4 | skip
 rw [runS_go hi4, ← ht3] at hup
 refine wp_skip (then_n (wp_seq (wp_seq (wp_region_lit ?_))))
 refine s_a hf rfl ?_; clear hf a; intro a hf
 refine s_nil (then_n (wp_block ?_))
 replace hs := hs.take (A := cb b14 99 (slF (slU 3 seq s.now size ws))) (by repeat constructor)
 replace hs := hs.take (A := refA 88 152 5 3 D t3) (by repeat constructor)
 first | (replace hs : St ⟨w0, None_⟩ _ (refA 88 152 5 3 D t3 :: cb b14 99 (slF (slU 3 seq s.now size ws)) :: R) := St.cut [_, _] [] hs) | (replace hs : St ⟨w0, None_⟩ _ (refA 88 152 5 3 D t3 :: cb b14 99 (slF (slU 3 seq s.now size ws)) :: R) := St.cut [_, _] [_] hs) | (replace hs : St ⟨w0, None_⟩ _ (refA 88 152 5 3 D t3 :: cb b14 99 (slF (slU 3 seq s.now size ws)) :: R) := St.cut [_, _] [_, _] hs) | (replace hs : St ⟨w0, None_⟩ _ (refA 88 152 5 3 D t3 :: cb b14 99 (slF (slU 3 seq s.now size ws)) :: R) := St.cut [_, _] [_, _, _] hs) | (replace hs : St ⟨w0, None_⟩ _ (refA 88 152 5 3 D t3 :: cb b14 99 (slF (slU 3 seq s.now size ws)) :: R) := St.cut [_, _] [_, _, _, _] hs) | (replace hs : St ⟨w0, None_⟩ _ (refA 88 152 5 3 D t3 :: cb b14 99 (slF (slU 3 seq s.now size ws)) :: R) := St.cut [_, _] [_, _, _, _, _] hs)
 refine c_loop (L0 := [(0, _), (2, _), (3, _), (10, _), (12, _), (13, _), (14, _), (15, _), (17, _), (61, _), (62, _), (63, _), (64, _), (65, _), (66, _), (67, _), (71, _), (72, _), (73, _), (74, _), (75, _), (76, _), (77, _), (79, _), (80, _), (81, _), (82, _), (83, _), (84, _), (85, _), (86, _), (87, _), (89, _), (90, _), (91, _), (92, _), (93, _), (94, _), (95, _), (96, _), (97, _), (98, _), (99, _), (100, _), (101, _)]) (fun M w m => ∃ (i : Nat) (t : DS), M = [(19, .int .i64 (i : Int))] ∧ ws.length - i = m ∧ i ≤ ws.length ∧ updR s seq size ws = runS t (wrsU (ws.drop i) ++ ([syO] ++ (putO (seaU s.now size ws) (secS (slU 4 seq s.now size ws)) ++ [(3, size, []), syO]))) ∧ DOk t ∧ DB t (k + 6 + i) ∧ St ⟨w0, None_⟩ w (refA 88 152 5 3 D t :: cb b14 99 (slF (slU 3 seq s.now size ws)) :: R)) (M0 := [(19, .int .i64 0)]) (⟨0, t3, rfl, rfl, Nat.zero_le _, hup, ht3o, ht3b.up (by have h1 := putO_len (seaU s.now size ws) (clmB s.now seq size ws); have h2 := putO_len (bplU s.now size) (bodU s.now ws); omega), hs⟩) (hf.sub ⟨rfl, rfl, rfl, rfl, rfl, rfl, rfl, rfl, rfl, rfl, rfl, rfl, rfl, rfl, rfl, rfl, rfl, rfl, rfl, rfl, rfl, rfl, rfl, rfl, rfl, rfl, rfl, rfl, rfl, rfl, rfl, rfl, rfl, rfl, rfl, rfl, rfl, rfl, rfl, rfl, rfl, rfl, rfl, rfl, rfl, rfl, trivial⟩) ?_
 clear hf hs a
 rintro M m a w ⟨i, t, rfl, rfl, hi, hup, hto, htb, hs⟩ hf
 refine wp_seq (wp_seq (wp_region_lit ?_))
 refine s_m hf rfl ?_; clear hf a; intro a hf
 refine s_m hf rfl ?_; clear hf a; intro a hf
 refine s_v hf (x_len Tryz.underlying23 (hf.eval rfl)) ?_; clear hf a; intro a hf
 refine s_v hf (x_bin (hf.eval rfl) (hf.eval rfl) (r_lt _ _ _ _)) ?_; clear hf a; intro a hf
 refine s_nil (then_n ?_)
 refine c_cond hf rfl (fun hi5 => ?_) (fun hi5 => ?_)
 ·first | simp only [zd1, zd2, zd3, zd4, ne_eq, Classical.not_not] at hi5 | skip
  have hlt : i < ws.length := by omega
  obtain ⟨aw, rfl⟩ := hrw.some (by omega)
  have hgi := hgd _ (List.getElem_mem hlt)
  rw [wrsU_dropC hlt, List.cons_append, runS_cons] at hup
  refine wp_skip (then_n (wp_seq (wp_block (wp_seq ?_))))
  refine c_draw hs (fun _ => True) [.held, .held, .held, .held, .held, .read, .held, .held, .held, .held, .read, .eff, .held] (by kernel_rfl) (by kernel_rfl) (fun _ _ _ => trivial) ?_
  clear hs; intro w hs hC hw
  refine m_held hf rfl (fun w' _ => x_move (hf.eval rfl) w') ?_; clear hf a; intro a hf
  refine m_held hf rfl (fun w' _ => x_move (hf.eval rfl) w') ?_; clear hf a; intro a hf
  refine m_held hf rfl (fun w' _ => x_move (hf.eval rfl) w') ?_; clear hf a; intro a hf
  refine m_held hf rfl (fun w' _ => x_indexAddr sl23 (hf.eval rfl) (hf.eval rfl) (by omega) (by omega) w') ?_; clear hf a; intro a hf
  refine m_held hf rfl (fun w' _ => x_fieldAddrG fo54_0 (hf.eval rfl) w') ?_; clear hf a; intro a hf
  refine m_read hf rfl (x_loadF (k := 0) (i := i) (f := wF) (l := ws) (u := .int .i64 ws[i].1) sc3 (by intro _; rfl) (hs.old hrw) (hf.eval rfl) hlt rfl) ?_; clear hf a; intro a hf
  refine m_held hf rfl (fun w' _ => x_move (hf.eval rfl) w') ?_; clear hf a; intro a hf
  refine m_held hf rfl (fun w' _ => x_move (hf.eval rfl) w') ?_; clear hf a; intro a hf
  refine m_held hf rfl (fun w' _ => x_indexAddr sl23 (hf.eval rfl) (hf.eval rfl) (by omega) (by omega) w') ?_; clear hf a; intro a hf
  refine m_held hf rfl (fun w' _ => x_fieldAddrG fo54_1 (hf.eval rfl) w') ?_; clear hf a; intro a hf
  refine m_read hf rfl (x_loadF (k := 1) (i := i) (f := wF) (l := ws) (u := .slice ws[i].2.1 ws[i].2.2.2.length ws[i].2.2.1) sc22 (by intro _; rfl) (hs.old hrw) (hf.eval rfl) hlt rfl) ?_; clear hf a; intro a hf
  refine m_eff hf rfl (y_call (hf.eval rfl) (hf.evals rfl) Tryz.call57 ((rWrite_spec _ _ _ D t hs ws[i].1 _ _ ws[i].2.2.2 (Rdy.old hgi.1) (by omega) hto (by have := htb.calls; omega) (by have := htb.pcs; omega) (by have := htb.sizes; omega)).mono ?_))
  rintro e w1 ⟨rfl, hs⟩
  rw [← co_wr] at hs ⊢
  obtain ⟨t5, ht5⟩ : ∃ x, x = (coS t (2, ws[i].1, ws[i].2.2.2)).2 := ⟨_, rfl⟩
  have ht5o := coS_ok hto (2, ws[i].1, ws[i].2.2.2)
  have ht5b := coS_b hto htb (2, ws[i].1, ws[i].2.2.2)
  rw [← ht5] at hs ht5o ht5b
  refine ⟨_, rfl, ⟨trivial, ?_⟩⟩; clear hf a; intro a hf
  refine m_held hf rfl (fun w' _ => x_assign (hf.eval rfl) w') ?_; clear hf a; intro a hf
  refine m_nil ?_
  refine then_n (wp_seq (wp_region_lit ?_))
  refine s_m hf rfl ?_; clear hf a; intro a hf
  refine s_v hf (x_bin (hf.eval rfl) (hf.eval rfl) (r_ne _ _ _ _)) ?_; clear hf a; intro a hf
  refine s_nil (then_n ?_)
  refine c_cond hf rfl (fun hi6 => ?_) (fun hi6 => ?_)
  ·first | simp only [zd1, zd2, zd3, zd4, ne_eq, Classical.not_not] at hi6 | skip
   refine wp_seq (wp_region_lit ?_)
   refine s_m hf rfl ?_; clear hf a; intro a hf
   refine s_a hf rfl ?_; clear hf a; intro a hf
   refine s_nil (then_n ?_)
   refine wp_ret ?_
   refine blk_r (then_r (then_r (blk_r (then_r ?_))))
   refine r_1 hf Tryz.results14 rfl ?_
   rw [if_neg hi6] at hup
   rw [hup, ← ht5]
   exact ⟨rfl, St.cut [_] [_] hs⟩
  first | simp only [zd1, zd2, zd3, zd4, ne_eq, Classical.not_not] at hi6 | skip
  rw [if_pos hi6, ← ht5] at hup
  refine wp_skip (blk_n (then_n (wp_region_lit ?_)))
  refine s_m hf rfl ?_; clear hf a; intro a hf
  refine s_v hf (x_bin (hf.eval rfl) (hf.eval rfl) (r_addi _ (by omega) (by omega))) ?_; clear hf a; intro a hf
  refine s_a hf rfl ?_; clear hf a; intro a hf
  refine s_nil ?_
  exact ⟨_, _, ⟨i + 1, t5, rfl, rfl, by omega, hup, ht5o, ht5b.up (by omega), hs⟩, by omega, hf.sub ⟨rfl, rfl, rfl, rfl, rfl, rfl, rfl, rfl, rfl, rfl, rfl, rfl, rfl, rfl, rfl, rfl, rfl, rfl, rfl, rfl, rfl, rfl, rfl, rfl, rfl, rfl, rfl, rfl, rfl, rfl, rfl, rfl, rfl, rfl, rfl, rfl, rfl, rfl, rfl, rfl, rfl, rfl, rfl, rfl, rfl, rfl, trivial⟩⟩
 first | simp only [zd1, zd2, zd3, zd4, ne_eq, Classical.not_not] at hi5 | skip
 obtain rfl : i = ws.length := by omega
 rw [wrsU_end] at hup
 refine wp_exit (then_x (then_x (blk_x (then_n (wp_seq (wp_region_lit ?_))))))
 refine s_m hf rfl ?_; clear hf a; intro a hf
 refine s_do hf rfl (y_call (hf.eval rfl) (hf.evals rfl) Tryz.call12 ((rSync_spec _ _ _ D t hs hto (by have := htb.calls; omega) (by have := htb.pcs; omega) (by have := htb.sizes; omega)).mono ?_))
 rintro e w1 ⟨rfl, hs⟩
 rw [← co_sy, ← runS_one] at hs ⊢
 obtain ⟨t6, ht6⟩ : ∃ x, x = (runS t [syO]).2 := ⟨_, rfl⟩
 have ht6o := runS_ok [syO] hto
 have ht6b := runS_b [syO] hto htb
 rw [← ht6] at hs ht6o ht6b
 refine ⟨_, rfl, ?_⟩; clear hf a; intro a hf
 refine s_a hf rfl ?_; clear hf a; intro a hf
 refine s_nil (then_n (wp_seq (wp_seq (wp_region_lit ?_))))
 refine s_m hf rfl ?_; clear hf a; intro a hf
 refine s_v hf (x_bin (hf.eval rfl) (hf.eval rfl) (r_ne _ _ _ _)) ?_; clear hf a; intro a hf
 refine s_nil (then_n ?_)
 refine c_cond hf rfl (fun hi7 => ?_) (fun hi7 => ?_)
 ·first | simp only [zd1, zd2, zd3, zd4, ne_eq, Classical.not_not] at hi7 | skip
  refine wp_seq (wp_region_lit ?_)
  refine s_m hf rfl ?_; clear hf a; intro a hf
  refine s_a hf rfl ?_; clear hf a; intro a hf
  refine s_nil (then_n ?_)
  refine wp_ret ?_
  refine then_r ?_
  refine r_1 hf Tryz.results14 rfl ?_
  rw [hup, runS_stop hi7, ← ht6]
  replace hs := hs.take (A := refA 88 152 5 3 D t6) (by repeat constructor)
  first | exact ⟨rfl, St.cut [_] [] hs⟩ | exact ⟨rfl, St.cut [_] [_] hs⟩ | exact ⟨rfl, St.cut [_] [_, _] hs⟩ | exact ⟨rfl, St.cut [_] [_, _, _] hs⟩
 first | simp only [zd1, zd2, zd3, zd4, ne_eq, Classical.not_not] at hi7 | skip
 rw [runS_go hi7, ← ht6] at hup
 refine wp_skip (then_n (wp_seq (wp_region_lit ?_)))
 refine s_v hf (x_fieldAddr fo99_0 (hf.eval rfl)) ?_; clear hf a; intro a hf
 replace hs := hs.take (A := cb b14 99 (slF (slU 3 seq s.now size ws))) (by repeat constructor)
 refine s_do0 hf rfl (y_store hs sc3 (hf.eval rfl) (hf.eval rfl) rfl (by repeat constructor) (by simp [slF]) ?_); clear hf hs a; intro w hs a hf
 replace hs : St _ _ (cb b14 99 (slF (slU 4 seq s.now size ws)) :: _) := hs
 refine s_nil (then_n (wp_seq (wp_region_lit ?_)))
 refine s_r hf (x_loadBlk hs ag99 (hf.eval rfl) rfl (by repeat constructor)) ?_; clear hf a; intro a hf
 refine s_do hf rfl (y_call (hf.eval rfl) (hf.evals rfl) Tryz.call53 ((rencode_spec _ (slU 4 seq s.now size ws) (crcU_lt0 _)).mono ?_))
 rintro e w1 ⟨e4, ce4, rfl, hj⟩
 replace hs := hs.join hj
 simp only [List.cons_append, List.nil_append] at hs
 obtain ⟨ec1, ec2⟩ := enc_ok (slU_ok hUo (st := 4) (by omega) (by omega))
 rw [ec2] at hs ⊢
 refine ⟨_, rfl, ?_⟩; clear hf a; intro a hf
 refine s_m hf rfl ?_; clear hf a; intro a hf
 refine s_v hf (x_extract (hf.eval rfl) rfl) ?_; clear hf a; intro a hf
 refine s_v hf (x_extract (hf.eval rfl) rfl) ?_; clear hf a; intro a hf
 refine s_a hf rfl ?_; clear hf a; intro a hf
 refine s_a hf rfl ?_; clear hf a; intro a hf
 refine s_nil (then_n (wp_seq (wp_region_lit ?_)))
 refine s_m hf rfl ?_; clear hf a; intro a hf
 refine s_m hf rfl ?_; clear hf a; intro a hf
 refine s_do hf rfl (y_call (hf.eval rfl) (hf.evals rfl) Tryz.call54 ((seal_spec _ (filU s.now size ws) (by omega) (by omega)).mono ?_))
 rintro e w1 ⟨rfl, hw9⟩
 rw [hw9]
 clear hw9 w1
 rw [seaU_def]
 refine ⟨_, rfl, ?_⟩; clear hf a; intro a hf
 refine s_m hf rfl ?_; clear hf a; intro a hf
 replace hs := hs.take (A := refA 88 152 5 3 D t6) (by repeat constructor)
 have hln := putO_len (seaU s.now size ws) (secS (slU 4 seq s.now size ws))
 have hl1 : ([syO] : List COp).length = 1 := rfl
 refine s_do hf rfl (y_call (hf.eval rfl) (hf.evals rfl) Tryz.call55 ((rput_spec w0 _ _ D t6 (seaU s.now size ws) e4 ce4 (secS (slU 4 seq s.now size ws)) (Rdy.own (by repeat constructor)) (by rw [secS_len]; decide) hs ht6o _ ht6b (by omega)).mono ?_))
 rintro e w1 ⟨rfl, hs⟩
 obtain ⟨t7, ht7⟩ : ∃ x, x = (runS t6 (putO (seaU s.now size ws) (secS (slU 4 seq s.now size ws)))).2 := ⟨_, rfl⟩
 have ht7o := runS_ok (putO (seaU s.now size ws) (secS (slU 4 seq s.now size ws))) ht6o
 have ht7b := runS_b (putO (seaU s.now size ws) (secS (slU 4 seq s.now size ws))) ht6o ht6b
 rw [← ht7] at hs ht7o ht7b
 refine ⟨_, rfl, ?_⟩; clear hf a; intro a hf
 refine s_a hf rfl ?_; clear hf a; intro a hf
 refine s_nil (then_n (wp_seq (wp_seq (wp_region_lit ?_))))
 refine s_m hf rfl ?_; clear hf a; intro a hf
 refine s_v hf (x_bin (hf.eval rfl) (hf.eval rfl) (r_ne _ _ _ _)) ?_; clear hf a; intro a hf
 refine s_nil (then_n ?_)
 refine c_cond hf rfl (fun hi8 => ?_) (fun hi8 => ?_)
 ·first | simp only [zd1, zd2, zd3, zd4, ne_eq, Classical.not_not] at hi8 | skip
  refine wp_seq (wp_region_lit ?_)
  refine s_m hf rfl ?_; clear hf a; intro a hf
  refine s_a hf rfl ?_; clear hf a; intro a hf
  refine s_nil (then_n ?_)
  refine wp_ret ?_
  refine then_r ?_
  refine r_1 hf Tryz.results14 rfl ?_
  rw [hup, runS_stop hi8, ← ht7]
  replace hs := hs.take (A := refA 88 152 5 3 D t7) (by repeat constructor)
  first | exact ⟨rfl, St.cut [_] [] hs⟩ | exact ⟨rfl, St.cut [_] [_] hs⟩ | exact ⟨rfl, St.cut [_] [_, _] hs⟩ | exact ⟨rfl, St.cut [_] [_, _, _] hs⟩ | exact ⟨rfl, St.cut [_] [_, _, _, _] hs⟩ | exact ⟨rfl, St.cut [_] [_, _, _, _, _] hs⟩
 first | simp only [zd1, zd2, zd3, zd4, ne_eq, Classical.not_not] at hi8 | skip
 rw [runS_go hi8, ← ht7] at hup
 refine wp_skip (then_n (wp_seq (wp_region_lit ?_)))
 refine s_m hf rfl ?_; clear hf a; intro a hf
 refine s_m hf rfl ?_; clear hf a; intro a hf
 replace hs := hs.take (A := refA 88 152 5 3 D t7) (by repeat constructor)
 refine s_do hf rfl (y_call (hf.eval rfl) (hf.evals rfl) Tryz.call58 ((rcut_spec w0 _ _ D t7 size hs ht7o _ ht7b (by have h1 := putO_len (seaU s.now size ws) (secS (slU 4 seq s.now size ws)); omega)).mono ?_))
 rintro e w1 ⟨rfl, hs⟩
 refine ⟨_, rfl, ?_⟩; clear hf a; intro a hf
 refine s_a hf rfl ?_; clear hf a; intro a hf
 refine s_nil (then_n ?_)
 refine wp_ret ?_
 refine r_1 hf Tryz.results14 rfl ?_
 rw [hup]
 first | exact ⟨rfl, St.cut [_] [] hs⟩ | exact ⟨rfl, St.cut [_] [_] hs⟩ | exact ⟨rfl, St.cut [_] [_, _] hs⟩ | exact ⟨rfl, St.cut [_] [_, _, _] hs⟩
end Go.Proofs.YtehakfbfjpolfaaGreatDoor
