/- Texts 12 of 17 that the law rests on: the small library, contracts of functions, printed by a program. -/
import Derived.Test.YtehakfbfjpolfaaGreatDoorProg
import Derived.Test.YtehakfbfjpolfaaGreatDoorUp1
import Derived.Test.YtehakfbfjpolfaaGreatDoorUp2
import Derived.Test.YtehakfbfjpolfaaGreatDoorUp3
import Derived.Test.YtehakfbfjpolfaaGreatDoorUp4
import Derived.Test.YtehakfbfjpolfaaGreatDoorUp5
import Derived.Test.YtehakfbfjpolfaaGreatDoorUp6
import Derived.Test.YtehakfbfjpolfaaGreatDoorUp7
import Derived.Test.YtehakfbfjpolfaaGreatDoorUp8
import Derived.Test.YtehakfbfjpolfaaGreatDoorUp9
import Derived.Test.YtehakfbfjpolfaaGreatDoorUp10
import Derived.Test.YtehakfbfjpolfaaGreatDoorUp11
set_option maxRecDepth 100000
set_option linter.all false
namespace Go.Proofs.YtehakfbfjpolfaaGreatDoor
open Go Vw
theorem ag37 : AgT Tryz.prog 37 3 := ⟨fun w => Tryz.isAgg37 w, fun w => Tryz.sizeOf37 w⟩
theorem ag54 : AgT Tryz.prog 54 2 := ⟨fun w => Tryz.isAgg54 w, fun w => Tryz.sizeOf54 w⟩
theorem ag64 : AgT Tryz.prog 64 3 := ⟨fun w => Tryz.isAgg64 w, fun w => Tryz.sizeOf64 w⟩
theorem ag99 : AgT Tryz.prog 99 7 := ⟨fun w => Tryz.isAgg99 w, fun w => Tryz.sizeOf99 w⟩
theorem ag108 : AgT Tryz.prog 108 5 := ⟨fun w => Tryz.isAgg108 w, fun w => Tryz.sizeOf108 w⟩
theorem ag111 : AgT Tryz.prog 111 3 := ⟨fun w => Tryz.isAgg111 w, fun w => Tryz.sizeOf111 w⟩
theorem ag119 : AgT Tryz.prog 119 2 := ⟨fun w => Tryz.isAgg119 w, fun w => Tryz.sizeOf119 w⟩
theorem ag127 : AgT Tryz.prog 127 2 := ⟨fun w => Tryz.isAgg127 w, fun w => Tryz.sizeOf127 w⟩
theorem ag152 : AgT Tryz.prog 152 3 := ⟨fun w => Tryz.isAgg152 w, fun w => Tryz.sizeOf152 w⟩
theorem fo37_0 : FoT Tryz.prog 37 0 0 := ⟨_, _, 0, Tryz.underlying37, rfl, rfl, fun w => Tryz.sizeOf3 w⟩
theorem fo37_2 : FoT Tryz.prog 37 2 2 := ⟨_, _, 0, Tryz.underlying37, rfl, rfl, fun w => Tryz.sizeOf3 w⟩
theorem fo54_0 : FoT Tryz.prog 54 0 0 := ⟨_, _, 0, Tryz.underlying54, rfl, rfl, fun w => Tryz.sizeOf3 w⟩
theorem fo54_1 : FoT Tryz.prog 54 1 1 := ⟨_, _, 0, Tryz.underlying54, rfl, rfl, fun w => Tryz.sizeOf22 w⟩
theorem fo64_0 : FoT Tryz.prog 64 0 0 := ⟨_, _, 0, Tryz.underlying64, rfl, rfl, fun w => Tryz.sizeOf3 w⟩
theorem fo64_1 : FoT Tryz.prog 64 1 1 := ⟨_, _, 0, Tryz.underlying64, rfl, rfl, fun w => Tryz.sizeOf62 w⟩
theorem fo64_2 : FoT Tryz.prog 64 2 2 := ⟨_, _, 0, Tryz.underlying64, rfl, rfl, fun w => Tryz.sizeOf3 w⟩
theorem fo85_0 : FoT Tryz.prog 85 0 0 := ⟨_, _, 0, Tryz.underlying85, rfl, rfl, fun w => Tryz.sizeOf3 w⟩
theorem fo85_1 : FoT Tryz.prog 85 1 1 := ⟨_, _, 0, Tryz.underlying85, rfl, rfl, fun w => Tryz.sizeOf22 w⟩
theorem fo85_2 : FoT Tryz.prog 85 2 2 := ⟨_, _, 0, Tryz.underlying85, rfl, rfl, fun w => Tryz.sizeOf22 w⟩
theorem fo85_3 : FoT Tryz.prog 85 3 3 := ⟨_, _, 0, Tryz.underlying85, rfl, rfl, fun w => Tryz.sizeOf83 w⟩
theorem fo85_4 : FoT Tryz.prog 85 4 4 := ⟨_, _, 0, Tryz.underlying85, rfl, rfl, fun w => Tryz.sizeOf62 w⟩
theorem fo85_5 : FoT Tryz.prog 85 5 5 := ⟨_, _, 0, Tryz.underlying85, rfl, rfl, fun w => Tryz.sizeOf3 w⟩
theorem fo85_6 : FoT Tryz.prog 85 6 6 := ⟨_, _, 0, Tryz.underlying85, rfl, rfl, fun w => Tryz.sizeOf3 w⟩
theorem fo85_7 : FoT Tryz.prog 85 7 7 := ⟨_, _, 0, Tryz.underlying85, rfl, rfl, fun w => Tryz.sizeOf4 w⟩
theorem fo88_0 : FoT Tryz.prog 88 0 0 := ⟨_, _, 0, Tryz.underlying88, rfl, rfl, fun w => Tryz.sizeOf3 w⟩
theorem fo88_1 : FoT Tryz.prog 88 1 1 := ⟨_, _, 0, Tryz.underlying88, rfl, rfl, fun w => Tryz.sizeOf22 w⟩
theorem fo88_2 : FoT Tryz.prog 88 2 2 := ⟨_, _, 0, Tryz.underlying88, rfl, rfl, fun w => Tryz.sizeOf22 w⟩
theorem fo88_3 : FoT Tryz.prog 88 3 3 := ⟨_, _, 0, Tryz.underlying88, rfl, rfl, fun w => Tryz.sizeOf86 w⟩
theorem fo88_4 : FoT Tryz.prog 88 4 4 := ⟨_, _, 0, Tryz.underlying88, rfl, rfl, fun w => Tryz.sizeOf62 w⟩
theorem fo88_5 : FoT Tryz.prog 88 5 5 := ⟨_, _, 0, Tryz.underlying88, rfl, rfl, fun w => Tryz.sizeOf3 w⟩
theorem fo88_6 : FoT Tryz.prog 88 6 6 := ⟨_, _, 0, Tryz.underlying88, rfl, rfl, fun w => Tryz.sizeOf3 w⟩
theorem fo88_7 : FoT Tryz.prog 88 7 7 := ⟨_, _, 0, Tryz.underlying88, rfl, rfl, fun w => Tryz.sizeOf4 w⟩
theorem fo99_0 : FoT Tryz.prog 99 0 0 := ⟨_, _, 0, Tryz.underlying99, rfl, rfl, fun w => Tryz.sizeOf3 w⟩
theorem fo99_1 : FoT Tryz.prog 99 1 1 := ⟨_, _, 0, Tryz.underlying99, rfl, rfl, fun w => Tryz.sizeOf3 w⟩
theorem fo99_2 : FoT Tryz.prog 99 2 2 := ⟨_, _, 0, Tryz.underlying99, rfl, rfl, fun w => Tryz.sizeOf3 w⟩
theorem fo99_3 : FoT Tryz.prog 99 3 3 := ⟨_, _, 0, Tryz.underlying99, rfl, rfl, fun w => Tryz.sizeOf3 w⟩
theorem fo99_4 : FoT Tryz.prog 99 4 4 := ⟨_, _, 0, Tryz.underlying99, rfl, rfl, fun w => Tryz.sizeOf3 w⟩
theorem fo99_5 : FoT Tryz.prog 99 5 5 := ⟨_, _, 0, Tryz.underlying99, rfl, rfl, fun w => Tryz.sizeOf3 w⟩
theorem fo99_6 : FoT Tryz.prog 99 6 6 := ⟨_, _, 0, Tryz.underlying99, rfl, rfl, fun w => Tryz.sizeOf96 w⟩
theorem fo108_0 : FoT Tryz.prog 108 0 0 := ⟨_, _, 2, Tryz.underlying108, rfl, rfl, fun w => Tryz.sizeOf37 w⟩
theorem fo108_1 : FoT Tryz.prog 108 1 3 := ⟨_, _, 0, Tryz.underlying108, rfl, rfl, fun w => Tryz.sizeOf22 w⟩
theorem fo108_2 : FoT Tryz.prog 108 2 4 := ⟨_, _, 0, Tryz.underlying108, rfl, rfl, fun w => Tryz.sizeOf23 w⟩
theorem fo111_0 : FoT Tryz.prog 111 0 0 := ⟨_, _, 0, Tryz.underlying111, rfl, rfl, fun w => Tryz.sizeOf3 w⟩
theorem fo111_1 : FoT Tryz.prog 111 1 1 := ⟨_, _, 0, Tryz.underlying111, rfl, rfl, fun w => Tryz.sizeOf3 w⟩
theorem fo111_2 : FoT Tryz.prog 111 2 2 := ⟨_, _, 0, Tryz.underlying111, rfl, rfl, fun w => Tryz.sizeOf3 w⟩
theorem fo113_0 : FoT Tryz.prog 113 0 0 := ⟨_, _, 0, Tryz.underlying113, rfl, rfl, fun w => Tryz.sizeOf24 w⟩
theorem fo113_1 : FoT Tryz.prog 113 1 1 := ⟨_, _, 0, Tryz.underlying113, rfl, rfl, fun w => Tryz.sizeOf3 w⟩
theorem fo113_2 : FoT Tryz.prog 113 2 2 := ⟨_, _, 0, Tryz.underlying113, rfl, rfl, fun w => Tryz.sizeOf3 w⟩
theorem fo113_3 : FoT Tryz.prog 113 3 3 := ⟨_, _, 0, Tryz.underlying113, rfl, rfl, fun w => Tryz.sizeOf23 w⟩
theorem fo113_4 : FoT Tryz.prog 113 4 4 := ⟨_, _, 6, Tryz.underlying113, rfl, rfl, fun w => Tryz.sizeOf99 w⟩
theorem fo113_5 : FoT Tryz.prog 113 5 11 := ⟨_, _, 0, Tryz.underlying113, rfl, rfl, fun w => Tryz.sizeOf22 w⟩
theorem fo113_6 : FoT Tryz.prog 113 6 12 := ⟨_, _, 2, Tryz.underlying113, rfl, rfl, fun w => Tryz.sizeOf111 w⟩
theorem fo119_0 : FoT Tryz.prog 119 0 0 := ⟨_, _, 0, Tryz.underlying119, rfl, rfl, fun w => Tryz.sizeOf3 w⟩
theorem fo119_1 : FoT Tryz.prog 119 1 1 := ⟨_, _, 0, Tryz.underlying119, rfl, rfl, fun w => Tryz.sizeOf3 w⟩
theorem fo127_0 : FoT Tryz.prog 127 0 0 := ⟨_, _, 0, Tryz.underlying127, rfl, rfl, fun w => Tryz.sizeOf3 w⟩
theorem fo127_1 : FoT Tryz.prog 127 1 1 := ⟨_, _, 0, Tryz.underlying127, rfl, rfl, fun w => Tryz.sizeOf22 w⟩
theorem fo152_0 : FoT Tryz.prog 152 0 0 := ⟨_, _, 0, Tryz.underlying152, rfl, rfl, fun w => Tryz.sizeOf3 w⟩
theorem fo152_1 : FoT Tryz.prog 152 1 1 := ⟨_, _, 0, Tryz.underlying152, rfl, rfl, fun w => Tryz.sizeOf3 w⟩
theorem fo152_2 : FoT Tryz.prog 152 2 2 := ⟨_, _, 0, Tryz.underlying152, rfl, rfl, fun w => Tryz.sizeOf22 w⟩
theorem fo160_0 : FoT Tryz.prog 160 0 0 := ⟨_, _, 0, Tryz.underlying160, rfl, rfl, fun w => Tryz.sizeOf22 w⟩
theorem fo160_1 : FoT Tryz.prog 160 1 1 := ⟨_, _, 0, Tryz.underlying160, rfl, rfl, fun w => Tryz.sizeOf3 w⟩
theorem fo160_2 : FoT Tryz.prog 160 2 2 := ⟨_, _, 0, Tryz.underlying160, rfl, rfl, fun w => Tryz.sizeOf25 w⟩
theorem fo179_0 : FoT Tryz.prog 179 0 0 := ⟨_, _, 0, Tryz.underlying179, rfl, rfl, fun w => Tryz.sizeOf22 w⟩
theorem fo179_1 : FoT Tryz.prog 179 1 1 := ⟨_, _, 0, Tryz.underlying179, rfl, rfl, fun w => Tryz.sizeOf3 w⟩
theorem fo179_2 : FoT Tryz.prog 179 2 2 := ⟨_, _, 0, Tryz.underlying179, rfl, rfl, fun w => Tryz.sizeOf25 w⟩
theorem sc3 : ScT Tryz.prog 3 := ⟨fun w => Tryz.isAgg3 w, fun w => Tryz.sizeOf3 w⟩
theorem sc4 : ScT Tryz.prog 4 := ⟨fun w => Tryz.isAgg4 w, fun w => Tryz.sizeOf4 w⟩
theorem sc5 : ScT Tryz.prog 5 := ⟨fun w => Tryz.isAgg5 w, fun w => Tryz.sizeOf5 w⟩
theorem sc22 : ScT Tryz.prog 22 := ⟨fun w => Tryz.isAgg22 w, fun w => Tryz.sizeOf22 w⟩
theorem sc23 : ScT Tryz.prog 23 := ⟨fun w => Tryz.isAgg23 w, fun w => Tryz.sizeOf23 w⟩
theorem sc24 : ScT Tryz.prog 24 := ⟨fun w => Tryz.isAgg24 w, fun w => Tryz.sizeOf24 w⟩
theorem sc25 : ScT Tryz.prog 25 := ⟨fun w => Tryz.isAgg25 w, fun w => Tryz.sizeOf25 w⟩
theorem sc32 : ScT Tryz.prog 32 := ⟨fun w => Tryz.isAgg32 w, fun w => Tryz.sizeOf32 w⟩
theorem sc62 : ScT Tryz.prog 62 := ⟨fun w => Tryz.isAgg62 w, fun w => Tryz.sizeOf62 w⟩
theorem sc83 : ScT Tryz.prog 83 := ⟨fun w => Tryz.isAgg83 w, fun w => Tryz.sizeOf83 w⟩
theorem sc86 : ScT Tryz.prog 86 := ⟨fun w => Tryz.isAgg86 w, fun w => Tryz.sizeOf86 w⟩
theorem sc96 : ScT Tryz.prog 96 := ⟨fun w => Tryz.isAgg96 w, fun w => Tryz.sizeOf96 w⟩
theorem sl22 : SlT Tryz.prog 22 5 1 1 (.int .u8 0) := ⟨Tryz.underlying22, by decide, rfl, Tryz.t5, by kernel_rfl, rfl, rfl, rfl⟩
theorem sl23 : SlT Tryz.prog 23 54 2 32 (.agg #[.int .i64 0, .slice none 0 0]) := ⟨Tryz.underlying23, by decide, rfl, Tryz.t54, by kernel_rfl, rfl, rfl, rfl⟩
theorem sl46 : SlT Tryz.prog 46 64 3 40 (.agg #[.int .i64 0, .slice none 0 0, .int .i64 0]) := ⟨Tryz.underlying46, by decide, rfl, Tryz.t64, by kernel_rfl, rfl, rfl, rfl⟩
theorem sl47 : SlT Tryz.prog 47 22 1 24 (.slice none 0 0) := ⟨Tryz.underlying47, by decide, rfl, Tryz.t22, by kernel_rfl, rfl, rfl, rfl⟩
theorem sl62 : SlT Tryz.prog 62 3 1 8 (.int .i64 0) := ⟨Tryz.underlying62, by decide, rfl, Tryz.t3, by kernel_rfl, rfl, rfl, rfl⟩
theorem sl68 : SlT Tryz.prog 68 119 2 16 (.agg #[.int .i64 0, .int .i64 0]) := ⟨Tryz.underlying68, by decide, rfl, Tryz.t119, by kernel_rfl, rfl, rfl, rfl⟩
theorem sl86 : SlT Tryz.prog 86 152 3 40 (.agg #[.int .i64 0, .int .i64 0, .slice none 0 0]) := ⟨Tryz.underlying86, by decide, rfl, Tryz.t152, by kernel_rfl, rfl, rfl, rfl⟩
theorem sl93 : SlT Tryz.prog 93 32 1 8 (.nilFunc) := ⟨Tryz.underlying93, by decide, rfl, Tryz.t32, by kernel_rfl, rfl, rfl, rfl⟩
theorem sl125 : SlT Tryz.prog 125 127 2 32 (.agg #[.int .i64 0, .slice none 0 0]) := ⟨Tryz.underlying125, by decide, rfl, Tryz.t127, by kernel_rfl, rfl, rfl, rfl⟩
end Go.Proofs.YtehakfbfjpolfaaGreatDoor

namespace Go.Proofs.YtehakfbfjpolfaaGreatDoor
open Go Vw
theorem num_spec (w : World) (n : Int) : Calls Tryz.prog 17 #[.int .i64 n] w fun e w' => e = .returned (.int .i64 n) ∧ w' = w := by
 refine c_enter (N := 4) Tryz.func17 rfl Tryz.ntmps17 (by simp) ?_
 intro a hf
 refine wp_seq (wp_region_lit ?_)
 refine s_a hf rfl ?_; clear hf a; intro a hf
 refine s_nil (then_n (wp_seq (wp_region_lit ?_)))
 refine s_m hf rfl ?_; clear hf a; intro a hf
 refine s_a hf rfl ?_; clear hf a; intro a hf
 refine s_nil (then_n ?_)
 refine wp_ret ?_
 refine r_1 hf Tryz.results17 rfl ?_
 exact ⟨rfl, rfl⟩
theorem same_spec (w0 : World) (a1 : Option Addr) (c1 : Nat) (l1 : List UInt8) (hr1 : RdB (hp w0) (.slice a1 l1.length c1) l1) (a2 : Option Addr) (c2 : Nat) (l2 : List UInt8) (hr2 : RdB (hp w0) (.slice a2 l2.length c2) l2) (hl1 : l1.length ≤ 140737488355328) : Calls Tryz.prog 20 #[.slice a1 l1.length c1, .slice a2 l2.length c2] w0 fun e w' => e = .returned (.bool (decide (l1 = l2))) ∧ Kept w0 w' None_ := by
 have hs := St.start w0 None_
 refine c_enter (N := 26) Tryz.func20 rfl Tryz.ntmps20 (by simp) ?_
 intro a hf
 refine wp_seq (wp_region_lit ?_)
 refine s_a hf rfl ?_; clear hf a; intro a hf
 refine s_nil (then_n (wp_seq (wp_seq (wp_region_lit ?_))))
 refine s_m hf rfl ?_; clear hf a; intro a hf
 refine s_v hf (x_len Tryz.underlying22 (hf.eval rfl)) ?_; clear hf a; intro a hf
 refine s_m hf rfl ?_; clear hf a; intro a hf
 refine s_v hf (x_len Tryz.underlying22 (hf.eval rfl)) ?_; clear hf a; intro a hf
 refine s_v hf (x_bin (hf.eval rfl) (hf.eval rfl) (r_ne _ _ _ _)) ?_; clear hf a; intro a hf
 refine s_nil (then_n ?_)
 refine c_cond hf rfl (fun hi0 => ?_) (fun hi0 => ?_)
 ·simp only [zd1, zd2, zd3, zd4, zd5, zd6, zd7] at hi0
  refine wp_seq (wp_region_lit ?_)
  refine s_a hf rfl ?_; clear hf a; intro a hf
  refine s_nil (then_n ?_)
  refine wp_ret ?_
  refine then_r ?_
  refine r_1 hf Tryz.results20 rfl ?_
  exact ⟨by rw [decide_eq_false (fun e => hi0 (by rw [e]))], hs.kept⟩
 simp only [zd1, zd2, zd3, zd4, zd5, zd6, zd7] at hi0
 refine wp_skip (then_n (wp_seq (wp_seq (wp_region_lit ?_))))
 refine s_a hf rfl ?_; clear hf a; intro a hf
 refine s_nil (then_n (wp_block ?_))
 refine c_loop (L0 := [(0, _), (1, _)]) (fun M w m => ∃ i : Nat, M = [(5, .int .i64 (i : Int))] ∧ l1.length - i = m ∧ i ≤ l1.length ∧ l1.take i = l2.take i ∧ St ⟨w0, None_⟩ w []) (M0 := [(5, .int .i64 (0 : Nat))]) (⟨0, rfl, rfl, Nat.zero_le _, rfl, hs⟩) (hf.sub ⟨rfl, rfl, rfl, trivial⟩) ?_
 clear hf hs a
 rintro M m a w ⟨i, rfl, rfl, hi, hq, hs⟩ hf
 refine wp_seq (wp_seq (wp_region_lit ?_))
 refine s_m hf rfl ?_; clear hf a; intro a hf
 refine s_m hf rfl ?_; clear hf a; intro a hf
 refine s_v hf (x_len Tryz.underlying22 (hf.eval rfl)) ?_; clear hf a; intro a hf
 refine s_v hf (x_bin (hf.eval rfl) (hf.eval rfl) (r_lt _ _ _ _)) ?_; clear hf a; intro a hf
 refine s_nil (then_n ?_)
 refine c_cond hf rfl (fun hi1 => ?_) (fun hi1 => ?_)
 ·simp only [zd1, zd2, zd3, zd4, zd5, zd6, zd7] at hi1
  obtain ⟨x1, rfl⟩ := hr1.some (by omega)
  obtain ⟨x2, rfl⟩ := hr2.some (by omega)
  have hlt : i < l1.length := by omega
  have hlt2 : i < l2.length := by omega
  refine wp_skip (then_n (wp_seq (wp_block (wp_seq ?_))))
  refine c_draw hs (fun _ => True) [.held, .held, .held, .read, .held, .held, .held, .read, .held] (by kernel_rfl) (by kernel_rfl) (fun _ _ _ => trivial) ?_
  clear hs; intro w hs hC hw
  refine m_held hf rfl (fun w' _ => x_move (hf.eval rfl) w') ?_; clear hf a; intro a hf
  refine m_held hf rfl (fun w' _ => x_move (hf.eval rfl) w') ?_; clear hf a; intro a hf
  refine m_held hf rfl (fun w' _ => x_indexAddr sl22 (hf.eval rfl) (hf.eval rfl) (by omega) (by omega) w') ?_; clear hf a; intro a hf
  refine m_read hf rfl (x_loadB sc5 (hs.oldB hr1) (hf.eval rfl) (by omega)) ?_; clear hf a; intro a hf
  replace hf := hf.now (k := 20) (v' := u8v l1[i]) rfl rfl
  refine m_held hf rfl (fun w' _ => x_move (hf.eval rfl) w') ?_; clear hf a; intro a hf
  refine m_held hf rfl (fun w' _ => x_move (hf.eval rfl) w') ?_; clear hf a; intro a hf
  refine m_held hf rfl (fun w' _ => x_indexAddr sl22 (hf.eval rfl) (hf.eval rfl) (by omega) (by omega) w') ?_; clear hf a; intro a hf
  refine m_read hf rfl (x_loadB sc5 (hs.oldB hr2) (hf.eval rfl) (by omega)) ?_; clear hf a; intro a hf
  replace hf := hf.now (k := 24) (v' := u8v l2[i]) rfl rfl
  refine m_held hf rfl (fun w' _ => x_bin (hf.eval rfl) (hf.eval rfl) (r_ne _ _ _ _) w') ?_; clear hf a; intro a hf
  refine m_nil ?_
  refine then_n ?_
  refine c_cond hf rfl (fun hi2 => ?_) (fun hi2 => ?_)
  ·simp only [zd1, zd2, zd3, zd4, zd5, zd6, zd7] at hi2
   refine wp_seq (wp_region_lit ?_)
   refine s_a hf rfl ?_; clear hf a; intro a hf
   refine s_nil (then_n ?_)
   refine wp_ret ?_
   refine blk_r (then_r (then_r (blk_r (then_r ?_))))
   refine r_1 hf Tryz.results20 rfl ?_
   exact ⟨by rw [decide_eq_false (fun e => hi2 (by subst e; rfl))], hs.kept⟩
  simp only [zd1, zd2, zd3, zd4, zd5, zd6, zd7] at hi2
  have heq : l1[i] = l2[i] := UInt8.toNat_inj.1 (by omega)
  refine wp_skip (blk_n (then_n (wp_region_lit ?_)))
  refine s_m hf rfl ?_; clear hf a; intro a hf
  refine s_v hf (x_bin (hf.eval rfl) (hf.eval rfl) (r_addi _ (by omega) (by omega))) ?_; clear hf a; intro a hf
  refine s_a hf rfl ?_; clear hf a; intro a hf
  refine s_nil ?_
  have hlt : i < l1.length := by omega
  exact ⟨_, _, ⟨i + 1, rfl, rfl, by omega, by rw [List.take_succ_eq_append_getElem hlt, List.take_succ_eq_append_getElem (show i < l2.length by omega), hq, heq], hs⟩, by omega, hf.sub ⟨rfl, rfl, rfl, trivial⟩⟩
 simp only [zd1, zd2, zd3, zd4, zd5, zd6, zd7] at hi1
 refine wp_exit (then_x (then_x (blk_x (then_n (wp_seq (wp_region_lit ?_))))))
 refine s_a hf rfl ?_; clear hf a; intro a hf
 refine s_nil (then_n ?_)
 refine wp_ret ?_
 refine r_1 hf Tryz.results20 rfl ?_
 have hi' : i = l1.length := by omega
 exact ⟨by rw [decide_eq_true (by rw [hi', List.take_length, show l1.length = l2.length by omega, List.take_length] at hq; exact hq)], hs.kept⟩
theorem framed_spec (w0 : World) (a : Option Addr) (c : Nat) (l : List UInt8) (hr : RdB (hp w0) (.slice a l.length c) l) (hl : l.length ≤ 140737488351232) : Calls Tryz.prog 65 #[.slice a l.length c] w0 fun e w' => ∃ b c, e = .returned (.slice (some ⟨b, 0, none⟩) (l.length + 4) c) ∧ l.length + 4 ≤ c ∧ St ⟨w0, None_⟩ w' [slB 5 (.slice (some ⟨b, 0, none⟩) (l.length + 4) c) (l ++ [0xC0, 0xC1, 0xC2, 0xC3])] := by
 have hs := St.start w0 None_
 refine c_enter (N := 17) Tryz.func65 rfl Tryz.ntmps65 (by simp) ?_
 intro a hf
 refine wp_seq (wp_region_lit ?_)
 refine s_a hf rfl ?_; clear hf a; intro a hf
 refine s_nil (then_n (wp_seq (wp_region_lit ?_)))
 refine s_m hf rfl ?_; clear hf a; intro a hf
 refine s_v hf (x_len Tryz.underlying22 (hf.eval rfl)) ?_; clear hf a; intro a hf
 refine s_m hf rfl ?_; clear hf a; intro a hf
 refine s_v hf (x_len Tryz.underlying22 (hf.eval rfl)) ?_; clear hf a; intro a hf
 refine s_v hf (x_bin (hf.eval rfl) (hf.eval rfl) (r_addi _ (by omega) (by omega))) ?_; clear hf a; intro a hf
 refine s_do hf rfl (y_makeB (m := l.length) (c := l.length + 4) hs sl22 (hf.eval rfl) (hf.eval rfl) rfl rfl (by omega) (by omega) ?_); clear hf hs a; intro b w hs a hf
 refine s_a hf rfl ?_; clear hf a; intro a hf
 refine s_nil (then_n (wp_seq (wp_region_lit ?_)))
 refine s_m hf rfl ?_; clear hf a; intro a hf
 refine s_m hf rfl ?_; clear hf a; intro a hf
 refine s_do hf rfl (y_copyB (o := 0) (cur' := l ++ List.replicate 4 0) hs sl22 (hf.eval rfl) (hf.eval rfl) (fun _ => rfl) (hs.oldB hr) rfl .k0 (by simp [spl]) (by simp) ?_); clear hf hs a; intro w hs a hf
 refine s_nil (then_n (wp_seq (wp_region_lit ?_)))
 refine s_m hf rfl ?_; clear hf a; intro a hf
 refine s_do hf rfl (y_lit (xs := [.const (.int .u8 192), .const (.int .u8 193), .const (.int .u8 194), .const (.int .u8 195)]) hs sl22 (hf.evals rfl) rfl (by simp [Value.cells]) (by decide) ?_); clear hf hs a; intro b2 w hs a hf
 replace hs := hs.up .k1 (fun h hb => slB_of_bb (n := l.length) (by simp) (by simp [maxLen_eq]; omega) hb)
 refine s_do hf rfl (y_appendB (s := [0xC0, 0xC1, 0xC2, 0xC3]) hs sl22 rfl (hf.eval (by simp; rfl)) (hf.eval rfl) .k1 (hs.rdB .k0 fun h hb => rdB_of_bb (T := 5) (l := [0xC0, 0xC1, 0xC2, 0xC3]) hb (by simp) (by simp)) (by simp; omega) ?_); clear hf hs a; intro v w hs hv a hf
 refine s_a hf rfl ?_; clear hf a; intro a hf
 refine s_nil (then_n (wp_seq (wp_region_lit ?_)))
 refine s_m hf rfl ?_; clear hf a; intro a hf
 refine s_a hf rfl ?_; clear hf a; intro a hf
 refine s_nil (then_n ?_)
 refine wp_ret ?_
 refine r_1 hf Tryz.results65 rfl ?_
 replace hs := hs.lose .k1
 rw [List.take_left] at hs
 obtain ⟨b, c, rfl, hc⟩ := slB_block hs (by simp)
 rw [List.length_append] at hs hc ⊢
 exact ⟨b, c, rfl, hc, hs⟩
theorem whole_spec (w0 : World) (a1 : Addr) (n1 c1 : Nat) (a2 : Option Addr) (c2 : Nat) (l2 : List UInt8) (hr2 : RdB (hp w0) (.slice a2 l2.length c2) l2) (hn1 : n1 = l2.length + 4) (hr1 : RdB (hp w0) (.slice (some a1) n1 c1) (l2 ++ [0xC0, 0xC1, 0xC2, 0xC3])) (hl2 : l2.length ≤ 140737488351232) :
    Calls Tryz.prog 66 #[.slice (some a1) n1 c1, .slice a2 l2.length c2] w0 fun e w' => e = .returned (.bool true) ∧ Kept w0 w' None_ := by
 have hs := St.start w0 None_
 refine c_enter (N := 59) Tryz.func66 rfl Tryz.ntmps66 (by simp) ?_
 intro a hf
 refine wp_seq (wp_region_lit ?_)
 refine s_a hf rfl ?_; clear hf a; intro a hf
 refine s_nil (then_n (wp_seq (wp_region_lit ?_)))
 refine s_m hf rfl ?_; clear hf a; intro a hf
 refine s_v hf (x_len Tryz.underlying22 (hf.eval rfl)) ?_; clear hf a; intro a hf
 refine s_a hf rfl ?_; clear hf a; intro a hf
 refine s_nil (then_n (wp_seq (wp_seq (wp_region_lit ?_))))
 refine s_m hf rfl ?_; clear hf a; intro a hf
 refine s_v hf (x_len Tryz.underlying22 (hf.eval rfl)) ?_; clear hf a; intro a hf
 refine s_m hf rfl ?_; clear hf a; intro a hf
 refine s_v hf (x_bin (hf.eval rfl) (hf.eval rfl) (r_addi _ (by omega) (by omega))) ?_; clear hf a; intro a hf
 refine s_v hf (x_bin (hf.eval rfl) (hf.eval rfl) (r_ne _ _ _ _)) ?_; clear hf a; intro a hf
 refine s_m hf rfl ?_; clear hf a; intro a hf
 replace hf := hf.now (k := 14) (v' := .bool false) rfl (congrArg Value.bool (by subst hn1; simp))
 refine s_do hf (wanted_of hf rfl rfl rfl) (.value (x_move (hf.eval rfl) _) ?_); clear hf a; intro a hf
 refine s_do hf (wanted_of hf rfl rfl rfl) (.value (x_move (hf.eval rfl) _) ?_); clear hf a; intro a hf
 refine s_do hf (wanted_of hf rfl rfl rfl) (.value (x_indexAddr sl22 (hf.eval rfl) (hf.eval rfl) (by omega) (by omega) _) ?_); clear hf a; intro a hf
 refine s_do hf (wanted_of hf rfl rfl rfl) (.value (x_loadB sc5 (hs.oldB hr1) (hf.eval rfl) (by simp)) ?_); clear hf a; intro a hf
 replace hf := hf.now (k := 18) (v' := .int .u8 192) rfl (by rw [mark_at _ _ (k := 0) (by omega) _ (by simp)]; rfl)
 refine s_do hf (wanted_of hf rfl rfl rfl) (.value (x_bin (hf.eval rfl) (hf.eval rfl) (r_ne _ _ _ _) _) ?_); clear hf a; intro a hf
 refine s_v hf (x_pick_f (hf.eval rfl) (hf.eval rfl)) ?_; clear hf a; intro a hf
 refine s_m hf rfl ?_; clear hf a; intro a hf
 replace hf := hf.now (k := 21) (v' := .bool false) rfl (congrArg Value.bool (by simp))
 refine s_do hf (wanted_of hf rfl rfl rfl) (.value (x_move (hf.eval rfl) _) ?_); clear hf a; intro a hf
 refine s_do hf (wanted_of hf rfl rfl rfl) (.value (x_move (hf.eval rfl) _) ?_); clear hf a; intro a hf
 refine s_do hf (wanted_of hf rfl rfl rfl) (.value (x_bin (hf.eval rfl) (hf.eval rfl) (r_addi _ (by omega) (by omega)) _) ?_); clear hf a; intro a hf
 refine s_do hf (wanted_of hf rfl rfl rfl) (.value (x_indexAddr sl22 (hf.eval rfl) (hf.eval rfl) (by omega) (by omega) _) ?_); clear hf a; intro a hf
 refine s_do hf (wanted_of hf rfl rfl rfl) (.value (x_loadB sc5 (hs.oldB hr1) (hf.eval rfl) (by simp)) ?_); clear hf a; intro a hf
 replace hf := hf.now (k := 26) (v' := .int .u8 193) rfl (by rw [mark_at _ _ (k := 1) (by omega) _ (by simp)]; rfl)
 refine s_do hf (wanted_of hf rfl rfl rfl) (.value (x_bin (hf.eval rfl) (hf.eval rfl) (r_ne _ _ _ _) _) ?_); clear hf a; intro a hf
 refine s_v hf (x_pick_f (hf.eval rfl) (hf.eval rfl)) ?_; clear hf a; intro a hf
 refine s_m hf rfl ?_; clear hf a; intro a hf
 replace hf := hf.now (k := 29) (v' := .bool false) rfl (congrArg Value.bool (by simp))
 refine s_do hf (wanted_of hf rfl rfl rfl) (.value (x_move (hf.eval rfl) _) ?_); clear hf a; intro a hf
 refine s_do hf (wanted_of hf rfl rfl rfl) (.value (x_move (hf.eval rfl) _) ?_); clear hf a; intro a hf
 refine s_do hf (wanted_of hf rfl rfl rfl) (.value (x_bin (hf.eval rfl) (hf.eval rfl) (r_addi _ (by omega) (by omega)) _) ?_); clear hf a; intro a hf
 refine s_do hf (wanted_of hf rfl rfl rfl) (.value (x_indexAddr sl22 (hf.eval rfl) (hf.eval rfl) (by omega) (by omega) _) ?_); clear hf a; intro a hf
 refine s_do hf (wanted_of hf rfl rfl rfl) (.value (x_loadB sc5 (hs.oldB hr1) (hf.eval rfl) (by simp)) ?_); clear hf a; intro a hf
 replace hf := hf.now (k := 34) (v' := .int .u8 194) rfl (by rw [mark_at _ _ (k := 2) (by omega) _ (by simp)]; rfl)
 refine s_do hf (wanted_of hf rfl rfl rfl) (.value (x_bin (hf.eval rfl) (hf.eval rfl) (r_ne _ _ _ _) _) ?_); clear hf a; intro a hf
 refine s_v hf (x_pick_f (hf.eval rfl) (hf.eval rfl)) ?_; clear hf a; intro a hf
 refine s_m hf rfl ?_; clear hf a; intro a hf
 replace hf := hf.now (k := 37) (v' := .bool false) rfl (congrArg Value.bool (by simp))
 refine s_do hf (wanted_of hf rfl rfl rfl) (.value (x_move (hf.eval rfl) _) ?_); clear hf a; intro a hf
 refine s_do hf (wanted_of hf rfl rfl rfl) (.value (x_move (hf.eval rfl) _) ?_); clear hf a; intro a hf
 refine s_do hf (wanted_of hf rfl rfl rfl) (.value (x_bin (hf.eval rfl) (hf.eval rfl) (r_addi _ (by omega) (by omega)) _) ?_); clear hf a; intro a hf
 refine s_do hf (wanted_of hf rfl rfl rfl) (.value (x_indexAddr sl22 (hf.eval rfl) (hf.eval rfl) (by omega) (by omega) _) ?_); clear hf a; intro a hf
 refine s_do hf (wanted_of hf rfl rfl rfl) (.value (x_loadB sc5 (hs.oldB hr1) (hf.eval rfl) (by simp)) ?_); clear hf a; intro a hf
 replace hf := hf.now (k := 42) (v' := .int .u8 195) rfl (by rw [mark_at _ _ (k := 3) (by omega) _ (by simp)]; rfl)
 refine s_do hf (wanted_of hf rfl rfl rfl) (.value (x_bin (hf.eval rfl) (hf.eval rfl) (r_ne _ _ _ _) _) ?_); clear hf a; intro a hf
 refine s_v hf (x_pick_f (hf.eval rfl) (hf.eval rfl)) ?_; clear hf a; intro a hf
 refine s_nil (then_n ?_)
 refine c_cond_f hf rfl (by simp) ?_
 refine wp_skip (then_n (wp_seq (wp_seq (wp_region_lit ?_))))
 refine s_a hf rfl ?_; clear hf a; intro a hf
 refine s_nil (then_n (wp_block ?_))
 refine c_loop (L0 := [(0, _), (1, _), (5, _)]) (fun M w m => ∃ i : Nat, M = [(6, .int .i64 (i : Int))] ∧ l2.length - i = m ∧ i ≤ l2.length ∧ St ⟨w0, None_⟩ w []) (M0 := [(6, .int .i64 (0 : Nat))]) (⟨0, rfl, rfl, Nat.zero_le _, hs⟩) (hf.sub ⟨rfl, rfl, rfl, rfl, trivial⟩) ?_
 clear hf hs a
 rintro M m a w ⟨i, rfl, rfl, hi, hs⟩ hf
 refine wp_seq (wp_seq (wp_region_lit ?_))
 refine s_m hf rfl ?_; clear hf a; intro a hf
 refine s_m hf rfl ?_; clear hf a; intro a hf
 refine s_v hf (x_bin (hf.eval rfl) (hf.eval rfl) (r_lt _ _ _ _)) ?_; clear hf a; intro a hf
 refine s_nil (then_n ?_)
 refine c_cond hf rfl (fun hi1 => ?_) (fun hi1 => ?_)
 ·simp only [zd1, zd2, zd3, zd4, zd5, zd6, zd7] at hi1
  obtain ⟨x2, rfl⟩ := hr2.some (by omega)
  have hlt : i < l2.length := by omega
  refine wp_skip (then_n (wp_seq (wp_block (wp_seq ?_))))
  refine c_draw hs (fun _ => True) [.held, .held, .held, .read, .held, .held, .held, .read, .held] (by kernel_rfl) (by kernel_rfl) (fun _ _ _ => trivial) ?_
  clear hs; intro w hs hC hw
  refine m_held hf rfl (fun w' _ => x_move (hf.eval rfl) w') ?_; clear hf a; intro a hf
  refine m_held hf rfl (fun w' _ => x_move (hf.eval rfl) w') ?_; clear hf a; intro a hf
  refine m_held hf rfl (fun w' _ => x_indexAddr sl22 (hf.eval rfl) (hf.eval rfl) (by omega) (by omega) w') ?_; clear hf a; intro a hf
  refine m_read hf rfl (x_loadB sc5 (hs.oldB hr1) (hf.eval rfl) (by simp; omega)) ?_; clear hf a; intro a hf
  replace hf := hf.now (k := 53) (v' := u8v l2[i]) rfl (by rw [mark_left _ _ (by omega)]; rfl)
  refine m_held hf rfl (fun w' _ => x_move (hf.eval rfl) w') ?_; clear hf a; intro a hf
  refine m_held hf rfl (fun w' _ => x_move (hf.eval rfl) w') ?_; clear hf a; intro a hf
  refine m_held hf rfl (fun w' _ => x_indexAddr sl22 (hf.eval rfl) (hf.eval rfl) (by omega) (by omega) w') ?_; clear hf a; intro a hf
  refine m_read hf rfl (x_loadB sc5 (hs.oldB hr2) (hf.eval rfl) (by omega)) ?_; clear hf a; intro a hf
  replace hf := hf.now (k := 57) (v' := u8v l2[i]) rfl rfl
  refine m_held hf rfl (fun w' _ => x_bin (hf.eval rfl) (hf.eval rfl) (r_ne _ _ _ _) w') ?_; clear hf a; intro a hf
  refine m_nil ?_
  refine then_n ?_
  refine c_cond_f hf rfl (by simp) ?_
  refine wp_skip (blk_n (then_n (wp_region_lit ?_)))
  refine s_m hf rfl ?_; clear hf a; intro a hf
  refine s_v hf (x_bin (hf.eval rfl) (hf.eval rfl) (r_addi _ (by omega) (by omega))) ?_; clear hf a; intro a hf
  refine s_a hf rfl ?_; clear hf a; intro a hf
  refine s_nil ?_
  exact ⟨_, _, ⟨i + 1, rfl, rfl, by omega, hs⟩, by omega, hf.sub ⟨rfl, rfl, rfl, rfl, trivial⟩⟩
 simp only [zd1, zd2, zd3, zd4, zd5, zd6, zd7] at hi1
 refine wp_exit (then_x (then_x (blk_x (then_n (wp_seq (wp_region_lit ?_))))))
 refine s_a hf rfl ?_; clear hf a; intro a hf
 refine s_nil (then_n ?_)
 refine wp_ret ?_
 refine r_1 hf Tryz.results66 rfl ?_
 exact ⟨rfl, hs.kept⟩
end Go.Proofs.YtehakfbfjpolfaaGreatDoor

namespace Go.Proofs.YtehakfbfjpolfaaGreatDoor
open Go Vw
theorem dclone_spec (w0 : World) (a1 : Option Addr) (c1 : Nat) (l : List UInt8) (hr1 : RdB (hp w0) (.slice a1 l.length c1) l) (hl1 : l.length ≤ 140737488351232) : Calls Tryz.prog 37 #[.slice a1 l.length c1] w0 fun e w' => ∃ a c, e = .returned (.slice a l.length c) ∧ St ⟨w0, None_⟩ w' [slB 5 (.slice a l.length c) l] := by
 have hs := St.start w0 None_
 refine c_enter (N := 11) Tryz.func37 rfl Tryz.ntmps37 (by simp) ?_
 intro a hf
 refine wp_seq (wp_region_lit ?_)
 refine s_a hf rfl ?_; clear hf a; intro a hf
 refine s_nil (then_n (wp_seq (wp_region_lit ?_)))
 refine s_m hf rfl ?_; clear hf a; intro a hf
 refine s_v hf (x_len Tryz.underlying22 (hf.eval rfl)) ?_; clear hf a; intro a hf
 refine s_do hf rfl (y_makeB (m := l.length) (c := l.length) hs sl22 (hf.eval rfl) (hf.eval rfl) rfl rfl (Nat.le_refl _) (by omega) ?_); clear hf hs a; intro b w hs a hf
 refine s_a hf rfl ?_; clear hf a; intro a hf
 refine s_nil (then_n (wp_seq (wp_region_lit ?_)))
 refine s_m hf rfl ?_; clear hf a; intro a hf
 refine s_m hf rfl ?_; clear hf a; intro a hf
 refine s_do hf rfl (y_copyB (o := 0) (cur' := l) hs sl22 (hf.eval rfl) (hf.eval rfl) (fun _ => rfl) (hs.oldB hr1) rfl .k0 (by simp [spl]) (by simp) ?_); clear hf hs a; intro w hs a hf
 refine s_nil (then_n (wp_seq (wp_region_lit ?_)))
 refine s_m hf rfl ?_; clear hf a; intro a hf
 refine s_a hf rfl ?_; clear hf a; intro a hf
 refine s_nil (then_n ?_)
 refine wp_ret ?_
 refine r_1 hf Tryz.results37 rfl ?_
 refine ⟨some ⟨b, 0, none⟩, l.length, rfl, ?_⟩
 have := hs.up .k0 (fun h hb => slB_of_bb (n := l.length) (Nat.le_refl _) (by rw [maxLen_eq]; omega) hb)
 simpa using this
theorem rclone_spec (w0 : World) (a1 : Option Addr) (c1 : Nat) (l : List UInt8) (hr1 : RdB (hp w0) (.slice a1 l.length c1) l) (hl1 : l.length ≤ 140737488351232) : Calls Tryz.prog 38 #[.slice a1 l.length c1] w0 fun e w' => ∃ a c, e = .returned (.slice a l.length c) ∧ St ⟨w0, None_⟩ w' [slB 5 (.slice a l.length c) l] := by
 have hs := St.start w0 None_
 refine c_enter (N := 11) Tryz.func38 rfl Tryz.ntmps38 (by simp) ?_
 intro a hf
 refine wp_seq (wp_region_lit ?_)
 refine s_a hf rfl ?_; clear hf a; intro a hf
 refine s_nil (then_n (wp_seq (wp_region_lit ?_)))
 refine s_m hf rfl ?_; clear hf a; intro a hf
 refine s_v hf (x_len Tryz.underlying22 (hf.eval rfl)) ?_; clear hf a; intro a hf
 refine s_do hf rfl (y_makeB (m := l.length) (c := l.length) hs sl22 (hf.eval rfl) (hf.eval rfl) rfl rfl (Nat.le_refl _) (by omega) ?_); clear hf hs a; intro b w hs a hf
 refine s_a hf rfl ?_; clear hf a; intro a hf
 refine s_nil (then_n (wp_seq (wp_region_lit ?_)))
 refine s_m hf rfl ?_; clear hf a; intro a hf
 refine s_m hf rfl ?_; clear hf a; intro a hf
 refine s_do hf rfl (y_copyB (o := 0) (cur' := l) hs sl22 (hf.eval rfl) (hf.eval rfl) (fun _ => rfl) (hs.oldB hr1) rfl .k0 (by simp [spl]) (by simp) ?_); clear hf hs a; intro w hs a hf
 refine s_nil (then_n (wp_seq (wp_region_lit ?_)))
 refine s_m hf rfl ?_; clear hf a; intro a hf
 refine s_a hf rfl ?_; clear hf a; intro a hf
 refine s_nil (then_n ?_)
 refine wp_ret ?_
 refine r_1 hf Tryz.results38 rfl ?_
 refine ⟨some ⟨b, 0, none⟩, l.length, rfl, ?_⟩
 have := hs.up .k0 (fun h hb => slB_of_bb (n := l.length) (Nat.le_refl _) (by rw [maxLen_eq]; omega) hb)
 simpa using this
theorem dNew_b1 (w0 : World) (a1 : Option Addr) (c1 : Nat) (image : List UInt8) (hr1 : RdB (hp w0) (.slice a1 image.length c1) image) (hl1 : image.length ≤ 140737488351232) (cap : Int) (hc : cap < 0 ∨ 16777216 < cap) : Calls Tryz.prog 7 #[.slice a1 image.length c1, .int .i64 cap] w0 fun e w' => e = .returned (.tuple #[.pointer none, .int .i64 1]) ∧ Kept w0 w' None_ := by
 have hs := St.start w0 None_
 refine c_enter (N := 32) Tryz.func7 rfl Tryz.ntmps7 (by simp) ?_
 intro a hf
 refine wp_seq (wp_region_lit ?_)
 refine s_a hf rfl ?_; clear hf a; intro a hf
 refine s_a hf rfl ?_; clear hf a; intro a hf
 refine s_nil (then_n (wp_seq (wp_seq (wp_region_lit ?_))))
 refine s_m hf rfl ?_; clear hf a; intro a hf
 refine s_v hf (x_bin (hf.eval rfl) (hf.eval rfl) (r_lt _ _ _ _)) ?_; clear hf a; intro a hf
 refine s_m hf rfl ?_; clear hf a; intro a hf
 refine s_bool hf (k := 9) rfl (fun hg1_2 hf' => ?_) (fun hg1_2 hf' => ?_)
 ·clear hf
  have hf := hf'
  clear hf'
  simp only [zd1, zd2, zd3, zd4, zd5, zd6, zd7] at hg1_2
  refine s_pass hf rfl rfl ?_; clear hf a; intro a hf
  refine s_pass hf rfl rfl ?_; clear hf a; intro a hf
  refine s_v hf (x_pick_t (hf.eval rfl) (hf.eval rfl)) ?_; clear hf a; intro a hf
  refine s_nil (then_n ?_)
  refine c_cond_t hf rfl (by first | rfl | (simp; omega)) ?_
  refine wp_seq (wp_region_lit ?_)
  refine s_a hf rfl ?_; clear hf a; intro a hf
  refine s_a hf rfl ?_; clear hf a; intro a hf
  refine s_nil (then_n ?_)
  refine wp_ret ?_
  refine then_r ?_
  refine r_2 hf Tryz.results7 rfl rfl ?_
  exact ⟨rfl, hs.kept⟩
 clear hf
 have hf := hf'
 clear hf'
 simp only [zd1, zd2, zd3, zd4, zd5, zd6, zd7] at hg1_2
 refine s_do hf (wanted_of hf rfl rfl rfl) (.value (x_move (hf.eval rfl) _) ?_); clear hf a; intro a hf
 refine s_do hf (wanted_of hf rfl rfl rfl) (.value (x_bin (hf.eval rfl) (hf.eval rfl) (r_gt _ _ _ _) _) ?_); clear hf a; intro a hf
 refine s_v hf (x_pick_f (hf.eval rfl) (hf.eval rfl)) ?_; clear hf a; intro a hf
 refine s_nil (then_n ?_)
 refine c_cond_t hf rfl (by first | rfl | (simp; omega)) ?_
 refine wp_seq (wp_region_lit ?_)
 refine s_a hf rfl ?_; clear hf a; intro a hf
 refine s_a hf rfl ?_; clear hf a; intro a hf
 refine s_nil (then_n ?_)
 refine wp_ret ?_
 refine then_r ?_
 refine r_2 hf Tryz.results7 rfl rfl ?_
 exact ⟨rfl, hs.kept⟩
theorem rNew_b1 (w0 : World) (a1 : Option Addr) (c1 : Nat) (image : List UInt8) (hr1 : RdB (hp w0) (.slice a1 image.length c1) image) (hl1 : image.length ≤ 140737488351232) (cap : Int) (hc : cap < 0 ∨ 16777216 < cap) : Calls Tryz.prog 8 #[.slice a1 image.length c1, .int .i64 cap] w0 fun e w' => e = .returned (.tuple #[.pointer none, .int .i64 1]) ∧ Kept w0 w' None_ := by
 have hs := St.start w0 None_
 refine c_enter (N := 23) Tryz.func8 rfl Tryz.ntmps8 (by simp) ?_
 intro a hf
 refine wp_seq (wp_region_lit ?_)
 refine s_a hf rfl ?_; clear hf a; intro a hf
 refine s_a hf rfl ?_; clear hf a; intro a hf
 refine s_nil (then_n (wp_seq (wp_seq (wp_region_lit ?_))))
 refine s_m hf rfl ?_; clear hf a; intro a hf
 refine s_v hf (x_bin (hf.eval rfl) (hf.eval rfl) (r_lt _ _ _ _)) ?_; clear hf a; intro a hf
 refine s_m hf rfl ?_; clear hf a; intro a hf
 refine s_bool hf (k := 8) rfl (fun hg1_2 hf' => ?_) (fun hg1_2 hf' => ?_)
 ·clear hf
  have hf := hf'
  clear hf'
  simp only [zd1, zd2, zd3, zd4, zd5, zd6, zd7] at hg1_2
  refine s_pass hf rfl rfl ?_; clear hf a; intro a hf
  refine s_pass hf rfl rfl ?_; clear hf a; intro a hf
  refine s_v hf (x_pick_t (hf.eval rfl) (hf.eval rfl)) ?_; clear hf a; intro a hf
  refine s_nil (then_n ?_)
  refine c_cond_t hf rfl (by first | rfl | (simp; omega)) ?_
  refine wp_seq (wp_region_lit ?_)
  refine s_a hf rfl ?_; clear hf a; intro a hf
  refine s_a hf rfl ?_; clear hf a; intro a hf
  refine s_nil (then_n ?_)
  refine wp_ret ?_
  refine then_r ?_
  refine r_2 hf Tryz.results8 rfl rfl ?_
  exact ⟨rfl, hs.kept⟩
 clear hf
 have hf := hf'
 clear hf'
 simp only [zd1, zd2, zd3, zd4, zd5, zd6, zd7] at hg1_2
 refine s_do hf (wanted_of hf rfl rfl rfl) (.value (x_move (hf.eval rfl) _) ?_); clear hf a; intro a hf
 refine s_do hf (wanted_of hf rfl rfl rfl) (.value (x_bin (hf.eval rfl) (hf.eval rfl) (r_gt _ _ _ _) _) ?_); clear hf a; intro a hf
 refine s_v hf (x_pick_f (hf.eval rfl) (hf.eval rfl)) ?_; clear hf a; intro a hf
 refine s_nil (then_n ?_)
 refine c_cond_t hf rfl (by first | rfl | (simp; omega)) ?_
 refine wp_seq (wp_region_lit ?_)
 refine s_a hf rfl ?_; clear hf a; intro a hf
 refine s_a hf rfl ?_; clear hf a; intro a hf
 refine s_nil (then_n ?_)
 refine wp_ret ?_
 refine then_r ?_
 refine r_2 hf Tryz.results8 rfl rfl ?_
 exact ⟨rfl, hs.kept⟩
theorem dNew_b2 (w0 : World) (a1 : Option Addr) (c1 : Nat) (image : List UInt8) (hr1 : RdB (hp w0) (.slice a1 image.length c1) image) (hl1 : image.length ≤ 140737488351232) (cap : Int) (hc1 : 0 ≤ cap) (hc2 : cap ≤ 16777216) (hc3 : cap < image.length) : Calls Tryz.prog 7 #[.slice a1 image.length c1, .int .i64 cap] w0 fun e w' => e = .returned (.tuple #[.pointer none, .int .i64 10]) ∧ Kept w0 w' None_ := by
 have hs := St.start w0 None_
 refine c_enter (N := 32) Tryz.func7 rfl Tryz.ntmps7 (by simp) ?_
 intro a hf
 refine wp_seq (wp_region_lit ?_)
 refine s_a hf rfl ?_; clear hf a; intro a hf
 refine s_a hf rfl ?_; clear hf a; intro a hf
 refine s_nil (then_n (wp_seq (wp_seq (wp_region_lit ?_))))
 refine s_m hf rfl ?_; clear hf a; intro a hf
 refine s_v hf (x_bin (hf.eval rfl) (hf.eval rfl) (r_lt _ _ _ _)) ?_; clear hf a; intro a hf
 refine s_m hf rfl ?_; clear hf a; intro a hf
 replace hf := hf.now (k := 9) (v' := .bool false) rfl (congrArg Value.bool (by simp; omega))
 refine s_do hf (wanted_of hf rfl rfl rfl) (.value (x_move (hf.eval rfl) _) ?_); clear hf a; intro a hf
 refine s_do hf (wanted_of hf rfl rfl rfl) (.value (x_bin (hf.eval rfl) (hf.eval rfl) (r_gt _ _ _ _) _) ?_); clear hf a; intro a hf
 refine s_v hf (x_pick_f (hf.eval rfl) (hf.eval rfl)) ?_; clear hf a; intro a hf
 refine s_nil (then_n ?_)
 refine c_cond_f hf rfl (by simp; omega) ?_
 refine wp_skip (then_n (wp_seq (wp_seq (wp_region_lit ?_))))
 refine s_m hf rfl ?_; clear hf a; intro a hf
 refine s_v hf (x_len Tryz.underlying22 (hf.eval rfl)) ?_; clear hf a; intro a hf
 refine s_m hf rfl ?_; clear hf a; intro a hf
 refine s_v hf (x_bin (hf.eval rfl) (hf.eval rfl) (r_gt _ _ _ _)) ?_; clear hf a; intro a hf
 refine s_nil (then_n ?_)
 refine c_cond_t hf rfl (by simp; omega) ?_
 refine wp_seq (wp_region_lit ?_)
 refine s_a hf rfl ?_; clear hf a; intro a hf
 refine s_a hf rfl ?_; clear hf a; intro a hf
 refine s_nil (then_n ?_)
 refine wp_ret ?_
 refine then_r ?_
 refine r_2 hf Tryz.results7 rfl rfl ?_
 exact ⟨rfl, hs.kept⟩
theorem rNew_b2 (w0 : World) (a1 : Option Addr) (c1 : Nat) (image : List UInt8) (hr1 : RdB (hp w0) (.slice a1 image.length c1) image) (hl1 : image.length ≤ 140737488351232) (cap : Int) (hc1 : 0 ≤ cap) (hc2 : cap ≤ 16777216) (hc3 : cap < image.length) : Calls Tryz.prog 8 #[.slice a1 image.length c1, .int .i64 cap] w0 fun e w' => e = .returned (.tuple #[.pointer none, .int .i64 10]) ∧ Kept w0 w' None_ := by
 have hs := St.start w0 None_
 refine c_enter (N := 23) Tryz.func8 rfl Tryz.ntmps8 (by simp) ?_
 intro a hf
 refine wp_seq (wp_region_lit ?_)
 refine s_a hf rfl ?_; clear hf a; intro a hf
 refine s_a hf rfl ?_; clear hf a; intro a hf
 refine s_nil (then_n (wp_seq (wp_seq (wp_region_lit ?_))))
 refine s_m hf rfl ?_; clear hf a; intro a hf
 refine s_v hf (x_bin (hf.eval rfl) (hf.eval rfl) (r_lt _ _ _ _)) ?_; clear hf a; intro a hf
 refine s_m hf rfl ?_; clear hf a; intro a hf
 replace hf := hf.now (k := 8) (v' := .bool false) rfl (congrArg Value.bool (by simp; omega))
 refine s_do hf (wanted_of hf rfl rfl rfl) (.value (x_move (hf.eval rfl) _) ?_); clear hf a; intro a hf
 refine s_do hf (wanted_of hf rfl rfl rfl) (.value (x_bin (hf.eval rfl) (hf.eval rfl) (r_gt _ _ _ _) _) ?_); clear hf a; intro a hf
 refine s_v hf (x_pick_f (hf.eval rfl) (hf.eval rfl)) ?_; clear hf a; intro a hf
 refine s_nil (then_n ?_)
 refine c_cond_f hf rfl (by simp; omega) ?_
 refine wp_skip (then_n (wp_seq (wp_seq (wp_region_lit ?_))))
 refine s_m hf rfl ?_; clear hf a; intro a hf
 refine s_v hf (x_len Tryz.underlying22 (hf.eval rfl)) ?_; clear hf a; intro a hf
 refine s_m hf rfl ?_; clear hf a; intro a hf
 refine s_v hf (x_bin (hf.eval rfl) (hf.eval rfl) (r_gt _ _ _ _)) ?_; clear hf a; intro a hf
 refine s_nil (then_n ?_)
 refine c_cond_t hf rfl (by simp; omega) ?_
 refine wp_seq (wp_region_lit ?_)
 refine s_a hf rfl ?_; clear hf a; intro a hf
 refine s_a hf rfl ?_; clear hf a; intro a hf
 refine s_nil (then_n ?_)
 refine wp_ret ?_
 refine then_r ?_
 refine r_2 hf Tryz.results8 rfl rfl ?_
 exact ⟨rfl, hs.kept⟩
theorem dNew_ok (w0 : World) (a1 : Option Addr) (c1 : Nat) (image : List UInt8) (hr1 : RdB (hp w0) (.slice a1 image.length c1) image) (hl1 : image.length ≤ 140737488351232) (cap : Int) (hc1 : 0 ≤ cap) (hc2 : cap ≤ 16777216) (hc3 : image.length ≤ cap) : Calls Tryz.prog 7 #[.slice a1 image.length c1, .int .i64 cap] w0 fun e w' => ∃ p v1 v2 m, e = .returned (.tuple #[.pointer (some ⟨p, 0, none⟩), .int .i64 0]) ∧ St ⟨w0, None_⟩ w' [cb p 85 [.int .i64 cap, v1, v2, .map (some m), .slice none 0 0, .int .i64 0, .int .i64 (-1), .bool false], slB 5 v1 image, slB 5 v2 image, blk m (.map #[] 0)] := by
 have hs := St.start w0 None_
 refine c_enter (N := 32) Tryz.func7 rfl Tryz.ntmps7 (by simp) ?_
 intro a hf
 refine wp_seq (wp_region_lit ?_)
 refine s_a hf rfl ?_; clear hf a; intro a hf
 refine s_a hf rfl ?_; clear hf a; intro a hf
 refine s_nil (then_n (wp_seq (wp_seq (wp_region_lit ?_))))
 refine s_m hf rfl ?_; clear hf a; intro a hf
 refine s_v hf (x_bin (hf.eval rfl) (hf.eval rfl) (r_lt _ _ _ _)) ?_; clear hf a; intro a hf
 refine s_m hf rfl ?_; clear hf a; intro a hf
 replace hf := hf.now (k := 9) (v' := .bool false) rfl (congrArg Value.bool (by simp; omega))
 refine s_do hf (wanted_of hf rfl rfl rfl) (.value (x_move (hf.eval rfl) _) ?_); clear hf a; intro a hf
 refine s_do hf (wanted_of hf rfl rfl rfl) (.value (x_bin (hf.eval rfl) (hf.eval rfl) (r_gt _ _ _ _) _) ?_); clear hf a; intro a hf
 refine s_v hf (x_pick_f (hf.eval rfl) (hf.eval rfl)) ?_; clear hf a; intro a hf
 refine s_nil (then_n ?_)
 refine c_cond_f hf rfl (by simp; omega) ?_
 refine wp_skip (then_n (wp_seq (wp_seq (wp_region_lit ?_))))
 refine s_m hf rfl ?_; clear hf a; intro a hf
 refine s_v hf (x_len Tryz.underlying22 (hf.eval rfl)) ?_; clear hf a; intro a hf
 refine s_m hf rfl ?_; clear hf a; intro a hf
 refine s_v hf (x_bin (hf.eval rfl) (hf.eval rfl) (r_gt _ _ _ _)) ?_; clear hf a; intro a hf
 refine s_nil (then_n ?_)
 refine c_cond_f hf rfl (by simp; omega) ?_
 refine wp_skip (then_n (wp_seq (wp_region_lit ?_)))
 refine s_m hf rfl ?_; clear hf a; intro a hf
 refine s_do hf rfl (y_makeMap hs ?_); clear hf hs a; intro m w hs a hf
 refine s_r hf (x_build (v := .agg #[.int .i64 cap, .slice none 0 0, .slice none 0 0, .map (some m), .slice none 0 0, .int .i64 0, .int .i64 (-1), .bool false]) (hf.parts rfl) (fun w => by kernel_rfl) _) ?_; clear hf a; intro a hf
 refine s_do hf rfl (y_box hs (hf.eval rfl) ?_); clear hf hs a; intro p w hs a hf
 change St _ _ (cb p 85 [.int .i64 cap, .slice none 0 0, .slice none 0 0, .map (some m), .slice none 0 0, .int .i64 0, .int .i64 (-1), .bool false] :: _) at hs
 refine s_a hf rfl ?_; clear hf a; intro a hf
 refine s_nil (then_n (wp_seq (wp_region_lit ?_)))
 refine s_m hf rfl ?_; clear hf a; intro a hf
 refine s_m hf rfl ?_; clear hf a; intro a hf
 refine s_do hf rfl (y_call (hf.eval rfl) (hf.evals rfl) Tryz.call37 ((dclone_spec _ _ _ image (hs.oldB hr1) hl1).mono ?_))
 rintro e w1 ⟨e1, fe1, rfl, hj⟩
 replace hs := hs.join hj
 simp only [List.cons_append, List.nil_append] at hs
 refine ⟨_, rfl, ?_⟩; clear hf a; intro a hf
 refine s_v hf (x_nilCheck (hf.eval rfl)) ?_; clear hf a; intro a hf
 refine s_v hf (x_fieldAddr fo85_1 (hf.eval rfl)) ?_; clear hf a; intro a hf
 refine s_do0 hf rfl (y_store hs sc22 (hf.eval rfl) (hf.eval rfl) rfl (by repeat constructor) (by simp) ?_); clear hf hs a; intro w hs a hf
 change St _ _ (_ :: cb p 85 [.int .i64 cap, (.slice e1 image.length fe1), .slice none 0 0, .map (some m), .slice none 0 0, .int .i64 0, .int .i64 (-1), .bool false] :: _) at hs
 refine s_nil (then_n (wp_seq (wp_region_lit ?_)))
 refine s_m hf rfl ?_; clear hf a; intro a hf
 refine s_m hf rfl ?_; clear hf a; intro a hf
 refine s_do hf rfl (y_call (hf.eval rfl) (hf.evals rfl) Tryz.call37 ((dclone_spec _ _ _ image (hs.oldB hr1) hl1).mono ?_))
 rintro e w1 ⟨e2, fe2, rfl, hj⟩
 replace hs := hs.join hj
 simp only [List.cons_append, List.nil_append] at hs
 refine ⟨_, rfl, ?_⟩; clear hf a; intro a hf
 refine s_v hf (x_nilCheck (hf.eval rfl)) ?_; clear hf a; intro a hf
 refine s_v hf (x_fieldAddr fo85_2 (hf.eval rfl)) ?_; clear hf a; intro a hf
 refine s_do0 hf rfl (y_store hs sc22 (hf.eval rfl) (hf.eval rfl) rfl (by repeat constructor) (by simp) ?_); clear hf hs a; intro w hs a hf
 refine s_nil (then_n (wp_seq (wp_region_lit ?_)))
 refine s_m hf rfl ?_; clear hf a; intro a hf
 refine s_a hf rfl ?_; clear hf a; intro a hf
 refine s_a hf rfl ?_; clear hf a; intro a hf
 refine s_nil (then_n ?_)
 refine wp_ret ?_
 refine r_2 hf Tryz.results7 rfl rfl ?_
 refine ⟨p, .slice e1 image.length fe1, .slice e2 image.length fe2, m, rfl, ?_⟩
 exact (hs.take .k1).take .k2
theorem rNew_ok (w0 : World) (a1 : Option Addr) (c1 : Nat) (image : List UInt8) (hr1 : RdB (hp w0) (.slice a1 image.length c1) image) (hl1 : image.length ≤ 140737488351232) (cap : Int) (hc1 : 0 ≤ cap) (hc2 : cap ≤ 16777216) (hc3 : image.length ≤ cap) : Calls Tryz.prog 8 #[.slice a1 image.length c1, .int .i64 cap] w0 fun e w' => ∃ q u1 u2, e = .returned (.tuple #[.pointer (some ⟨q, 0, none⟩), .int .i64 0]) ∧ St ⟨w0, None_⟩ w' [cb q 88 [.int .i64 cap, u1, u2, .slice none 0 0, .slice none 0 0, .int .i64 0, .int .i64 (-1), .bool true], slB 5 u1 image, slB 5 u2 image] := by
 have hs := St.start w0 None_
 refine c_enter (N := 23) Tryz.func8 rfl Tryz.ntmps8 (by simp) ?_
 intro a hf
 refine wp_seq (wp_region_lit ?_)
 refine s_a hf rfl ?_; clear hf a; intro a hf
 refine s_a hf rfl ?_; clear hf a; intro a hf
 refine s_nil (then_n (wp_seq (wp_seq (wp_region_lit ?_))))
 refine s_m hf rfl ?_; clear hf a; intro a hf
 refine s_v hf (x_bin (hf.eval rfl) (hf.eval rfl) (r_lt _ _ _ _)) ?_; clear hf a; intro a hf
 refine s_m hf rfl ?_; clear hf a; intro a hf
 replace hf := hf.now (k := 8) (v' := .bool false) rfl (congrArg Value.bool (by simp; omega))
 refine s_do hf (wanted_of hf rfl rfl rfl) (.value (x_move (hf.eval rfl) _) ?_); clear hf a; intro a hf
 refine s_do hf (wanted_of hf rfl rfl rfl) (.value (x_bin (hf.eval rfl) (hf.eval rfl) (r_gt _ _ _ _) _) ?_); clear hf a; intro a hf
 refine s_v hf (x_pick_f (hf.eval rfl) (hf.eval rfl)) ?_; clear hf a; intro a hf
 refine s_nil (then_n ?_)
 refine c_cond_f hf rfl (by simp; omega) ?_
 refine wp_skip (then_n (wp_seq (wp_seq (wp_region_lit ?_))))
 refine s_m hf rfl ?_; clear hf a; intro a hf
 refine s_v hf (x_len Tryz.underlying22 (hf.eval rfl)) ?_; clear hf a; intro a hf
 refine s_m hf rfl ?_; clear hf a; intro a hf
 refine s_v hf (x_bin (hf.eval rfl) (hf.eval rfl) (r_gt _ _ _ _)) ?_; clear hf a; intro a hf
 refine s_nil (then_n ?_)
 refine c_cond_f hf rfl (by simp; omega) ?_
 refine wp_skip (then_n (wp_seq (wp_region_lit ?_)))
 refine s_m hf rfl ?_; clear hf a; intro a hf
 refine s_m hf rfl ?_; clear hf a; intro a hf
 refine s_do hf rfl (y_call (hf.eval rfl) (hf.evals rfl) Tryz.call38 ((rclone_spec _ _ _ image (hs.oldB hr1) hl1).mono ?_))
 rintro e w1 ⟨e1, fe1, rfl, hj⟩
 replace hs := hs.join hj
 simp only [List.cons_append, List.nil_append] at hs
 refine ⟨_, rfl, ?_⟩; clear hf a; intro a hf
 refine s_m hf rfl ?_; clear hf a; intro a hf
 refine s_do hf rfl (y_call (hf.eval rfl) (hf.evals rfl) Tryz.call38 ((rclone_spec _ _ _ image (hs.oldB hr1) hl1).mono ?_))
 rintro e w1 ⟨e2, fe2, rfl, hj⟩
 replace hs := hs.join hj
 simp only [List.cons_append, List.nil_append] at hs
 refine ⟨_, rfl, ?_⟩; clear hf a; intro a hf
 refine s_r hf (x_build (v := .agg #[.int .i64 cap, .slice e1 image.length fe1, .slice e2 image.length fe2, .slice none 0 0, .slice none 0 0, .int .i64 0, .int .i64 (-1), .bool true]) (hf.parts rfl) (fun w => by kernel_rfl) _) ?_; clear hf a; intro a hf
 refine s_do hf rfl (y_box hs (hf.eval rfl) ?_); clear hf hs a; intro q w hs a hf
 change St _ _ (cb q 88 [.int .i64 cap, (.slice e1 image.length fe1), (.slice e2 image.length fe2), .slice none 0 0, .slice none 0 0, .int .i64 0, .int .i64 (-1), .bool true] :: _) at hs
 refine s_a hf rfl ?_; clear hf a; intro a hf
 refine s_a hf rfl ?_; clear hf a; intro a hf
 refine s_nil (then_n ?_)
 refine wp_ret ?_
 refine r_2 hf Tryz.results8 rfl rfl ?_
 refine ⟨q, .slice e1 image.length fe1, .slice e2 image.length fe2, rfl, ?_⟩
 exact (hs.take .k2).take .k1
theorem fuse_nil (w : World) (n : Int) : Calls Tryz.prog 9 #[.pointer none, .int .i64 n] w fun e w' => e = .returned (.tuple #[]) ∧ w' = w := by
 refine c_enter (N := 18) Tryz.func9 rfl Tryz.ntmps9 (by simp) ?_
 intro a hf
 refine wp_seq (wp_region_lit ?_)
 refine s_m hf rfl ?_; clear hf a; intro a hf
 refine s_v hf (x_neNil Tryz.underlying24 (hf.eval rfl) (hf.eval rfl)) ?_; clear hf a; intro a hf
 replace hf := hf.now (k := 5) (v' := .bool false) rfl rfl
 refine s_m hf rfl ?_; clear hf a; intro a hf
 refine s_pass hf rfl rfl ?_; clear hf a; intro a hf
 refine s_pass hf rfl rfl ?_; clear hf a; intro a hf
 refine s_pass hf rfl rfl ?_; clear hf a; intro a hf
 refine s_pass hf rfl rfl ?_; clear hf a; intro a hf
 refine s_pass hf rfl rfl ?_; clear hf a; intro a hf
 refine s_v hf (x_pick_f (hf.eval rfl) (hf.eval rfl)) ?_; clear hf a; intro a hf
 refine s_nil (then_n ?_)
 refine c_cond_f hf rfl rfl ?_
 refine wp_skip ?_
 refine r_0n hf Tryz.results9 ?_
 exact ⟨rfl, rfl⟩
theorem calls_nil (w : World) : Calls Tryz.prog 18 #[.pointer none] w fun e w' => e = .returned (.int .i64 0) ∧ w' = w := by
 refine c_enter (N := 9) Tryz.func18 rfl Tryz.ntmps18 (by simp) ?_
 intro a hf
 refine wp_seq (wp_region_lit ?_)
 refine s_a hf rfl ?_; clear hf a; intro a hf
 refine s_nil (then_n (wp_seq (wp_seq (wp_region_lit ?_))))
 refine s_m hf rfl ?_; clear hf a; intro a hf
 refine s_v hf (x_eqNil Tryz.underlying24 (hf.eval rfl) (hf.eval rfl)) ?_; clear hf a; intro a hf
 replace hf := hf.now (k := 4) (v' := .bool true) rfl rfl
 refine s_nil (then_n ?_)
 refine c_cond_t hf rfl rfl ?_
 refine wp_seq (wp_region_lit ?_)
 refine s_a hf rfl ?_; clear hf a; intro a hf
 refine s_nil (then_n ?_)
 refine wp_ret ?_
 refine then_r ?_
 refine r_1 hf Tryz.results18 rfl ?_
 exact ⟨rfl, rfl⟩
theorem alive_nil (w : World) : Calls Tryz.prog 59 #[.pointer none] w fun e w' => e = .returned (.bool false) ∧ w' = w := by
 refine c_enter (N := 12) Tryz.func59 rfl Tryz.ntmps59 (by simp) ?_
 intro a hf
 refine wp_seq (wp_region_lit ?_)
 refine s_a hf rfl ?_; clear hf a; intro a hf
 refine s_nil (then_n (wp_seq (wp_region_lit ?_)))
 refine s_m hf rfl ?_; clear hf a; intro a hf
 refine s_v hf (x_neNil Tryz.underlying24 (hf.eval rfl) (hf.eval rfl)) ?_; clear hf a; intro a hf
 replace hf := hf.now (k := 4) (v' := .bool false) rfl rfl
 refine s_m hf rfl ?_; clear hf a; intro a hf
 refine s_pass hf rfl rfl ?_; clear hf a; intro a hf
 refine s_pass hf rfl rfl ?_; clear hf a; intro a hf
 refine s_pass hf rfl rfl ?_; clear hf a; intro a hf
 refine s_pass hf rfl rfl ?_; clear hf a; intro a hf
 refine s_pass hf rfl rfl ?_; clear hf a; intro a hf
 refine s_v hf (x_pick_f (hf.eval rfl) (hf.eval rfl)) ?_; clear hf a; intro a hf
 refine s_a hf rfl ?_; clear hf a; intro a hf
 refine s_nil (then_n ?_)
 refine wp_ret ?_
 refine r_1 hf Tryz.results59 rfl ?_
 exact ⟨rfl, rfl⟩
theorem image_nil (w : World) : Calls Tryz.prog 21 #[.pointer none] w fun e w' => e = .returned (.slice none 0 0) ∧ w' = w := by
 refine c_enter (N := 10) Tryz.func21 rfl Tryz.ntmps21 (by simp) ?_
 intro a hf
 refine wp_seq (wp_region_lit ?_)
 refine s_a hf rfl ?_; clear hf a; intro a hf
 refine s_nil (then_n (wp_seq (wp_seq (wp_region_lit ?_))))
 refine s_m hf rfl ?_; clear hf a; intro a hf
 refine s_v hf (x_eqNil Tryz.underlying24 (hf.eval rfl) (hf.eval rfl)) ?_; clear hf a; intro a hf
 replace hf := hf.now (k := 4) (v' := .bool true) rfl rfl
 refine s_nil (then_n ?_)
 refine c_cond_t hf rfl rfl ?_
 refine wp_seq (wp_region_lit ?_)
 refine s_a hf rfl ?_; clear hf a; intro a hf
 refine s_nil (then_n ?_)
 refine wp_ret ?_
 refine then_r ?_
 refine r_1 hf Tryz.results21 rfl ?_
 exact ⟨rfl, rfl⟩
theorem crash_nil (w0 : World) (v : Value) : Calls Tryz.prog 33 #[.pointer none, v] w0 fun e w' => e = .returned (.tuple #[.pointer none, .int .i64 1]) ∧ Kept w0 w' None_ := by
 have hs := St.start w0 None_
 refine c_enter (N := 103) Tryz.func33 rfl Tryz.ntmps33 (by simp) ?_
 intro a hf
 refine wp_seq (wp_region_lit ?_)
 refine s_do hf rfl (y_box hs (hf.eval rfl) ?_); clear hf hs a; intro b w hs a hf
 refine s_a hf rfl ?_; clear hf a; intro a hf
 refine s_a hf rfl ?_; clear hf a; intro a hf
 refine s_nil (then_n (wp_seq (wp_seq (wp_region_lit ?_))))
 refine s_m hf rfl ?_; clear hf a; intro a hf
 refine s_v hf (x_eqNil Tryz.underlying24 (hf.eval rfl) (hf.eval rfl)) ?_; clear hf a; intro a hf
 replace hf := hf.now (k := 15) (v' := .bool true) rfl rfl
 refine s_nil (then_n ?_)
 refine c_cond_t hf rfl rfl ?_
 refine wp_seq (wp_region_lit ?_)
 refine s_a hf rfl ?_; clear hf a; intro a hf
 refine s_a hf rfl ?_; clear hf a; intro a hf
 refine s_nil (then_n ?_)
 refine wp_ret ?_
 refine then_r ?_
 refine r_2 hf Tryz.results33 rfl rfl ?_
 exact ⟨rfl, hs.kept⟩
end Go.Proofs.YtehakfbfjpolfaaGreatDoor

namespace Go.Proofs.YtehakfbfjpolfaaGreatDoor
open Go Vw
theorem mpT : MpT Tryz.prog 83 3 125 := ⟨Tryz.underlying83, Tryz.underlying3, fun w => Tryz.zeroValue125 w⟩
theorem spend_spec (σ : Sig) (w : World) (R : List Asrt) (p : Nat) (s : DS) (hs : St σ w (diskA 85 127 5 3 p s :: R)) (hf1 : s.fuse ≤ 9223372036854775807) (hf0 : -1 ≤ s.fuse) (hcl : s.calls ≤ 4611686018427387904) : Calls Tryz.prog 39 #[.pointer (some ⟨p, 0, none⟩)] w fun e w' => e = .returned (.bool (decide (s.fuse ≠ 0))) ∧ St σ w' (diskA 85 127 5 3 p (spent s) :: R) := by
 obtain ⟨⟨v1, v2, m, v4, es, clk⟩, hm, hg, hs⟩ := diskA_open hs
 dsimp only at hm hg hs
 obtain ⟨a1, c1, rfl, hc1⟩ := slB_shape (hs.take .k1)
 obtain ⟨a2, c2, rfl, hc2⟩ := slB_shape (hs.take .k2)
 obtain ⟨a4, c4, rfl⟩ := sl_shape (hs.take .k5)
 refine c_enter (N := 30) Tryz.func39 rfl Tryz.ntmps39 (by simp) ?_
 intro a hf
 refine wp_seq (wp_region_lit ?_)
 refine s_a hf rfl ?_; clear hf a; intro a hf
 refine s_nil (then_n (wp_seq (wp_seq (wp_region_lit ?_))))
 refine s_m hf rfl ?_; clear hf a; intro a hf
 refine s_v hf (x_nilCheck (hf.eval rfl)) ?_; clear hf a; intro a hf
 refine s_v hf (x_fieldAddr fo85_6 (hf.eval rfl)) ?_; clear hf a; intro a hf
 refine s_r hf (x_load sc3 (hf.eval rfl) (by apply hs.cell <;> repeat constructor)) ?_; clear hf a; intro a hf
 refine s_v hf (x_bin (hf.eval rfl) (hf.eval rfl) (r_eq _ _ _ _)) ?_; clear hf a; intro a hf
 refine s_nil (then_n ?_)
 refine c_cond hf rfl (fun hi0 => ?_) (fun hi0 => ?_)
 ·simp only [zd1, zd2, zd3, zd4, zd5, zd6, zd7] at hi0
  refine wp_seq (wp_region_lit ?_)
  refine s_m hf rfl ?_; clear hf a; intro a hf
  refine s_v hf (x_nilCheck (hf.eval rfl)) ?_; clear hf a; intro a hf
  refine s_v hf (x_fieldAddr fo85_7 (hf.eval rfl)) ?_; clear hf a; intro a hf
  refine s_do0 hf rfl (y_store hs sc4 (hf.eval rfl) (hf.eval rfl) rfl (by repeat constructor) (by simp) ?_); clear hf hs a; intro w hs a hf
  refine s_nil (then_n (wp_seq (wp_region_lit ?_)))
  refine s_a hf rfl ?_; clear hf a; intro a hf
  refine s_nil (then_n ?_)
  refine wp_ret ?_
  refine then_r ?_
  refine r_1 hf Tryz.results39 rfl ?_
  have hz : s.fuse = 0 := hi0
  refine ⟨by simp [hz], ?_⟩
  rw [spent_0 hz]
  exact diskA_close (x := ⟨_, _, m, _, es, clk⟩) hm hg hs
 simp only [zd1, zd2, zd3, zd4, zd5, zd6, zd7] at hi0
 refine wp_skip (then_n (wp_seq (wp_seq (wp_region_lit ?_))))
 refine s_m hf rfl ?_; clear hf a; intro a hf
 refine s_v hf (x_nilCheck (hf.eval rfl)) ?_; clear hf a; intro a hf
 refine s_v hf (x_fieldAddr fo85_6 (hf.eval rfl)) ?_; clear hf a; intro a hf
 refine s_r hf (x_load sc3 (hf.eval rfl) (by apply hs.cell <;> repeat constructor)) ?_; clear hf a; intro a hf
 refine s_v hf (x_bin (hf.eval rfl) (hf.eval rfl) (r_gt _ _ _ _)) ?_; clear hf a; intro a hf
 refine s_nil (then_n ?_)
 refine c_cond hf rfl (fun hi1 => ?_) (fun hi1 => ?_)
 ·simp only [zd1, zd2, zd3, zd4, zd5, zd6, zd7] at hi1
  refine wp_region_lit ?_
  refine s_m hf rfl ?_; clear hf a; intro a hf
  refine s_v hf (x_nilCheck (hf.eval rfl)) ?_; clear hf a; intro a hf
  refine s_v hf (x_fieldAddr fo85_6 (hf.eval rfl)) ?_; clear hf a; intro a hf
  refine s_r hf (x_load sc3 (hf.eval rfl) (by apply hs.cell <;> repeat constructor)) ?_; clear hf a; intro a hf
  refine s_v hf (x_bin (hf.eval rfl) (hf.eval rfl) (r_subi _ (by omega) (by omega))) ?_; clear hf a; intro a hf
  refine s_v hf (x_nilCheck (hf.eval rfl)) ?_; clear hf a; intro a hf
  refine s_v hf (x_fieldAddr fo85_6 (hf.eval rfl)) ?_; clear hf a; intro a hf
  refine s_do0 hf rfl (y_store hs sc3 (hf.eval rfl) (hf.eval rfl) rfl (by repeat constructor) (by simp) ?_); clear hf hs a; intro w hs a hf
  refine s_nil (then_n (wp_seq (wp_region_lit ?_)))
  refine s_m hf rfl ?_; clear hf a; intro a hf
  refine s_v hf (x_nilCheck (hf.eval rfl)) ?_; clear hf a; intro a hf
  refine s_v hf (x_fieldAddr fo85_5 (hf.eval rfl)) ?_; clear hf a; intro a hf
  refine s_r hf (x_load sc3 (hf.eval rfl) (by apply hs.cell <;> repeat constructor)) ?_; clear hf a; intro a hf
  refine s_v hf (x_bin (hf.eval rfl) (hf.eval rfl) (r_addi _ (by omega) (by omega))) ?_; clear hf a; intro a hf
  replace hf := hf.now (k := 27) (v' := .int .i64 ((s.calls + 1 : Nat) : Int)) rfl (by push_cast; rfl)
  refine s_v hf (x_nilCheck (hf.eval rfl)) ?_; clear hf a; intro a hf
  refine s_v hf (x_fieldAddr fo85_5 (hf.eval rfl)) ?_; clear hf a; intro a hf
  refine s_do0 hf rfl (y_store hs sc3 (hf.eval rfl) (hf.eval rfl) rfl (by repeat constructor) (by simp) ?_); clear hf hs a; intro w hs a hf
  refine s_nil (then_n (wp_seq (wp_region_lit ?_)))
  refine s_a hf rfl ?_; clear hf a; intro a hf
  refine s_nil (then_n ?_)
  refine wp_ret ?_
  refine r_1 hf Tryz.results39 rfl ?_
  refine ⟨by simp; omega, ?_⟩
  first | rw [spent_pos (show 0 < s.fuse by omega)] | rw [spent_neg (show s.fuse < 0 by omega)]
  exact diskA_close (x := ⟨_, _, m, _, es, clk⟩) hm hg hs
 simp only [zd1, zd2, zd3, zd4, zd5, zd6, zd7] at hi1
 refine wp_skip (then_n (wp_seq (wp_region_lit ?_)))
 refine s_m hf rfl ?_; clear hf a; intro a hf
 refine s_v hf (x_nilCheck (hf.eval rfl)) ?_; clear hf a; intro a hf
 refine s_v hf (x_fieldAddr fo85_5 (hf.eval rfl)) ?_; clear hf a; intro a hf
 refine s_r hf (x_load sc3 (hf.eval rfl) (by apply hs.cell <;> repeat constructor)) ?_; clear hf a; intro a hf
 refine s_v hf (x_bin (hf.eval rfl) (hf.eval rfl) (r_addi _ (by omega) (by omega))) ?_; clear hf a; intro a hf
 replace hf := hf.now (k := 27) (v' := .int .i64 ((s.calls + 1 : Nat) : Int)) rfl (by push_cast; rfl)
 refine s_v hf (x_nilCheck (hf.eval rfl)) ?_; clear hf a; intro a hf
 refine s_v hf (x_fieldAddr fo85_5 (hf.eval rfl)) ?_; clear hf a; intro a hf
 refine s_do0 hf rfl (y_store hs sc3 (hf.eval rfl) (hf.eval rfl) rfl (by repeat constructor) (by simp) ?_); clear hf hs a; intro w hs a hf
 refine s_nil (then_n (wp_seq (wp_region_lit ?_)))
 refine s_a hf rfl ?_; clear hf a; intro a hf
 refine s_nil (then_n ?_)
 refine wp_ret ?_
 refine r_1 hf Tryz.results39 rfl ?_
 refine ⟨by simp; omega, ?_⟩
 first | rw [spent_pos (show 0 < s.fuse by omega)] | rw [spent_neg (show s.fuse < 0 by omega)]
 exact diskA_close (x := ⟨_, _, m, _, es, clk⟩) hm hg hs
theorem dFuse_spec (σ : Sig) (w : World) (R : List Asrt) (p : Nat) (s : DS) (hs : St σ w (diskA 85 127 5 3 p s :: R)) (n : Int) : Calls Tryz.prog 9 #[.pointer (some ⟨p, 0, none⟩), .int .i64 n] w fun e w' => e = .returned (.tuple #[]) ∧ St σ w' (diskA 85 127 5 3 p (fuS s n) :: R) := by
 obtain ⟨⟨v1, v2, m, v4, es, clk⟩, hm, hg, hs⟩ := diskA_open hs
 dsimp only at hm hg hs
 obtain ⟨a1, c1, rfl, hc1⟩ := slB_shape (hs.take .k1)
 obtain ⟨a2, c2, rfl, hc2⟩ := slB_shape (hs.take .k2)
 obtain ⟨a4, c4, rfl⟩ := sl_shape (hs.take .k5)
 refine c_enter (N := 18) Tryz.func9 rfl Tryz.ntmps9 (by simp) ?_
 intro a hf
 refine wp_seq (wp_region_lit ?_)
 refine s_m hf rfl ?_; clear hf a; intro a hf
 refine s_v hf (x_neNil Tryz.underlying24 (hf.eval rfl) (hf.eval rfl)) ?_; clear hf a; intro a hf
 replace hf := hf.now (k := 5) (v' := .bool true) rfl rfl
 refine s_m hf rfl ?_; clear hf a; intro a hf
 refine s_do hf (wanted_of hf rfl rfl rfl) (.value (x_move (hf.eval rfl) _) ?_); clear hf a; intro a hf
 refine s_do hf (wanted_of hf rfl rfl rfl) (.value (x_nilCheck (hf.eval rfl) _) ?_); clear hf a; intro a hf
 refine s_do hf (wanted_of hf rfl rfl rfl) (.value (x_fieldAddr fo85_7 (hf.eval rfl) _) ?_); clear hf a; intro a hf
 refine s_do hf (wanted_of hf rfl rfl rfl) (.value (x_load sc4 (hf.eval rfl) (by apply hs.cell <;> repeat constructor)) ?_); clear hf a; intro a hf
 refine s_do hf (wanted_of hf rfl rfl rfl) (.value (x_not (hf.eval rfl) _) ?_); clear hf a; intro a hf
 refine s_v hf (x_pick_t (hf.eval rfl) (hf.eval rfl)) ?_; clear hf a; intro a hf
 refine s_nil (then_n ?_)
 refine c_cond hf rfl (fun hi0 => ?_) (fun hi0 => ?_)
 ·simp only [Bool.not_eq_true', Bool.not_eq_false'] at hi0
  refine wp_region_lit ?_
  refine s_m hf rfl ?_; clear hf a; intro a hf
  refine s_m hf rfl ?_; clear hf a; intro a hf
  refine s_v hf (x_maxI (hf.eval rfl) (hf.eval rfl)) ?_; clear hf a; intro a hf
  refine s_v hf (x_nilCheck (hf.eval rfl)) ?_; clear hf a; intro a hf
  refine s_v hf (x_fieldAddr fo85_6 (hf.eval rfl)) ?_; clear hf a; intro a hf
  refine s_do0 hf rfl (y_store hs sc3 (hf.eval rfl) (hf.eval rfl) rfl (by repeat constructor) (by simp) ?_); clear hf hs a; intro w hs a hf
  refine s_nil ?_
  refine r_0n hf Tryz.results9 ?_
  first | (have e : fuS s n = s := by unfold fuS; rw [if_pos hi0]) | (have e : fuS s n = { s with fuse := max n (-1) } := by unfold fuS; rw [if_neg (by simp [hi0])])
  rw [e]
  exact ⟨rfl, diskA_close (x := ⟨_, _, m, _, es, clk⟩) hm hg hs⟩
 simp only [Bool.not_eq_true', Bool.not_eq_false'] at hi0
 refine wp_skip ?_
 refine r_0n hf Tryz.results9 ?_
 first | (have e : fuS s n = s := by unfold fuS; rw [if_pos hi0]) | (have e : fuS s n = { s with fuse := max n (-1) } := by unfold fuS; rw [if_neg (by simp [hi0])])
 rw [e]
 exact ⟨rfl, diskA_close (x := ⟨_, _, m, _, es, clk⟩) hm hg hs⟩
theorem dCapacity_spec (σ : Sig) (w : World) (R : List Asrt) (p : Nat) (s : DS) (hs : St σ w (diskA 85 127 5 3 p s :: R)) : Calls Tryz.prog 79 #[.pointer (some ⟨p, 0, none⟩)] w fun e w' => e = .returned (.int .i64 s.room) ∧ w' = w := by
 obtain ⟨⟨v1, v2, m, v4, es, clk⟩, hm, hg, hs⟩ := diskA_open hs
 dsimp only at hm hg hs
 obtain ⟨a1, c1, rfl, hc1⟩ := slB_shape (hs.take .k1)
 obtain ⟨a2, c2, rfl, hc2⟩ := slB_shape (hs.take .k2)
 obtain ⟨a4, c4, rfl⟩ := sl_shape (hs.take .k5)
 refine c_enter (N := 9) Tryz.func79 rfl Tryz.ntmps79 (by simp) ?_
 intro a hf
 refine wp_seq (wp_region_lit ?_)
 refine s_a hf rfl ?_; clear hf a; intro a hf
 refine s_nil (then_n (wp_seq (wp_seq (wp_region_lit ?_))))
 refine s_m hf rfl ?_; clear hf a; intro a hf
 refine s_v hf (x_eqNil Tryz.underlying24 (hf.eval rfl) (hf.eval rfl)) ?_; clear hf a; intro a hf
 replace hf := hf.now (k := 4) (v' := .bool false) rfl rfl
 refine s_nil (then_n ?_)
 refine c_cond_f hf rfl rfl ?_
 refine wp_skip (then_n (wp_seq (wp_region_lit ?_)))
 refine s_m hf rfl ?_; clear hf a; intro a hf
 refine s_v hf (x_nilCheck (hf.eval rfl)) ?_; clear hf a; intro a hf
 refine s_v hf (x_fieldAddr fo85_0 (hf.eval rfl)) ?_; clear hf a; intro a hf
 refine s_r hf (x_load sc3 (hf.eval rfl) (by apply hs.cell <;> repeat constructor)) ?_; clear hf a; intro a hf
 refine s_a hf rfl ?_; clear hf a; intro a hf
 refine s_nil (then_n ?_)
 refine wp_ret ?_
 refine r_1 hf Tryz.results79 rfl ?_
 exact ⟨rfl, rfl⟩
theorem dCalls_spec (σ : Sig) (w : World) (R : List Asrt) (p : Nat) (s : DS) (hs : St σ w (diskA 85 127 5 3 p s :: R)) : Calls Tryz.prog 18 #[.pointer (some ⟨p, 0, none⟩)] w fun e w' => e = .returned (.int .i64 (s.calls : Int)) ∧ w' = w := by
 obtain ⟨⟨v1, v2, m, v4, es, clk⟩, hm, hg, hs⟩ := diskA_open hs
 dsimp only at hm hg hs
 obtain ⟨a1, c1, rfl, hc1⟩ := slB_shape (hs.take .k1)
 obtain ⟨a2, c2, rfl, hc2⟩ := slB_shape (hs.take .k2)
 obtain ⟨a4, c4, rfl⟩ := sl_shape (hs.take .k5)
 refine c_enter (N := 9) Tryz.func18 rfl Tryz.ntmps18 (by simp) ?_
 intro a hf
 refine wp_seq (wp_region_lit ?_)
 refine s_a hf rfl ?_; clear hf a; intro a hf
 refine s_nil (then_n (wp_seq (wp_seq (wp_region_lit ?_))))
 refine s_m hf rfl ?_; clear hf a; intro a hf
 refine s_v hf (x_eqNil Tryz.underlying24 (hf.eval rfl) (hf.eval rfl)) ?_; clear hf a; intro a hf
 replace hf := hf.now (k := 4) (v' := .bool false) rfl rfl
 refine s_nil (then_n ?_)
 refine c_cond_f hf rfl rfl ?_
 refine wp_skip (then_n (wp_seq (wp_region_lit ?_)))
 refine s_m hf rfl ?_; clear hf a; intro a hf
 refine s_v hf (x_nilCheck (hf.eval rfl)) ?_; clear hf a; intro a hf
 refine s_v hf (x_fieldAddr fo85_5 (hf.eval rfl)) ?_; clear hf a; intro a hf
 refine s_r hf (x_load sc3 (hf.eval rfl) (by apply hs.cell <;> repeat constructor)) ?_; clear hf a; intro a hf
 refine s_a hf rfl ?_; clear hf a; intro a hf
 refine s_nil (then_n ?_)
 refine wp_ret ?_
 refine r_1 hf Tryz.results18 rfl ?_
 exact ⟨rfl, rfl⟩
theorem dAlive_spec (σ : Sig) (w : World) (R : List Asrt) (p : Nat) (s : DS) (hs : St σ w (diskA 85 127 5 3 p s :: R)) : Calls Tryz.prog 59 #[.pointer (some ⟨p, 0, none⟩)] w fun e w' => e = .returned (.bool (!s.dead)) ∧ w' = w := by
 obtain ⟨⟨v1, v2, m, v4, es, clk⟩, hm, hg, hs⟩ := diskA_open hs
 dsimp only at hm hg hs
 obtain ⟨a1, c1, rfl, hc1⟩ := slB_shape (hs.take .k1)
 obtain ⟨a2, c2, rfl, hc2⟩ := slB_shape (hs.take .k2)
 obtain ⟨a4, c4, rfl⟩ := sl_shape (hs.take .k5)
 refine c_enter (N := 12) Tryz.func59 rfl Tryz.ntmps59 (by simp) ?_
 intro a hf
 refine wp_seq (wp_region_lit ?_)
 refine s_a hf rfl ?_; clear hf a; intro a hf
 refine s_nil (then_n (wp_seq (wp_region_lit ?_)))
 refine s_m hf rfl ?_; clear hf a; intro a hf
 refine s_v hf (x_neNil Tryz.underlying24 (hf.eval rfl) (hf.eval rfl)) ?_; clear hf a; intro a hf
 replace hf := hf.now (k := 4) (v' := .bool true) rfl rfl
 refine s_m hf rfl ?_; clear hf a; intro a hf
 refine s_do hf (wanted_of hf rfl rfl rfl) (.value (x_move (hf.eval rfl) _) ?_); clear hf a; intro a hf
 refine s_do hf (wanted_of hf rfl rfl rfl) (.value (x_nilCheck (hf.eval rfl) _) ?_); clear hf a; intro a hf
 refine s_do hf (wanted_of hf rfl rfl rfl) (.value (x_fieldAddr fo85_7 (hf.eval rfl) _) ?_); clear hf a; intro a hf
 refine s_do hf (wanted_of hf rfl rfl rfl) (.value (x_load sc4 (hf.eval rfl) (by apply hs.cell <;> repeat constructor)) ?_); clear hf a; intro a hf
 refine s_do hf (wanted_of hf rfl rfl rfl) (.value (x_not (hf.eval rfl) _) ?_); clear hf a; intro a hf
 refine s_v hf (x_pick_t (hf.eval rfl) (hf.eval rfl)) ?_; clear hf a; intro a hf
 refine s_a hf rfl ?_; clear hf a; intro a hf
 refine s_nil (then_n ?_)
 refine wp_ret ?_
 refine r_1 hf Tryz.results59 rfl ?_
 exact ⟨rfl, rfl⟩
theorem dImage_spec (σ : Sig) (w : World) (R : List Asrt) (p : Nat) (s : DS) (hs : St σ w (diskA 85 127 5 3 p s :: R)) (hn : s.now.length ≤ 140737488351232) : Calls Tryz.prog 21 #[.pointer (some ⟨p, 0, none⟩)] w fun e w' => ∃ a c, e = .returned (.slice a s.now.length c) ∧ St σ w' (slB 5 (.slice a s.now.length c) s.now :: diskA 85 127 5 3 p s :: R) := by
 obtain ⟨⟨v1, v2, m, v4, es, clk⟩, hm, hg, hs⟩ := diskA_open hs
 dsimp only at hm hg hs
 obtain ⟨a1, c1, rfl, hc1⟩ := slB_shape (hs.take .k1)
 obtain ⟨a2, c2, rfl, hc2⟩ := slB_shape (hs.take .k2)
 obtain ⟨a4, c4, rfl⟩ := sl_shape (hs.take .k5)
 refine c_enter (N := 10) Tryz.func21 rfl Tryz.ntmps21 (by simp) ?_
 intro a hf
 refine wp_seq (wp_region_lit ?_)
 refine s_a hf rfl ?_; clear hf a; intro a hf
 refine s_nil (then_n (wp_seq (wp_seq (wp_region_lit ?_))))
 refine s_m hf rfl ?_; clear hf a; intro a hf
 refine s_v hf (x_eqNil Tryz.underlying24 (hf.eval rfl) (hf.eval rfl)) ?_; clear hf a; intro a hf
 replace hf := hf.now (k := 4) (v' := .bool false) rfl rfl
 refine s_nil (then_n ?_)
 refine c_cond_f hf rfl rfl ?_
 refine wp_skip (then_n (wp_seq (wp_region_lit ?_)))
 refine s_m hf rfl ?_; clear hf a; intro a hf
 refine s_v hf (x_nilCheck (hf.eval rfl)) ?_; clear hf a; intro a hf
 refine s_v hf (x_fieldAddr fo85_1 (hf.eval rfl)) ?_; clear hf a; intro a hf
 refine s_r hf (x_load sc22 (hf.eval rfl) (by apply hs.cell <;> repeat constructor)) ?_; clear hf a; intro a hf
 refine s_do hf rfl (y_call (hf.eval rfl) (hf.evals rfl) Tryz.call37 ((dclone_spec _ _ _ s.now (hs.rdB .k1 fun h => slB_rd) (by omega)).mono ?_))
 rintro e w1 ⟨e1, fe1, rfl, hj⟩
 replace hs := hs.join hj
 simp only [List.cons_append, List.nil_append] at hs
 refine ⟨_, rfl, ?_⟩; clear hf a; intro a hf
 refine s_a hf rfl ?_; clear hf a; intro a hf
 refine s_nil (then_n ?_)
 refine wp_ret ?_
 refine r_1 hf Tryz.results21 rfl ?_
 refine ⟨_, _, rfl, ?_⟩
 exact (diskA_close (s := s) (x := ⟨_, _, m, _, es, clk⟩) (R := slB 5 _ s.now :: R) hm hg (St.give (L := _) hs .k6)).take .k1
end Go.Proofs.YtehakfbfjpolfaaGreatDoor

namespace Go.Proofs.YtehakfbfjpolfaaGreatDoor
open Go Vw
theorem lay_spec (σ : Sig) (w : World) (R : List Asrt) (p : Nat) (s : DS) (hs : St σ w (diskA 85 127 5 3 p s :: R)) (at_ : Nat) (ad : Option Addr) (cd : Nat) (data : List UInt8) (hr : Rdy σ R (.slice ad data.length cd) data) (hd : data ≠ []) (hat : at_ ≤ s.now.length) (hsz : at_ + data.length ≤ 16777216) (hnow : s.now.length ≤ 16777216) (hpc : s.pcs.length ≤ 1099511627776) : Calls Tryz.prog 109 #[.pointer (some ⟨p, 0, none⟩), .int .i64 (at_ : Int), .slice ad data.length cd] w fun e w' => e = .returned (.tuple #[]) ∧ St σ w' (diskA 85 127 5 3 p (layS s at_ data) :: R) := by
 have hdl : 0 < data.length := List.length_pos_iff.2 hd
 obtain ⟨E, hE⟩ : ∃ E, E = ext s.now (at_ + data.length) := ⟨_, rfl⟩
 have hEl : E.length = max s.now.length (at_ + data.length) := by rw [hE, ext_length]
 obtain ⟨⟨v1, v2, m, v4, es, clk⟩, hm, hg, hs⟩ := diskA_open hs
 dsimp only at hm hg hs
 obtain ⟨a1, c1, rfl, hc1⟩ := slB_shape (hs.take .k1)
 obtain ⟨a2, c2, rfl, hc2⟩ := slB_shape (hs.take .k2)
 obtain ⟨a4, c4, rfl⟩ := sl_shape (hs.take .k5)
 refine c_enter (N := 82) Tryz.func109 rfl Tryz.ntmps109 (by simp) ?_
 intro a hf
 refine wp_seq (wp_seq (wp_region_lit ?_))
 refine s_m hf rfl ?_; clear hf a; intro a hf
 refine s_m hf rfl ?_; clear hf a; intro a hf
 refine s_v hf (x_len Tryz.underlying22 (hf.eval rfl)) ?_; clear hf a; intro a hf
 refine s_v hf (x_bin (hf.eval rfl) (hf.eval rfl) (r_addi _ (by omega) (by omega))) ?_; clear hf a; intro a hf
 refine s_m hf rfl ?_; clear hf a; intro a hf
 refine s_v hf (x_nilCheck (hf.eval rfl)) ?_; clear hf a; intro a hf
 refine s_v hf (x_fieldAddr fo85_1 (hf.eval rfl)) ?_; clear hf a; intro a hf
 refine s_r hf (x_load sc22 (hf.eval rfl) (by apply hs.cell <;> repeat constructor)) ?_; clear hf a; intro a hf
 refine s_v hf (x_len Tryz.underlying22 (hf.eval rfl)) ?_; clear hf a; intro a hf
 refine s_v hf (x_bin (hf.eval rfl) (hf.eval rfl) (r_gt _ _ _ _)) ?_; clear hf a; intro a hf
 refine s_nil (then_n ?_)
 refine c_cond hf rfl (fun hi0 => ?_) (fun hi0 => ?_)
 ·simp only [zd1, zd2, zd3, zd4, zd5, zd6, zd7] at hi0
  refine c_draw hs (fun _ => True) [.held, .held, .held, .held, .read, .held, .held, .held, .held, .held, .held, .held, .read, .held, .held, .eff, .held, .held, .fin] (by kernel_rfl) (by kernel_rfl) (fun _ _ _ => trivial) ?_
  clear hs; intro w hs hC hw
  refine m_held hf rfl (fun w' _ => x_move (hf.eval rfl) w') ?_; clear hf a; intro a hf
  refine m_held hf rfl (fun w' _ => x_move (hf.eval rfl) w') ?_; clear hf a; intro a hf
  refine m_held hf rfl (fun w' _ => x_nilCheck (hf.eval rfl) w') ?_; clear hf a; intro a hf
  refine m_held hf rfl (fun w' _ => x_fieldAddr fo85_1 (hf.eval rfl) w') ?_; clear hf a; intro a hf
  refine m_read hf rfl (x_load sc22 (hf.eval rfl) (by apply hs.cell <;> repeat constructor)) ?_; clear hf a; intro a hf
  refine m_held hf rfl (fun w' _ => x_move (hf.eval rfl) w') ?_; clear hf a; intro a hf
  refine m_held hf rfl (fun w' _ => x_move (hf.eval rfl) w') ?_; clear hf a; intro a hf
  refine m_held hf rfl (fun w' _ => x_len Tryz.underlying22 (hf.eval rfl) w') ?_; clear hf a; intro a hf
  refine m_held hf rfl (fun w' _ => x_bin (hf.eval rfl) (hf.eval rfl) (r_addi _ (by omega) (by omega)) w') ?_; clear hf a; intro a hf
  refine m_held hf rfl (fun w' _ => x_move (hf.eval rfl) w') ?_; clear hf a; intro a hf
  refine m_held hf rfl (fun w' _ => x_nilCheck (hf.eval rfl) w') ?_; clear hf a; intro a hf
  refine m_held hf rfl (fun w' _ => x_fieldAddr fo85_1 (hf.eval rfl) w') ?_; clear hf a; intro a hf
  refine m_read hf rfl (x_load sc22 (hf.eval rfl) (by apply hs.cell <;> repeat constructor)) ?_; clear hf a; intro a hf
  refine m_held hf rfl (fun w' _ => x_len Tryz.underlying22 (hf.eval rfl) w') ?_; clear hf a; intro a hf
  refine m_held hf rfl (fun w' _ => x_bin (hf.eval rfl) (hf.eval rfl) (r_subi _ (by omega) (by omega)) w') ?_; clear hf a; intro a hf
  refine m_eff hf rfl (y_appendZ (n := at_ + data.length - s.now.length) hs sl22 Tryz.underlying3 (hf.eval rfl) (hf.eval rfl) (by omega) (by omega) .k1 (by omega) ?_); clear hf hs a; intro v w hs; refine ⟨trivial, ?_⟩; intro a hf
  rw [show s.now ++ List.replicate (at_ + data.length - s.now.length) 0 = E from hE.symm] at hs
  clear hc1
  obtain ⟨a9, c9, rfl, hc9⟩ := slB_shape hs
  refine m_held hf rfl (fun w' _ => x_nilCheck (hf.eval rfl) w') ?_; clear hf a; intro a hf
  refine m_held hf rfl (fun w' _ => x_fieldAddr fo85_1 (hf.eval rfl) w') ?_; clear hf a; intro a hf
  refine m_fin0 hf rfl (y_store hs sc22 (hf.eval rfl) (hf.eval rfl) rfl (by repeat constructor) (by simp) ?_); clear hf hs a; intro w hs; intro a hf
  replace hs := hs.take .k1
  refine then_n (wp_seq (wp_region_lit ?_))
  obtain ⟨b1, cc, hb1, _⟩ := slB_block (hs.take .k1) (by omega)
  injection hb1 with hb1 _ hb1c
  subst hb1
  refine s_m hf rfl ?_; clear hf a; intro a hf
  refine s_v hf (x_nilCheck (hf.eval rfl)) ?_; clear hf a; intro a hf
  refine s_v hf (x_fieldAddr fo85_1 (hf.eval rfl)) ?_; clear hf a; intro a hf
  refine s_r hf (x_load sc22 (hf.eval rfl) (by apply hs.cell <;> repeat constructor)) ?_; clear hf a; intro a hf
  refine s_m hf rfl ?_; clear hf a; intro a hf
  refine s_v hf (x_slice_lo sl22 (hf.eval rfl) (hf.eval rfl)  (by omega) (by omega) ) ?_; clear hf a; intro a hf
  replace hf := hf.now (k := 41) (v' := .slice (subA (some ⟨b1, 0, none⟩) cc at_ 1) (E.length - at_) (cc - at_)) rfl (by rw [hb1c]; rfl)
  refine s_m hf rfl ?_; clear hf a; intro a hf
  subst hb1c
  refine s_do hf rfl (y_copyAt (T := 5) (n := E.length) (o := at_) (s := data) hs sl22 (hf.eval rfl) rfl (hf.eval rfl) .k1 (hr _ [_, _, _, _, _, _] hs) (by omega) rfl ?_); clear hf hs a; intro w hs a hf
  rw [show min data.length (E.length - at_) = data.length by omega, List.take_length] at hs
  have hXl : (spl E at_ data).length = E.length := spl_length _ _ _ (by omega)
  rw [← hXl] at hs
  replace hs := diskA_close (s := { s with now := spl E at_ data }) (x := ⟨_, _, m, _, es, clk⟩) hm hg (hs.take .k1)
  rw [hE] at hs
  replace hs : St σ w (diskA 85 127 5 3 p { s with now := (spl (ext s.now (at_ + data.length)) at_ data), pcs := s.pcs } :: R) := hs
  refine s_nil (then_n (wp_block ?_))
  refine c_loop (L0 := [(0, _)]) (fun M w m => ∃ (k : Nat) (a' : Option Addr) (c' : Nat) (P : List Pc), M = [(1, .int .i64 ((at_ + k : Nat) : Int)), (2, .slice a' (data.length - k) c')] ∧ data.length - k = m ∧ k ≤ data.length ∧ P ++ cut (at_ + k) (data.drop k) = s.pcs ++ cut at_ data ∧ Rdy σ R (.slice a' (data.length - k) c') (data.drop k) ∧ St σ w (diskA 85 127 5 3 p { s with now := (spl (ext s.now (at_ + data.length)) at_ data), pcs := P } :: R)) (M0 := _) (⟨0, ad, cd, s.pcs, rfl, rfl, Nat.zero_le _, rfl, hr, hs⟩) (hf.sub ⟨rfl, rfl, rfl, trivial⟩) ?_
  clear hf hs a
  rintro M m a w ⟨k, a', c', P, rfl, rfl, hk, hP, hr', hs⟩ hf
  clear hr
  refine wp_seq (wp_seq (wp_region_lit ?_))
  refine s_m hf rfl ?_; clear hf a; intro a hf
  refine s_v hf (x_len Tryz.underlying22 (hf.eval rfl)) ?_; clear hf a; intro a hf
  refine s_v hf (x_bin (hf.eval rfl) (hf.eval rfl) (r_gt _ _ _ _)) ?_; clear hf a; intro a hf
  refine s_nil (then_n ?_)
  refine c_cond hf rfl (fun hi1 => ?_) (fun hi1 => ?_)
  ·simp only [zd1, zd2, zd3, zd4, zd5, zd6, zd7] at hi1
   have hlt : k < data.length := by omega
   obtain ⟨q, hq⟩ : ∃ q, q = secN (at_ + k) (data.length - k) := ⟨_, rfl⟩
   have hq0 : 0 < q := by rw [hq]; exact secN_pos (by omega)
   have hq1 : q ≤ data.length - k := by rw [hq]; exact secN_le _ _
   have hdk : (data.drop k).length = data.length - k := List.length_drop ..
   have hcq : ((data.drop k).take q).length = q := by rw [List.length_take]; omega
   have hP9 : P.length ≤ 1099511700000 := by have h9 := congrArg List.length hP; simp only [List.length_append] at h9; have := cut_len data.length at_ data (Nat.le_refl _); omega
   obtain ⟨⟨v1, v2, m, v4, es, clk⟩, hm, hg, hs⟩ := diskA_open hs
   dsimp only at hm hg hs
   obtain ⟨a1, c1, rfl, hc1⟩ := slB_shape (hs.take .k1)
   obtain ⟨a2, c2, rfl, hc2⟩ := slB_shape (hs.take .k2)
   obtain ⟨a4, c4, rfl⟩ := sl_shape (hs.take .k5)
   refine wp_skip (then_n (wp_block (wp_seq (wp_region_lit ?_))))
   refine s_m hf rfl ?_; clear hf a; intro a hf
   refine s_v hf (x_bin (hf.eval rfl) (hf.eval rfl) (r_quon _ (by omega) (by omega) (by omega))) ?_; clear hf a; intro a hf
   replace hf := hf.now (k := 48) (v' := .int .i64 (((at_ + k) / 512 : Nat) : Int)) rfl (rfl)
   refine s_a hf rfl ?_; clear hf a; intro a hf
   refine s_nil (then_n (wp_seq (wp_region_lit ?_)))
   refine s_m hf rfl ?_; clear hf a; intro a hf
   refine s_v hf (x_len Tryz.underlying22 (hf.eval rfl)) ?_; clear hf a; intro a hf
   refine s_m hf rfl ?_; clear hf a; intro a hf
   refine s_v hf (x_bin (hf.eval rfl) (hf.eval rfl) (r_addi _ (by omega) (by omega))) ?_; clear hf a; intro a hf
   refine s_v hf (x_bin (hf.eval rfl) (hf.eval rfl) (r_muli _ (by omega) (by omega))) ?_; clear hf a; intro a hf
   refine s_m hf rfl ?_; clear hf a; intro a hf
   refine s_v hf (x_bin (hf.eval rfl) (hf.eval rfl) (r_subi _ (by omega) (by omega))) ?_; clear hf a; intro a hf
   refine s_v hf (x_minI (hf.eval rfl) (hf.eval rfl)) ?_; clear hf a; intro a hf
   replace hf := hf.now (k := 56) (v' := .int .i64 (q : Int)) rfl (by rw [hq]; unfold secN; congr 1; omega)
   refine s_a hf rfl ?_; clear hf a; intro a hf
   refine s_nil (then_n (wp_seq ?_))
   obtain ⟨vv, ps, er, hps, hs, hlook, hupd⟩ := map_open (Q := 127) (T := 5) ((at_ + k) / 512) mpT hm ((hs.take .k4).take .k4)
   have hpl : ps.length ≤ P.length := by have h9 := congrArg List.length hps; rw [List.length_map] at h9; have := eps_len hg ((at_ + k) / 512); omega
   have hcap := (hr' _ [_, _, _, _, _, _, _, _] hs).cap
   refine c_draw hs (fun w' => w'.heap[m]? = some (.map (es.map Ent.mem).toArray clk) ∧ w'.cell? ⟨p, 3, none⟩ = some (.map (some m)) ∧ RdB (hp w') (.slice a' (data.length - k) c') (data.drop k)) [.held, .held, .held, .held, .held, .held, .held, .held, .held, .held, .held, .held, .held, .held, .held, .eff, .held, .eff, .eff, .fin] (by kernel_rfl) (by kernel_rfl) (fun w' _ hs => ⟨hs.blk_at .k2, hs.cell (k := 3) .k4 rfl, hr' _ [_, _, _, _, _, _, _, _] hs⟩) ?_
   clear hs; intro w hs hC hw
   refine m_held hf rfl (fun w' _ => x_move (hf.eval rfl) w') ?_; clear hf a; intro a hf
   refine m_held hf rfl (fun w' _ => x_nilCheck (hf.eval rfl) w') ?_; clear hf a; intro a hf
   refine m_held hf rfl (fun w' _ => x_fieldAddr fo85_3 (hf.eval rfl) w') ?_; clear hf a; intro a hf
   refine m_held hf rfl (fun w' hc => x_load sc83 (hf.eval rfl) hc.2.1) ?_; clear hf a; intro a hf
   refine m_held hf rfl (fun w' _ => x_move (hf.eval rfl) w') ?_; clear hf a; intro a hf
   refine m_held hf rfl (fun w' _ => x_move (hf.eval rfl) w') ?_; clear hf a; intro a hf
   refine m_held hf rfl (fun w' _ => x_nilCheck (hf.eval rfl) w') ?_; clear hf a; intro a hf
   refine m_held hf rfl (fun w' _ => x_fieldAddr fo85_3 (hf.eval rfl) w') ?_; clear hf a; intro a hf
   refine m_held hf rfl (fun w' hc => x_load sc83 (hf.eval rfl) hc.2.1) ?_; clear hf a; intro a hf
   refine m_held hf rfl (fun w' _ => x_move (hf.eval rfl) w') ?_; clear hf a; intro a hf
   refine m_held hf rfl (fun w' hc => x_lookup (hf.eval rfl) (hf.eval rfl) (hlook _ hc.1)) ?_; clear hf a; intro a hf
   refine m_held hf rfl (fun w' _ => x_move (hf.eval rfl) w') ?_; clear hf a; intro a hf
   refine m_held hf rfl (fun w' _ => x_move (hf.eval rfl) w') ?_; clear hf a; intro a hf
   refine m_held hf rfl (fun w' _ => x_move (hf.eval rfl) w') ?_; clear hf a; intro a hf
   refine m_held hf rfl (fun w' _ => x_slice_hi sl22 (hf.eval rfl) (hf.eval rfl)  (by omega) (by omega)  w') ?_; clear hf a; intro a hf
   replace hf := hf.now (k := 71) (v' := .slice a' ((data.drop k).take q).length c') rfl (by first | rfl | (rw [hcq]; done) | (rw [hcq]; rfl))
   refine m_eff hf rfl (y_call (hf.eval rfl) (hf.evals rfl) Tryz.call37 ((dclone_spec _ _ _ ((data.drop k).take q) (by rw [hcq]; exact RdB.pre hC.2.2 hdk (by omega)) (by omega)).mono ?_))
   rintro e w1 ⟨e1, fe1, rfl, hj⟩
   replace hs := hs.join hj
   simp only [List.cons_append, List.nil_append] at hs
   refine ⟨_, rfl, ⟨⟨hs.blk_at .k3, hs.cell (k := 3) .k5 rfl, hr' _ [_, _, _, _, _, _, _, _, _] hs⟩, ?_⟩⟩; clear hf a; intro a hf
   refine m_held hf rfl (fun w' hc => x_build (v := .agg #[.int .i64 ((at_ + k : Nat) : Int), .slice e1 ((data.drop k).take q).length fe1]) (hf.parts rfl) (fun w => by kernel_rfl) _) ?_; clear hf a; intro a hf
   refine m_eff hf rfl (y_lit (xs := [.tmp 73]) hs sl125 (hf.evals rfl) rfl (by simp [Value.cells]) (by decide) ?_); clear hf hs a; intro b2 w hs; refine ⟨⟨hs.blk_at .k4, hs.cell (k := 3) .k6 rfl, hr' _ [_, _, _, _, _, _, _, _, _, _] hs⟩, ?_⟩; intro a hf
   refine m_eff hf rfl (y_append (n := ps.length) (m := 1) (ys := [.int .i64 ((at_ + k : Nat) : Int), .slice e1 ((data.drop k).take q).length fe1]) hs sl125 (hf.eval rfl) (hf.eval rfl) .k2 (hs.rd .k0 fun h hb => rd_rows hb rfl) (by simp [Value.oneCell']) (by omega) (by rw [maxLen_eq]; omega) ?_); clear hf hs a; intro v2 w hs hv; refine ⟨⟨hs.blk_at .k4, hs.cell (k := 3) .k6 rfl, hr' _ [_, _, _, _, _, _, _, _, _, _] hs⟩, ?_⟩; intro a hf
   replace hs := push_form (at_ := at_ + k) (hs.lose .k1) (by simp) (by simp [pcF])
   obtain ⟨es2, clk2, hm2, hi1, hi2, hup⟩ := hupd v2 (ps ++ [(at_ + k, .slice e1 ((data.drop k).take q).length fe1, (data.drop k).take q)])
   obtain ⟨w9, hrun, hs⟩ := hup _ hs
   have hg2 : Grp es2 (P ++ [(at_ + k, (data.drop k).take q)]) := grp_push hg (by rw [hi1, List.map_append, hps]; rfl) hi2
   refine m_fin0 hf rfl (y_mapUpdate (hf.eval rfl) (hf.eval rfl) (hf.eval rfl) hrun ?_); clear hf a; intro a hf
   replace hs := diskA_close (s := { s with now := (spl (ext s.now (at_ + data.length)) at_ data), pcs := P ++ [(at_ + k, (data.drop k).take q)] }) (x := ⟨_, _, m, _, es2, clk2⟩) hm2 hg2 (((hs.take .k4).take .k4).take .k4)
   refine then_n (wp_seq (wp_region_lit ?_))
   refine s_m hf rfl ?_; clear hf a; intro a hf
   refine s_m hf rfl ?_; clear hf a; intro a hf
   refine s_v hf (x_bin (hf.eval rfl) (hf.eval rfl) (r_addi _ (by omega) (by omega))) ?_; clear hf a; intro a hf
   replace hf := hf.now (k := 78) (v' := .int .i64 ((at_ + (k + q) : Nat) : Int)) rfl (by congr 1; omega)
   refine s_a hf rfl ?_; clear hf a; intro a hf
   refine s_nil (then_n (wp_region_lit ?_))
   refine s_m hf rfl ?_; clear hf a; intro a hf
   refine s_m hf rfl ?_; clear hf a; intro a hf
   refine s_v hf (x_slice_lo sl22 (hf.eval rfl) (hf.eval rfl)  (by omega) (by omega) ) ?_; clear hf a; intro a hf
   replace hf := hf.now (k := 81) (v' := .slice (subA a' c' q 1) (data.length - (k + q)) (c' - q)) rfl (by congr 1; omega)
   have hr2 := Rdy.rest hr' hdk (i := q) (by omega)
   rw [List.drop_drop, show data.length - k - q = data.length - (k + q) by omega] at hr2
   have hP2 : P ++ [(at_ + k, (data.drop k).take q)] ++ cut (at_ + (k + q)) (data.drop (k + q)) = s.pcs ++ cut at_ data := by rw [← hP, cut_cons (l := data.drop k) (by intro h9; rw [h9] at hdk; simp at hdk; omega), hdk, ← hq, List.drop_drop, Nat.add_assoc, List.append_assoc]; rfl
   refine s_a hf rfl ?_; clear hf a; intro a hf
   refine s_nil (blk_n ?_)
   exact ⟨_, _, ⟨k + q, _, _, P ++ [(at_ + k, (data.drop k).take q)], rfl, rfl, by omega, hP2, hr2, hs⟩, by omega, hf.sub ⟨rfl, rfl, rfl, trivial⟩⟩
  simp only [zd1, zd2, zd3, zd4, zd5, zd6, zd7] at hi1
  refine wp_exit (then_x (then_x (blk_x ?_)))
  refine r_0n hf Tryz.results109 ?_
  have hk9 : k = data.length := by omega
  subst hk9
  rw [List.drop_length, cut_nil, List.append_nil] at hP
  subst hP
  exact ⟨rfl, hs⟩
 simp only [zd1, zd2, zd3, zd4, zd5, zd6, zd7] at hi0
 have hEs : E = s.now := by rw [hE, ext_same (by omega)]
 rw [← hEs] at hs
 refine wp_skip (then_n (wp_seq (wp_region_lit ?_)))
 obtain ⟨b1, cc, hb1, _⟩ := slB_block (hs.take .k1) (by omega)
 injection hb1 with hb1 _ hb1c
 subst hb1
 refine s_m hf rfl ?_; clear hf a; intro a hf
 refine s_v hf (x_nilCheck (hf.eval rfl)) ?_; clear hf a; intro a hf
 refine s_v hf (x_fieldAddr fo85_1 (hf.eval rfl)) ?_; clear hf a; intro a hf
 refine s_r hf (x_load sc22 (hf.eval rfl) (by apply hs.cell <;> repeat constructor)) ?_; clear hf a; intro a hf
 refine s_m hf rfl ?_; clear hf a; intro a hf
 refine s_v hf (x_slice_lo sl22 (hf.eval rfl) (hf.eval rfl)  (by omega) (by omega) ) ?_; clear hf a; intro a hf
 replace hf := hf.now (k := 41) (v' := .slice (subA (some ⟨b1, 0, none⟩) cc at_ 1) (E.length - at_) (cc - at_)) rfl (by rw [hb1c]; rfl)
 refine s_m hf rfl ?_; clear hf a; intro a hf
 subst hb1c
 refine s_do hf rfl (y_copyAt (T := 5) (n := E.length) (o := at_) (s := data) hs sl22 (hf.eval rfl) rfl (hf.eval rfl) .k1 (hr _ [_, _, _, _, _, _] hs) (by omega) rfl ?_); clear hf hs a; intro w hs a hf
 rw [show min data.length (E.length - at_) = data.length by omega, List.take_length] at hs
 have hXl : (spl E at_ data).length = E.length := spl_length _ _ _ (by omega)
 rw [← hXl] at hs
 replace hs := diskA_close (s := { s with now := spl E at_ data }) (x := ⟨_, _, m, _, es, clk⟩) hm hg (hs.take .k1)
 rw [hE] at hs
 replace hs : St σ w (diskA 85 127 5 3 p { s with now := (spl (ext s.now (at_ + data.length)) at_ data), pcs := s.pcs } :: R) := hs
 refine s_nil (then_n (wp_block ?_))
 refine c_loop (L0 := [(0, _)]) (fun M w m => ∃ (k : Nat) (a' : Option Addr) (c' : Nat) (P : List Pc), M = [(1, .int .i64 ((at_ + k : Nat) : Int)), (2, .slice a' (data.length - k) c')] ∧ data.length - k = m ∧ k ≤ data.length ∧ P ++ cut (at_ + k) (data.drop k) = s.pcs ++ cut at_ data ∧ Rdy σ R (.slice a' (data.length - k) c') (data.drop k) ∧ St σ w (diskA 85 127 5 3 p { s with now := (spl (ext s.now (at_ + data.length)) at_ data), pcs := P } :: R)) (M0 := _) (⟨0, ad, cd, s.pcs, rfl, rfl, Nat.zero_le _, rfl, hr, hs⟩) (hf.sub ⟨rfl, rfl, rfl, trivial⟩) ?_
 clear hf hs a
 rintro M m a w ⟨k, a', c', P, rfl, rfl, hk, hP, hr', hs⟩ hf
 clear hr
 refine wp_seq (wp_seq (wp_region_lit ?_))
 refine s_m hf rfl ?_; clear hf a; intro a hf
 refine s_v hf (x_len Tryz.underlying22 (hf.eval rfl)) ?_; clear hf a; intro a hf
 refine s_v hf (x_bin (hf.eval rfl) (hf.eval rfl) (r_gt _ _ _ _)) ?_; clear hf a; intro a hf
 refine s_nil (then_n ?_)
 refine c_cond hf rfl (fun hi1 => ?_) (fun hi1 => ?_)
 ·simp only [zd1, zd2, zd3, zd4, zd5, zd6, zd7] at hi1
  have hlt : k < data.length := by omega
  obtain ⟨q, hq⟩ : ∃ q, q = secN (at_ + k) (data.length - k) := ⟨_, rfl⟩
  have hq0 : 0 < q := by rw [hq]; exact secN_pos (by omega)
  have hq1 : q ≤ data.length - k := by rw [hq]; exact secN_le _ _
  have hdk : (data.drop k).length = data.length - k := List.length_drop ..
  have hcq : ((data.drop k).take q).length = q := by rw [List.length_take]; omega
  have hP9 : P.length ≤ 1099511700000 := by have h9 := congrArg List.length hP; simp only [List.length_append] at h9; have := cut_len data.length at_ data (Nat.le_refl _); omega
  obtain ⟨⟨v1, v2, m, v4, es, clk⟩, hm, hg, hs⟩ := diskA_open hs
  dsimp only at hm hg hs
  obtain ⟨a1, c1, rfl, hc1⟩ := slB_shape (hs.take .k1)
  obtain ⟨a2, c2, rfl, hc2⟩ := slB_shape (hs.take .k2)
  obtain ⟨a4, c4, rfl⟩ := sl_shape (hs.take .k5)
  refine wp_skip (then_n (wp_block (wp_seq (wp_region_lit ?_))))
  refine s_m hf rfl ?_; clear hf a; intro a hf
  refine s_v hf (x_bin (hf.eval rfl) (hf.eval rfl) (r_quon _ (by omega) (by omega) (by omega))) ?_; clear hf a; intro a hf
  replace hf := hf.now (k := 48) (v' := .int .i64 (((at_ + k) / 512 : Nat) : Int)) rfl (rfl)
  refine s_a hf rfl ?_; clear hf a; intro a hf
  refine s_nil (then_n (wp_seq (wp_region_lit ?_)))
  refine s_m hf rfl ?_; clear hf a; intro a hf
  refine s_v hf (x_len Tryz.underlying22 (hf.eval rfl)) ?_; clear hf a; intro a hf
  refine s_m hf rfl ?_; clear hf a; intro a hf
  refine s_v hf (x_bin (hf.eval rfl) (hf.eval rfl) (r_addi _ (by omega) (by omega))) ?_; clear hf a; intro a hf
  refine s_v hf (x_bin (hf.eval rfl) (hf.eval rfl) (r_muli _ (by omega) (by omega))) ?_; clear hf a; intro a hf
  refine s_m hf rfl ?_; clear hf a; intro a hf
  refine s_v hf (x_bin (hf.eval rfl) (hf.eval rfl) (r_subi _ (by omega) (by omega))) ?_; clear hf a; intro a hf
  refine s_v hf (x_minI (hf.eval rfl) (hf.eval rfl)) ?_; clear hf a; intro a hf
  replace hf := hf.now (k := 56) (v' := .int .i64 (q : Int)) rfl (by rw [hq]; unfold secN; congr 1; omega)
  refine s_a hf rfl ?_; clear hf a; intro a hf
  refine s_nil (then_n (wp_seq ?_))
  obtain ⟨vv, ps, er, hps, hs, hlook, hupd⟩ := map_open (Q := 127) (T := 5) ((at_ + k) / 512) mpT hm ((hs.take .k4).take .k4)
  have hpl : ps.length ≤ P.length := by have h9 := congrArg List.length hps; rw [List.length_map] at h9; have := eps_len hg ((at_ + k) / 512); omega
  have hcap := (hr' _ [_, _, _, _, _, _, _, _] hs).cap
  refine c_draw hs (fun w' => w'.heap[m]? = some (.map (es.map Ent.mem).toArray clk) ∧ w'.cell? ⟨p, 3, none⟩ = some (.map (some m)) ∧ RdB (hp w') (.slice a' (data.length - k) c') (data.drop k)) [.held, .held, .held, .held, .held, .held, .held, .held, .held, .held, .held, .held, .held, .held, .held, .eff, .held, .eff, .eff, .fin] (by kernel_rfl) (by kernel_rfl) (fun w' _ hs => ⟨hs.blk_at .k2, hs.cell (k := 3) .k4 rfl, hr' _ [_, _, _, _, _, _, _, _] hs⟩) ?_
  clear hs; intro w hs hC hw
  refine m_held hf rfl (fun w' _ => x_move (hf.eval rfl) w') ?_; clear hf a; intro a hf
  refine m_held hf rfl (fun w' _ => x_nilCheck (hf.eval rfl) w') ?_; clear hf a; intro a hf
  refine m_held hf rfl (fun w' _ => x_fieldAddr fo85_3 (hf.eval rfl) w') ?_; clear hf a; intro a hf
  refine m_held hf rfl (fun w' hc => x_load sc83 (hf.eval rfl) hc.2.1) ?_; clear hf a; intro a hf
  refine m_held hf rfl (fun w' _ => x_move (hf.eval rfl) w') ?_; clear hf a; intro a hf
  refine m_held hf rfl (fun w' _ => x_move (hf.eval rfl) w') ?_; clear hf a; intro a hf
  refine m_held hf rfl (fun w' _ => x_nilCheck (hf.eval rfl) w') ?_; clear hf a; intro a hf
  refine m_held hf rfl (fun w' _ => x_fieldAddr fo85_3 (hf.eval rfl) w') ?_; clear hf a; intro a hf
  refine m_held hf rfl (fun w' hc => x_load sc83 (hf.eval rfl) hc.2.1) ?_; clear hf a; intro a hf
  refine m_held hf rfl (fun w' _ => x_move (hf.eval rfl) w') ?_; clear hf a; intro a hf
  refine m_held hf rfl (fun w' hc => x_lookup (hf.eval rfl) (hf.eval rfl) (hlook _ hc.1)) ?_; clear hf a; intro a hf
  refine m_held hf rfl (fun w' _ => x_move (hf.eval rfl) w') ?_; clear hf a; intro a hf
  refine m_held hf rfl (fun w' _ => x_move (hf.eval rfl) w') ?_; clear hf a; intro a hf
  refine m_held hf rfl (fun w' _ => x_move (hf.eval rfl) w') ?_; clear hf a; intro a hf
  refine m_held hf rfl (fun w' _ => x_slice_hi sl22 (hf.eval rfl) (hf.eval rfl)  (by omega) (by omega)  w') ?_; clear hf a; intro a hf
  replace hf := hf.now (k := 71) (v' := .slice a' ((data.drop k).take q).length c') rfl (by first | rfl | (rw [hcq]; done) | (rw [hcq]; rfl))
  refine m_eff hf rfl (y_call (hf.eval rfl) (hf.evals rfl) Tryz.call37 ((dclone_spec _ _ _ ((data.drop k).take q) (by rw [hcq]; exact RdB.pre hC.2.2 hdk (by omega)) (by omega)).mono ?_))
  rintro e w1 ⟨e1, fe1, rfl, hj⟩
  replace hs := hs.join hj
  simp only [List.cons_append, List.nil_append] at hs
  refine ⟨_, rfl, ⟨⟨hs.blk_at .k3, hs.cell (k := 3) .k5 rfl, hr' _ [_, _, _, _, _, _, _, _, _] hs⟩, ?_⟩⟩; clear hf a; intro a hf
  refine m_held hf rfl (fun w' hc => x_build (v := .agg #[.int .i64 ((at_ + k : Nat) : Int), .slice e1 ((data.drop k).take q).length fe1]) (hf.parts rfl) (fun w => by kernel_rfl) _) ?_; clear hf a; intro a hf
  refine m_eff hf rfl (y_lit (xs := [.tmp 73]) hs sl125 (hf.evals rfl) rfl (by simp [Value.cells]) (by decide) ?_); clear hf hs a; intro b2 w hs; refine ⟨⟨hs.blk_at .k4, hs.cell (k := 3) .k6 rfl, hr' _ [_, _, _, _, _, _, _, _, _, _] hs⟩, ?_⟩; intro a hf
  refine m_eff hf rfl (y_append (n := ps.length) (m := 1) (ys := [.int .i64 ((at_ + k : Nat) : Int), .slice e1 ((data.drop k).take q).length fe1]) hs sl125 (hf.eval rfl) (hf.eval rfl) .k2 (hs.rd .k0 fun h hb => rd_rows hb rfl) (by simp [Value.oneCell']) (by omega) (by rw [maxLen_eq]; omega) ?_); clear hf hs a; intro v2 w hs hv; refine ⟨⟨hs.blk_at .k4, hs.cell (k := 3) .k6 rfl, hr' _ [_, _, _, _, _, _, _, _, _, _] hs⟩, ?_⟩; intro a hf
  replace hs := push_form (at_ := at_ + k) (hs.lose .k1) (by simp) (by simp [pcF])
  obtain ⟨es2, clk2, hm2, hi1, hi2, hup⟩ := hupd v2 (ps ++ [(at_ + k, .slice e1 ((data.drop k).take q).length fe1, (data.drop k).take q)])
  obtain ⟨w9, hrun, hs⟩ := hup _ hs
  have hg2 : Grp es2 (P ++ [(at_ + k, (data.drop k).take q)]) := grp_push hg (by rw [hi1, List.map_append, hps]; rfl) hi2
  refine m_fin0 hf rfl (y_mapUpdate (hf.eval rfl) (hf.eval rfl) (hf.eval rfl) hrun ?_); clear hf a; intro a hf
  replace hs := diskA_close (s := { s with now := (spl (ext s.now (at_ + data.length)) at_ data), pcs := P ++ [(at_ + k, (data.drop k).take q)] }) (x := ⟨_, _, m, _, es2, clk2⟩) hm2 hg2 (((hs.take .k4).take .k4).take .k4)
  refine then_n (wp_seq (wp_region_lit ?_))
  refine s_m hf rfl ?_; clear hf a; intro a hf
  refine s_m hf rfl ?_; clear hf a; intro a hf
  refine s_v hf (x_bin (hf.eval rfl) (hf.eval rfl) (r_addi _ (by omega) (by omega))) ?_; clear hf a; intro a hf
  replace hf := hf.now (k := 78) (v' := .int .i64 ((at_ + (k + q) : Nat) : Int)) rfl (by congr 1; omega)
  refine s_a hf rfl ?_; clear hf a; intro a hf
  refine s_nil (then_n (wp_region_lit ?_))
  refine s_m hf rfl ?_; clear hf a; intro a hf
  refine s_m hf rfl ?_; clear hf a; intro a hf
  refine s_v hf (x_slice_lo sl22 (hf.eval rfl) (hf.eval rfl)  (by omega) (by omega) ) ?_; clear hf a; intro a hf
  replace hf := hf.now (k := 81) (v' := .slice (subA a' c' q 1) (data.length - (k + q)) (c' - q)) rfl (by congr 1; omega)
  have hr2 := Rdy.rest hr' hdk (i := q) (by omega)
  rw [List.drop_drop, show data.length - k - q = data.length - (k + q) by omega] at hr2
  have hP2 : P ++ [(at_ + k, (data.drop k).take q)] ++ cut (at_ + (k + q)) (data.drop (k + q)) = s.pcs ++ cut at_ data := by rw [← hP, cut_cons (l := data.drop k) (by intro h9; rw [h9] at hdk; simp at hdk; omega), hdk, ← hq, List.drop_drop, Nat.add_assoc, List.append_assoc]; rfl
  refine s_a hf rfl ?_; clear hf a; intro a hf
  refine s_nil (blk_n ?_)
  exact ⟨_, _, ⟨k + q, _, _, P ++ [(at_ + k, (data.drop k).take q)], rfl, rfl, by omega, hP2, hr2, hs⟩, by omega, hf.sub ⟨rfl, rfl, rfl, trivial⟩⟩
 simp only [zd1, zd2, zd3, zd4, zd5, zd6, zd7] at hi1
 refine wp_exit (then_x (then_x (blk_x ?_)))
 refine r_0n hf Tryz.results109 ?_
 have hk9 : k = data.length := by omega
 subst hk9
 rw [List.drop_length, cut_nil, List.append_nil] at hP
 subst hP
 exact ⟨rfl, hs⟩
end Go.Proofs.YtehakfbfjpolfaaGreatDoor

namespace Go.Proofs.YtehakfbfjpolfaaGreatDoor
open Go Vw
theorem dWrite_spec (σ : Sig) (w : World) (R : List Asrt) (p : Nat) (s : DS) (hs : St σ w (diskA 85 127 5 3 p s :: R)) (off : Int) (ad : Option Addr) (cd : Nat) (data : List UInt8) (hr : Rdy σ R (.slice ad data.length cd) data) (hdl : data.length ≤ 140737488351232) (ho : DOk s) (hcl : s.calls ≤ 4611686018427387904) (hpc : s.pcs.length ≤ 1099511600000) (hsl : s.sizes.length ≤ 1099511600000) : Calls Tryz.prog 82 #[.pointer (some ⟨p, 0, none⟩), .int .i64 off, .slice ad data.length cd] w fun e w' => e = .returned (.int .i64 (wrS s off data).1) ∧ St σ w' (diskA 85 127 5 3 p (wrS s off data).2 :: R) := by
 have hroom0 := ho.room0
 have hroom1 := ho.room1
 have hnow1 := ho.now
 obtain ⟨⟨v1, v2, m, v4, es, clk⟩, hm, hg, hs⟩ := diskA_open hs
 dsimp only at hm hg hs
 obtain ⟨a1, c1, rfl, hc1⟩ := slB_shape (hs.take .k1)
 obtain ⟨a2, c2, rfl, hc2⟩ := slB_shape (hs.take .k2)
 obtain ⟨a4, c4, rfl⟩ := sl_shape (hs.take .k5)
 refine c_enter (N := 87) Tryz.func82 rfl Tryz.ntmps82 (by simp) ?_
 intro a hf
 refine wp_seq (wp_region_lit ?_)
 refine s_a hf rfl ?_; clear hf a; intro a hf
 refine s_nil (then_n (wp_seq (wp_block (wp_seq (wp_region_lit ?_)))))
 refine s_m hf rfl ?_; clear hf a; intro a hf
 refine s_v hf (x_eqNil Tryz.underlying24 (hf.eval rfl) (hf.eval rfl)) ?_; clear hf a; intro a hf
 replace hf := hf.now (k := 10) (v' := .bool false) rfl rfl
 refine s_a hf rfl ?_; clear hf a; intro a hf
 refine s_nil (then_n ?_)
 refine c_cond_f hf rfl rfl ?_
 refine wp_seq (wp_region_lit ?_)
 refine s_m hf rfl ?_; clear hf a; intro a hf
 refine s_v hf (x_nilCheck (hf.eval rfl)) ?_; clear hf a; intro a hf
 refine s_v hf (x_fieldAddr fo85_7 (hf.eval rfl)) ?_; clear hf a; intro a hf
 refine s_r hf (x_load sc4 (hf.eval rfl) (by apply hs.cell <;> repeat constructor)) ?_; clear hf a; intro a hf
 refine s_a hf rfl ?_; clear hf a; intro a hf
 refine s_nil (then_n ?_)
 refine c_cond hf rfl (fun hi1 => ?_) (fun hi1 => ?_)
 ·refine wp_seq ?_
  refine wp_region_lit ?_
  refine s_a hf rfl ?_; clear hf a; intro a hf
  refine s_nil (then_n ?_)
  refine wp_ret ?_
  refine blk_r (then_r ?_)
  refine r_1 hf Tryz.results82 rfl ?_
  rw [wrS_dead hi1]
  exact ⟨rfl, diskA_close (x := ⟨_, _, m, _, es, clk⟩) hm hg hs⟩
 refine wp_seq (wp_region_lit ?_)
 refine s_m hf rfl ?_; clear hf a; intro a hf
 refine s_v hf (x_bin (hf.eval rfl) (hf.eval rfl) (r_lt _ _ _ _)) ?_; clear hf a; intro a hf
 refine s_a hf rfl ?_; clear hf a; intro a hf
 refine s_nil (then_n ?_)
 refine c_cond hf rfl (fun hi2 => ?_) (fun hi2 => ?_)
 ·simp only [zd1, zd2, zd3, zd4, zd5, zd6, zd7] at hi2
  refine wp_seq (wp_region_lit ?_)
  refine s_a hf rfl ?_; clear hf a; intro a hf
  refine s_nil (then_n ?_)
  refine wp_ret ?_
  refine blk_r (then_r ?_)
  refine r_1 hf Tryz.results82 rfl ?_
  rw [wrS_neg hi1 (by omega)]
  exact ⟨rfl, diskA_close (x := ⟨_, _, m, _, es, clk⟩) hm hg hs⟩
 simp only [zd1, zd2, zd3, zd4, zd5, zd6, zd7] at hi2
 refine wp_seq (wp_region_lit ?_)
 refine s_m hf rfl ?_; clear hf a; intro a hf
 refine s_v hf (x_len Tryz.underlying22 (hf.eval rfl)) ?_; clear hf a; intro a hf
 refine s_m hf rfl ?_; clear hf a; intro a hf
 refine s_v hf (x_nilCheck (hf.eval rfl)) ?_; clear hf a; intro a hf
 refine s_v hf (x_fieldAddr fo85_0 (hf.eval rfl)) ?_; clear hf a; intro a hf
 refine s_r hf (x_load sc3 (hf.eval rfl) (by apply hs.cell <;> repeat constructor)) ?_; clear hf a; intro a hf
 refine s_v hf (x_bin (hf.eval rfl) (hf.eval rfl) (r_gt _ _ _ _)) ?_; clear hf a; intro a hf
 refine s_m hf rfl ?_; clear hf a; intro a hf
 refine s_bool hf (k := 27) rfl (fun hg7_7 hf' => ?_) (fun hg7_7 hf' => ?_)
 ·clear hf
  have hf := hf'
  clear hf'
  simp only [decide_eq_true_eq, decide_eq_false_iff_not] at hg7_7
  refine s_pass hf rfl rfl ?_; clear hf a; intro a hf
  refine s_pass hf rfl rfl ?_; clear hf a; intro a hf
  refine s_pass hf rfl rfl ?_; clear hf a; intro a hf
  refine s_pass hf rfl rfl ?_; clear hf a; intro a hf
  refine s_pass hf rfl rfl ?_; clear hf a; intro a hf
  refine s_pass hf rfl rfl ?_; clear hf a; intro a hf
  refine s_pass hf rfl rfl ?_; clear hf a; intro a hf
  refine s_pass hf rfl rfl ?_; clear hf a; intro a hf
  refine s_pass hf rfl rfl ?_; clear hf a; intro a hf
  refine s_v hf (x_pick_t (hf.eval rfl) (hf.eval rfl)) ?_; clear hf a; intro a hf
  refine s_a hf rfl ?_; clear hf a; intro a hf
  refine s_nil (then_n ?_)
  refine c_cond_t hf rfl rfl ?_
  refine wp_seq (wp_region_lit ?_)
  refine s_a hf rfl ?_; clear hf a; intro a hf
  refine s_nil (then_n ?_)
  refine wp_ret ?_
  refine blk_r (then_r ?_)
  refine r_1 hf Tryz.results82 rfl ?_
  rw [wrS_big hi1 (by omega) (by omega)]
  exact ⟨rfl, diskA_close (x := ⟨_, _, m, _, es, clk⟩) hm hg hs⟩
 clear hf
 have hf := hf'
 clear hf'
 simp only [decide_eq_true_eq, decide_eq_false_iff_not] at hg7_7
 refine s_do hf (wanted_of hf rfl rfl rfl) (.value (x_move (hf.eval rfl) _) ?_); clear hf a; intro a hf
 refine s_do hf (wanted_of hf rfl rfl rfl) (.value (x_move (hf.eval rfl) _) ?_); clear hf a; intro a hf
 refine s_do hf (wanted_of hf rfl rfl rfl) (.value (x_nilCheck (hf.eval rfl) _) ?_); clear hf a; intro a hf
 refine s_do hf (wanted_of hf rfl rfl rfl) (.value (x_fieldAddr fo85_0 (hf.eval rfl) _) ?_); clear hf a; intro a hf
 refine s_do hf (wanted_of hf rfl rfl rfl) (.value (x_load sc3 (hf.eval rfl) (by apply hs.cell <;> repeat constructor)) ?_); clear hf a; intro a hf
 refine s_do hf (wanted_of hf rfl rfl rfl) (.value (x_move (hf.eval rfl) _) ?_); clear hf a; intro a hf
 refine s_do hf (wanted_of hf rfl rfl rfl) (.value (x_len Tryz.underlying22 (hf.eval rfl) _) ?_); clear hf a; intro a hf
 refine s_do hf (wanted_of hf rfl rfl rfl) (.value (x_bin (hf.eval rfl) (hf.eval rfl) (r_subi _ (by omega) (by omega)) _) ?_); clear hf a; intro a hf
 refine s_do hf (wanted_of hf rfl rfl rfl) (.value (x_bin (hf.eval rfl) (hf.eval rfl) (r_gt _ _ _ _) _) ?_); clear hf a; intro a hf
 refine s_v hf (x_pick_f (hf.eval rfl) (hf.eval rfl)) ?_; clear hf a; intro a hf
 refine s_a hf rfl ?_; clear hf a; intro a hf
 refine s_nil (then_n ?_)
 refine c_cond hf rfl (fun hi3 => ?_) (fun hi3 => ?_)
 ·simp only [zd1, zd2, zd3, zd4, zd5, zd6, zd7] at hi3
  refine wp_seq (wp_region_lit ?_)
  refine s_a hf rfl ?_; clear hf a; intro a hf
  refine s_nil (then_n ?_)
  refine wp_ret ?_
  refine blk_r (then_r ?_)
  refine r_1 hf Tryz.results82 rfl ?_
  rw [wrS_big hi1 (by omega) (by omega)]
  exact ⟨rfl, diskA_close (x := ⟨_, _, m, _, es, clk⟩) hm hg hs⟩
 simp only [zd1, zd2, zd3, zd4, zd5, zd6, zd7] at hi3
 refine wp_seq (wp_region_lit ?_)
 refine s_m hf rfl ?_; clear hf a; intro a hf
 replace hs := diskA_close (s := s) (x := ⟨_, _, m, _, es, clk⟩) hm hg hs
 refine s_do hf rfl (y_call (hf.eval rfl) (hf.evals rfl) Tryz.call39 ((spend_spec _ _ _ p s hs ho.fuse.2 ho.fuse.1 hcl).mono ?_))
 rintro e w1 ⟨rfl, hs⟩
 obtain ⟨t, ht⟩ : ∃ t, t = spent s := ⟨_, rfl⟩
 rw [← ht] at hs
 obtain ⟨htn, htr, htd, htp, hts⟩ := spent_now s
 rw [← ht] at htn htr htd htp hts
 have hto := spent_ok ho
 rw [← ht] at hto
 have htn2 : t.now.length = s.now.length := by rw [htn]
 have htp2 : t.pcs.length = s.pcs.length := by rw [htp]
 have hts2 : t.sizes.length = s.sizes.length := by rw [hts]
 refine ⟨_, rfl, ?_⟩; clear hf a; intro a hf
 refine s_v hf (x_not (hf.eval rfl)) ?_; clear hf a; intro a hf
 refine s_a hf rfl ?_; clear hf a; intro a hf
 refine s_nil (then_n ?_)
 refine c_cond hf rfl (fun hi4 => ?_) (fun hi4 => ?_)
 ·simp only [Bool.not_eq_true', Bool.not_eq_false', decide_eq_true_eq, decide_eq_false_iff_not, ne_eq, Decidable.not_not] at hi4
  refine wp_seq (wp_region_lit ?_)
  refine s_a hf rfl ?_; clear hf a; intro a hf
  refine s_nil (then_n ?_)
  refine wp_ret ?_
  refine blk_r (then_r ?_)
  refine r_1 hf Tryz.results82 rfl ?_
  rw [wrS_fuse hi1 (by omega) (by omega) hi4, ← ht]
  exact ⟨rfl, hs⟩
 simp only [Bool.not_eq_true', Bool.not_eq_false', decide_eq_true_eq, decide_eq_false_iff_not, ne_eq, Decidable.not_not] at hi4
 refine wp_skip (blk_n (then_n (wp_seq (wp_seq (wp_region_lit ?_)))))
 refine s_m hf rfl ?_; clear hf a; intro a hf
 refine s_v hf (x_len Tryz.underlying22 (hf.eval rfl)) ?_; clear hf a; intro a hf
 refine s_v hf (x_bin (hf.eval rfl) (hf.eval rfl) (r_eq _ _ _ _)) ?_; clear hf a; intro a hf
 refine s_nil (then_n ?_)
 refine c_cond hf rfl (fun hi5 => ?_) (fun hi5 => ?_)
 ·simp only [zd1, zd2, zd3, zd4, zd5, zd6, zd7] at hi5
  refine wp_seq (wp_region_lit ?_)
  refine s_a hf rfl ?_; clear hf a; intro a hf
  refine s_nil (then_n ?_)
  refine wp_ret ?_
  refine then_r ?_
  refine r_1 hf Tryz.results82 rfl ?_
  rw [wrS_none hi1 (by omega) (by omega) hi4 (List.eq_nil_of_length_eq_zero (by omega)), ← ht]
  exact ⟨rfl, hs⟩
 simp only [zd1, zd2, zd3, zd4, zd5, zd6, zd7] at hi5
 have hd : data ≠ [] := by intro h9; subst h9; simp at hi5
 obtain ⟨⟨v1, v2, m, v4, es, clk⟩, hm, hg, hs⟩ := diskA_open hs
 dsimp only at hm hg hs
 obtain ⟨a1, c1, rfl, hc1⟩ := slB_shape (hs.take .k1)
 obtain ⟨a2, c2, rfl, hc2⟩ := slB_shape (hs.take .k2)
 obtain ⟨a4, c4, rfl⟩ := sl_shape (hs.take .k5)
 refine wp_skip (then_n (wp_seq (wp_region_lit ?_)))
 refine s_m hf rfl ?_; clear hf a; intro a hf
 refine s_v hf (x_nilCheck (hf.eval rfl)) ?_; clear hf a; intro a hf
 refine s_v hf (x_fieldAddr fo85_1 (hf.eval rfl)) ?_; clear hf a; intro a hf
 refine s_r hf (x_load sc22 (hf.eval rfl) (by apply hs.cell <;> repeat constructor)) ?_; clear hf a; intro a hf
 refine s_v hf (x_len Tryz.underlying22 (hf.eval rfl)) ?_; clear hf a; intro a hf
 refine s_a hf rfl ?_; clear hf a; intro a hf
 refine s_nil (then_n (wp_seq (wp_seq (wp_region_lit ?_))))
 refine s_m hf rfl ?_; clear hf a; intro a hf
 refine s_m hf rfl ?_; clear hf a; intro a hf
 refine s_v hf (x_bin (hf.eval rfl) (hf.eval rfl) (r_gt _ _ _ _)) ?_; clear hf a; intro a hf
 refine s_nil (then_n ?_)
 refine c_cond hf rfl (fun hi6 => ?_) (fun hi6 => ?_)
 ·simp only [zd1, zd2, zd3, zd4, zd5, zd6, zd7] at hi6
  refine wp_region_lit ?_
  refine s_m hf rfl ?_; clear hf a; intro a hf
  refine s_m hf rfl ?_; clear hf a; intro a hf
  refine s_m hf rfl ?_; clear hf a; intro a hf
  refine s_m hf rfl ?_; clear hf a; intro a hf
  refine s_v hf (x_bin (hf.eval rfl) (hf.eval rfl) (r_subi _ (by omega) (by omega))) ?_; clear hf a; intro a hf
  refine s_do hf rfl (y_makeB (m := off.toNat - t.now.length) (c := off.toNat - t.now.length) hs sl22 (hf.eval rfl) (hf.eval rfl) (by omega) (by omega) (Nat.le_refl _) (by omega) ?_); clear hf hs a; intro b w hs a hf
  replace hs := hs.ofBb (n := off.toNat - t.now.length) (by simp) (by omega)
  refine s_m hf rfl ?_; clear hf a; intro a hf
  refine s_do hf rfl (y_appendB (s := data) hs sl22 rfl (hf.eval rfl) (hf.eval rfl) .k0 (hr _ [_, _, _, _, _, _, _] hs) (by simp; omega) ?_); clear hf hs a; intro v8 w hs hv a hf
  obtain ⟨a8, c8, rfl, hc8⟩ := slB_shape hs
  replace hs := St.give (L := _) hs .k6
  replace hs := diskA_close (s := t) (x := ⟨_, _, m, _, es, clk⟩) hm hg hs
  refine s_do hf rfl (y_call (hf.eval rfl) (hf.evals rfl) Tryz.call109 ((lay_spec σ _ _ p t hs t.now.length a8 c8 ((List.replicate (off.toNat - t.now.length) (0 : UInt8)) ++ data) (Rdy.own .k0) (by simp [hd]) (Nat.le_refl _) (by simp; omega) (by omega) (by omega)).mono ?_))
  rintro e w1 ⟨rfl, hs⟩
  replace hs := hs.lose .k1
  rw [← layW_hole (by omega)] at hs
  obtain ⟨u, hu⟩ : ∃ u, u = layW t off.toNat data := ⟨_, rfl⟩
  rw [← hu] at hs
  have hul : u.now.length = max t.now.length (off.toNat + data.length) := by rw [hu, layW_len]
  have husz : u.sizes = t.sizes := by rw [hu]; unfold layW; split <;> rfl
  have husz2 : u.sizes.length = t.sizes.length := by rw [husz]
  obtain ⟨⟨v1, v2, m, v4, es, clk⟩, hm, hg, hs⟩ := diskA_open hs
  dsimp only at hm hg hs
  obtain ⟨a1, c1, rfl, hc1⟩ := slB_shape (hs.take .k1)
  obtain ⟨a2, c2, rfl, hc2⟩ := slB_shape (hs.take .k2)
  obtain ⟨a4, c4, rfl⟩ := sl_shape (hs.take .k5)
  refine ⟨_, rfl, ?_⟩; clear hf a; intro a hf
  refine s_nil (then_n (wp_seq (wp_seq (wp_region_lit ?_))))
  refine s_m hf rfl ?_; clear hf a; intro a hf
  refine s_v hf (x_nilCheck (hf.eval rfl)) ?_; clear hf a; intro a hf
  refine s_v hf (x_fieldAddr fo85_1 (hf.eval rfl)) ?_; clear hf a; intro a hf
  refine s_r hf (x_load sc22 (hf.eval rfl) (by apply hs.cell <;> repeat constructor)) ?_; clear hf a; intro a hf
  refine s_v hf (x_len Tryz.underlying22 (hf.eval rfl)) ?_; clear hf a; intro a hf
  refine s_m hf rfl ?_; clear hf a; intro a hf
  refine s_v hf (x_bin (hf.eval rfl) (hf.eval rfl) (r_ne _ _ _ _)) ?_; clear hf a; intro a hf
  refine s_nil (then_n ?_)
  refine c_cond hf rfl (fun hi7 => ?_) (fun hi7 => ?_)
  ·simp only [zd1, zd2, zd3, zd4, zd5, zd6, zd7] at hi7
   refine c_draw hs (fun w' => w'.cell? ⟨p, 4, none⟩ = some (.slice a4 u.sizes.length c4)) [.held, .held, .held, .held, .held, .held, .held, .held, .read, .held, .eff, .eff, .held, .held, .fin] (by kernel_rfl) (by kernel_rfl) (fun w' _ hs => hs.cell (k := 4) .k0 rfl) ?_
   clear hs; intro w hs hC hw
   refine m_held hf rfl (fun w' _ => x_move (hf.eval rfl) w') ?_; clear hf a; intro a hf
   refine m_held hf rfl (fun w' _ => x_move (hf.eval rfl) w') ?_; clear hf a; intro a hf
   refine m_held hf rfl (fun w' _ => x_nilCheck (hf.eval rfl) w') ?_; clear hf a; intro a hf
   refine m_held hf rfl (fun w' _ => x_fieldAddr fo85_4 (hf.eval rfl) w') ?_; clear hf a; intro a hf
   refine m_held hf rfl (fun w' hc => x_load sc62 (hf.eval rfl) hc) ?_; clear hf a; intro a hf
   refine m_held hf rfl (fun w' _ => x_move (hf.eval rfl) w') ?_; clear hf a; intro a hf
   refine m_held hf rfl (fun w' _ => x_nilCheck (hf.eval rfl) w') ?_; clear hf a; intro a hf
   refine m_held hf rfl (fun w' _ => x_fieldAddr fo85_1 (hf.eval rfl) w') ?_; clear hf a; intro a hf
   refine m_read hf rfl (x_load sc22 (hf.eval rfl) (by apply hs.cell <;> repeat constructor)) ?_; clear hf a; intro a hf
   refine m_held hf rfl (fun w' _ => x_len Tryz.underlying22 (hf.eval rfl) w') ?_; clear hf a; intro a hf
   refine m_eff hf rfl (y_lit (xs := [.tmp 82]) hs sl62 (hf.evals rfl) rfl (by simp [Value.cells]) (by decide) ?_); clear hf hs a; intro b2 w hs; refine ⟨hs.cell (k := 4) .k1 rfl, ?_⟩; intro a hf
   refine m_eff hf rfl (y_append (n := u.sizes.length) (m := 1) (ys := [.int .i64 (u.now.length : Int)]) hs sl62 (hf.eval rfl) (hf.eval rfl) .k6 (hs.rd .k0 fun h hb => rd_rows hb rfl) (by simp [Value.oneCell']) (by omega) (by rw [maxLen_eq]; omega) ?_); clear hf hs a; intro v2 w hs hv; refine ⟨hs.cell (k := 4) .k2 rfl, ?_⟩; intro a hf
   rw [← szC_append, show u.sizes.length + 1 = (u.sizes ++ [u.now.length]).length by simp] at hs
   obtain ⟨a7, c7, rfl⟩ := sl_shape hs
   refine m_held hf rfl (fun w' _ => x_nilCheck (hf.eval rfl) w') ?_; clear hf a; intro a hf
   refine m_held hf rfl (fun w' _ => x_fieldAddr fo85_4 (hf.eval rfl) w') ?_; clear hf a; intro a hf
   refine m_fin0 hf rfl (y_store hs sc62 (hf.eval rfl) (hf.eval rfl) rfl (by repeat constructor) (by simp) ?_); clear hf hs a; intro w hs; intro a hf
   replace hs := St.give (L := _) (hs.lose .k1) .k5
   refine then_n (wp_seq (wp_region_lit ?_))
   refine s_a hf rfl ?_; clear hf a; intro a hf
   refine s_nil (then_n ?_)
   refine wp_ret ?_
   refine r_1 hf Tryz.results82 rfl ?_
   rw [wrS_some hi1 (by omega) (by omega) hi4 hd, ← ht, ← hu]
   first | (rw [sized_eq (by omega)]; exact ⟨rfl, diskA_close (x := ⟨_, _, m, _, es, clk⟩) hm hg hs⟩) | (rw [sized_ne (by omega)]; exact ⟨rfl, diskA_close (x := ⟨.slice a1 u.now.length c1, .slice a2 u.dur.length c2, m, .slice a7 (u.sizes ++ [u.now.length]).length c7, es, clk⟩) hm hg hs⟩)
  simp only [zd1, zd2, zd3, zd4, zd5, zd6, zd7] at hi7
  refine wp_skip (then_n (wp_seq (wp_region_lit ?_)))
  refine s_a hf rfl ?_; clear hf a; intro a hf
  refine s_nil (then_n ?_)
  refine wp_ret ?_
  refine r_1 hf Tryz.results82 rfl ?_
  rw [wrS_some hi1 (by omega) (by omega) hi4 hd, ← ht, ← hu]
  first | (rw [sized_eq (by omega)]; exact ⟨rfl, diskA_close (x := ⟨_, _, m, _, es, clk⟩) hm hg hs⟩) | (rw [sized_ne (by omega)]; exact ⟨rfl, diskA_close (x := ⟨.slice a1 u.now.length c1, .slice a2 u.dur.length c2, m, .slice a7 (u.sizes ++ [u.now.length]).length c7, es, clk⟩) hm hg hs⟩)
 simp only [zd1, zd2, zd3, zd4, zd5, zd6, zd7] at hi6
 refine wp_region_lit ?_
 refine s_m hf rfl ?_; clear hf a; intro a hf
 refine s_m hf rfl ?_; clear hf a; intro a hf
 replace hf := hf.now (k := 63) (v' := .int .i64 (off.toNat : Int)) rfl (by congr 1; omega)
 refine s_m hf rfl ?_; clear hf a; intro a hf
 replace hs := diskA_close (s := t) (x := ⟨_, _, m, _, es, clk⟩) hm hg hs
 refine s_do hf rfl (y_call (hf.eval rfl) (hf.evals rfl) Tryz.call109 ((lay_spec σ _ _ p t hs off.toNat ad cd data hr hd (by omega) (by omega) (by omega) (by omega)).mono ?_))
 rintro e w1 ⟨rfl, hs⟩
 rw [← layW_in (by omega)] at hs
 obtain ⟨u, hu⟩ : ∃ u, u = layW t off.toNat data := ⟨_, rfl⟩
 rw [← hu] at hs
 have hul : u.now.length = max t.now.length (off.toNat + data.length) := by rw [hu, layW_len]
 have husz : u.sizes = t.sizes := by rw [hu]; unfold layW; split <;> rfl
 have husz2 : u.sizes.length = t.sizes.length := by rw [husz]
 obtain ⟨⟨v1, v2, m, v4, es, clk⟩, hm, hg, hs⟩ := diskA_open hs
 dsimp only at hm hg hs
 obtain ⟨a1, c1, rfl, hc1⟩ := slB_shape (hs.take .k1)
 obtain ⟨a2, c2, rfl, hc2⟩ := slB_shape (hs.take .k2)
 obtain ⟨a4, c4, rfl⟩ := sl_shape (hs.take .k5)
 refine ⟨_, rfl, ?_⟩; clear hf a; intro a hf
 refine s_nil (then_n (wp_seq (wp_seq (wp_region_lit ?_))))
 refine s_m hf rfl ?_; clear hf a; intro a hf
 refine s_v hf (x_nilCheck (hf.eval rfl)) ?_; clear hf a; intro a hf
 refine s_v hf (x_fieldAddr fo85_1 (hf.eval rfl)) ?_; clear hf a; intro a hf
 refine s_r hf (x_load sc22 (hf.eval rfl) (by apply hs.cell <;> repeat constructor)) ?_; clear hf a; intro a hf
 refine s_v hf (x_len Tryz.underlying22 (hf.eval rfl)) ?_; clear hf a; intro a hf
 refine s_m hf rfl ?_; clear hf a; intro a hf
 refine s_v hf (x_bin (hf.eval rfl) (hf.eval rfl) (r_ne _ _ _ _)) ?_; clear hf a; intro a hf
 refine s_nil (then_n ?_)
 refine c_cond hf rfl (fun hi7 => ?_) (fun hi7 => ?_)
 ·simp only [zd1, zd2, zd3, zd4, zd5, zd6, zd7] at hi7
  refine c_draw hs (fun w' => w'.cell? ⟨p, 4, none⟩ = some (.slice a4 u.sizes.length c4)) [.held, .held, .held, .held, .held, .held, .held, .held, .read, .held, .eff, .eff, .held, .held, .fin] (by kernel_rfl) (by kernel_rfl) (fun w' _ hs => hs.cell (k := 4) .k0 rfl) ?_
  clear hs; intro w hs hC hw
  refine m_held hf rfl (fun w' _ => x_move (hf.eval rfl) w') ?_; clear hf a; intro a hf
  refine m_held hf rfl (fun w' _ => x_move (hf.eval rfl) w') ?_; clear hf a; intro a hf
  refine m_held hf rfl (fun w' _ => x_nilCheck (hf.eval rfl) w') ?_; clear hf a; intro a hf
  refine m_held hf rfl (fun w' _ => x_fieldAddr fo85_4 (hf.eval rfl) w') ?_; clear hf a; intro a hf
  refine m_held hf rfl (fun w' hc => x_load sc62 (hf.eval rfl) hc) ?_; clear hf a; intro a hf
  refine m_held hf rfl (fun w' _ => x_move (hf.eval rfl) w') ?_; clear hf a; intro a hf
  refine m_held hf rfl (fun w' _ => x_nilCheck (hf.eval rfl) w') ?_; clear hf a; intro a hf
  refine m_held hf rfl (fun w' _ => x_fieldAddr fo85_1 (hf.eval rfl) w') ?_; clear hf a; intro a hf
  refine m_read hf rfl (x_load sc22 (hf.eval rfl) (by apply hs.cell <;> repeat constructor)) ?_; clear hf a; intro a hf
  refine m_held hf rfl (fun w' _ => x_len Tryz.underlying22 (hf.eval rfl) w') ?_; clear hf a; intro a hf
  refine m_eff hf rfl (y_lit (xs := [.tmp 82]) hs sl62 (hf.evals rfl) rfl (by simp [Value.cells]) (by decide) ?_); clear hf hs a; intro b2 w hs; refine ⟨hs.cell (k := 4) .k1 rfl, ?_⟩; intro a hf
  refine m_eff hf rfl (y_append (n := u.sizes.length) (m := 1) (ys := [.int .i64 (u.now.length : Int)]) hs sl62 (hf.eval rfl) (hf.eval rfl) .k6 (hs.rd .k0 fun h hb => rd_rows hb rfl) (by simp [Value.oneCell']) (by omega) (by rw [maxLen_eq]; omega) ?_); clear hf hs a; intro v2 w hs hv; refine ⟨hs.cell (k := 4) .k2 rfl, ?_⟩; intro a hf
  rw [← szC_append, show u.sizes.length + 1 = (u.sizes ++ [u.now.length]).length by simp] at hs
  obtain ⟨a7, c7, rfl⟩ := sl_shape hs
  refine m_held hf rfl (fun w' _ => x_nilCheck (hf.eval rfl) w') ?_; clear hf a; intro a hf
  refine m_held hf rfl (fun w' _ => x_fieldAddr fo85_4 (hf.eval rfl) w') ?_; clear hf a; intro a hf
  refine m_fin0 hf rfl (y_store hs sc62 (hf.eval rfl) (hf.eval rfl) rfl (by repeat constructor) (by simp) ?_); clear hf hs a; intro w hs; intro a hf
  replace hs := St.give (L := _) (hs.lose .k1) .k5
  refine then_n (wp_seq (wp_region_lit ?_))
  refine s_a hf rfl ?_; clear hf a; intro a hf
  refine s_nil (then_n ?_)
  refine wp_ret ?_
  refine r_1 hf Tryz.results82 rfl ?_
  rw [wrS_some hi1 (by omega) (by omega) hi4 hd, ← ht, ← hu]
  first | (rw [sized_eq (by omega)]; exact ⟨rfl, diskA_close (x := ⟨_, _, m, _, es, clk⟩) hm hg hs⟩) | (rw [sized_ne (by omega)]; exact ⟨rfl, diskA_close (x := ⟨.slice a1 u.now.length c1, .slice a2 u.dur.length c2, m, .slice a7 (u.sizes ++ [u.now.length]).length c7, es, clk⟩) hm hg hs⟩)
 simp only [zd1, zd2, zd3, zd4, zd5, zd6, zd7] at hi7
 refine wp_skip (then_n (wp_seq (wp_region_lit ?_)))
 refine s_a hf rfl ?_; clear hf a; intro a hf
 refine s_nil (then_n ?_)
 refine wp_ret ?_
 refine r_1 hf Tryz.results82 rfl ?_
 rw [wrS_some hi1 (by omega) (by omega) hi4 hd, ← ht, ← hu]
 first | (rw [sized_eq (by omega)]; exact ⟨rfl, diskA_close (x := ⟨_, _, m, _, es, clk⟩) hm hg hs⟩) | (rw [sized_ne (by omega)]; exact ⟨rfl, diskA_close (x := ⟨.slice a1 u.now.length c1, .slice a2 u.dur.length c2, m, .slice a7 (u.sizes ++ [u.now.length]).length c7, es, clk⟩) hm hg hs⟩)
theorem dTrunc_spec (σ : Sig) (w : World) (R : List Asrt) (p : Nat) (s : DS) (hs : St σ w (diskA 85 127 5 3 p s :: R)) (n : Int) (ho : DOk s) (hcl : s.calls ≤ 4611686018427387904) (hpc : s.pcs.length ≤ 1099511600000) (hsl : s.sizes.length ≤ 1099511600000) : Calls Tryz.prog 83 #[.pointer (some ⟨p, 0, none⟩), .int .i64 n] w fun e w' => e = .returned (.int .i64 (trS s n).1) ∧ St σ w' (diskA 85 127 5 3 p (trS s n).2 :: R) := by
 have hroom0 := ho.room0
 have hroom1 := ho.room1
 have hnow1 := ho.now
 obtain ⟨⟨v1, v2, m, v4, es, clk⟩, hm, hg, hs⟩ := diskA_open hs
 dsimp only at hm hg hs
 obtain ⟨a1, c1, rfl, hc1⟩ := slB_shape (hs.take .k1)
 obtain ⟨a2, c2, rfl, hc2⟩ := slB_shape (hs.take .k2)
 obtain ⟨a4, c4, rfl⟩ := sl_shape (hs.take .k5)
 refine c_enter (N := 65) Tryz.func83 rfl Tryz.ntmps83 (by simp) ?_
 intro a hf
 refine wp_seq (wp_region_lit ?_)
 refine s_a hf rfl ?_; clear hf a; intro a hf
 refine s_nil (then_n (wp_seq (wp_block (wp_seq (wp_region_lit ?_)))))
 refine s_m hf rfl ?_; clear hf a; intro a hf
 refine s_v hf (x_eqNil Tryz.underlying24 (hf.eval rfl) (hf.eval rfl)) ?_; clear hf a; intro a hf
 replace hf := hf.now (k := 8) (v' := .bool false) rfl rfl
 refine s_a hf rfl ?_; clear hf a; intro a hf
 refine s_nil (then_n ?_)
 refine c_cond_f hf rfl rfl ?_
 refine wp_seq (wp_region_lit ?_)
 refine s_m hf rfl ?_; clear hf a; intro a hf
 refine s_v hf (x_nilCheck (hf.eval rfl)) ?_; clear hf a; intro a hf
 refine s_v hf (x_fieldAddr fo85_7 (hf.eval rfl)) ?_; clear hf a; intro a hf
 refine s_r hf (x_load sc4 (hf.eval rfl) (by apply hs.cell <;> repeat constructor)) ?_; clear hf a; intro a hf
 refine s_a hf rfl ?_; clear hf a; intro a hf
 refine s_nil (then_n ?_)
 refine c_cond hf rfl (fun hi1 => ?_) (fun hi1 => ?_)
 ·refine wp_seq ?_
  refine wp_region_lit ?_
  refine s_a hf rfl ?_; clear hf a; intro a hf
  refine s_nil (then_n ?_)
  refine wp_ret ?_
  refine blk_r (then_r ?_)
  refine r_1 hf Tryz.results83 rfl ?_
  rw [trS_dead hi1]
  exact ⟨rfl, diskA_close (x := ⟨_, _, m, _, es, clk⟩) hm hg hs⟩
 refine wp_seq (wp_region_lit ?_)
 refine s_m hf rfl ?_; clear hf a; intro a hf
 refine s_v hf (x_bin (hf.eval rfl) (hf.eval rfl) (r_lt _ _ _ _)) ?_; clear hf a; intro a hf
 refine s_a hf rfl ?_; clear hf a; intro a hf
 refine s_nil (then_n ?_)
 refine c_cond hf rfl (fun hi2 => ?_) (fun hi2 => ?_)
 ·simp only [zd1, zd2, zd3, zd4, zd5, zd6, zd7] at hi2
  refine wp_seq (wp_region_lit ?_)
  refine s_a hf rfl ?_; clear hf a; intro a hf
  refine s_nil (then_n ?_)
  refine wp_ret ?_
  refine blk_r (then_r ?_)
  refine r_1 hf Tryz.results83 rfl ?_
  rw [trS_neg hi1 (by omega)]
  exact ⟨rfl, diskA_close (x := ⟨_, _, m, _, es, clk⟩) hm hg hs⟩
 simp only [zd1, zd2, zd3, zd4, zd5, zd6, zd7] at hi2
 refine wp_seq (wp_region_lit ?_)
 refine s_m hf rfl ?_; clear hf a; intro a hf
 refine s_m hf rfl ?_; clear hf a; intro a hf
 refine s_v hf (x_nilCheck (hf.eval rfl)) ?_; clear hf a; intro a hf
 refine s_v hf (x_fieldAddr fo85_0 (hf.eval rfl)) ?_; clear hf a; intro a hf
 refine s_r hf (x_load sc3 (hf.eval rfl) (by apply hs.cell <;> repeat constructor)) ?_; clear hf a; intro a hf
 refine s_v hf (x_bin (hf.eval rfl) (hf.eval rfl) (r_gt _ _ _ _)) ?_; clear hf a; intro a hf
 refine s_a hf rfl ?_; clear hf a; intro a hf
 refine s_nil (then_n ?_)
 refine c_cond hf rfl (fun hi3 => ?_) (fun hi3 => ?_)
 ·simp only [zd1, zd2, zd3, zd4, zd5, zd6, zd7] at hi3
  refine wp_seq (wp_region_lit ?_)
  refine s_a hf rfl ?_; clear hf a; intro a hf
  refine s_nil (then_n ?_)
  refine wp_ret ?_
  refine blk_r (then_r ?_)
  refine r_1 hf Tryz.results83 rfl ?_
  rw [trS_big hi1 (by omega) (by omega)]
  exact ⟨rfl, diskA_close (x := ⟨_, _, m, _, es, clk⟩) hm hg hs⟩
 simp only [zd1, zd2, zd3, zd4, zd5, zd6, zd7] at hi3
 refine wp_seq (wp_region_lit ?_)
 refine s_m hf rfl ?_; clear hf a; intro a hf
 replace hs := diskA_close (s := s) (x := ⟨_, _, m, _, es, clk⟩) hm hg hs
 refine s_do hf rfl (y_call (hf.eval rfl) (hf.evals rfl) Tryz.call39 ((spend_spec _ _ _ p s hs ho.fuse.2 ho.fuse.1 hcl).mono ?_))
 rintro e w1 ⟨rfl, hs⟩
 obtain ⟨t, ht⟩ : ∃ t, t = spent s := ⟨_, rfl⟩
 rw [← ht] at hs
 obtain ⟨htn, htr, htd, htp, hts⟩ := spent_now s
 rw [← ht] at htn htr htd htp hts
 have hto := spent_ok ho
 rw [← ht] at hto
 have htn2 : t.now.length = s.now.length := by rw [htn]
 have htp2 : t.pcs.length = s.pcs.length := by rw [htp]
 have hts2 : t.sizes.length = s.sizes.length := by rw [hts]
 refine ⟨_, rfl, ?_⟩; clear hf a; intro a hf
 refine s_v hf (x_not (hf.eval rfl)) ?_; clear hf a; intro a hf
 refine s_a hf rfl ?_; clear hf a; intro a hf
 refine s_nil (then_n ?_)
 refine c_cond hf rfl (fun hi4 => ?_) (fun hi4 => ?_)
 ·simp only [Bool.not_eq_true', Bool.not_eq_false', decide_eq_true_eq, decide_eq_false_iff_not, ne_eq, Decidable.not_not] at hi4
  refine wp_seq (wp_region_lit ?_)
  refine s_a hf rfl ?_; clear hf a; intro a hf
  refine s_nil (then_n ?_)
  refine wp_ret ?_
  refine blk_r (then_r ?_)
  refine r_1 hf Tryz.results83 rfl ?_
  rw [trS_fuse hi1 (by omega) (by omega) hi4, ← ht]
  exact ⟨rfl, hs⟩
 simp only [Bool.not_eq_true', Bool.not_eq_false', decide_eq_true_eq, decide_eq_false_iff_not, ne_eq, Decidable.not_not] at hi4
 obtain ⟨⟨v1, v2, m, v4, es, clk⟩, hm, hg, hs⟩ := diskA_open hs
 dsimp only at hm hg hs
 obtain ⟨a1, c1, rfl, hc1⟩ := slB_shape (hs.take .k1)
 obtain ⟨a2, c2, rfl, hc2⟩ := slB_shape (hs.take .k2)
 obtain ⟨a4, c4, rfl⟩ := sl_shape (hs.take .k5)
 refine wp_skip (blk_n (then_n (wp_seq (wp_region_lit ?_))))
 refine s_m hf rfl ?_; clear hf a; intro a hf
 refine s_v hf (x_nilCheck (hf.eval rfl)) ?_; clear hf a; intro a hf
 refine s_v hf (x_fieldAddr fo85_1 (hf.eval rfl)) ?_; clear hf a; intro a hf
 refine s_r hf (x_load sc22 (hf.eval rfl) (by apply hs.cell <;> repeat constructor)) ?_; clear hf a; intro a hf
 refine s_v hf (x_len Tryz.underlying22 (hf.eval rfl)) ?_; clear hf a; intro a hf
 refine s_a hf rfl ?_; clear hf a; intro a hf
 refine s_nil (then_n (wp_seq (wp_seq (wp_region_lit ?_))))
 refine s_m hf rfl ?_; clear hf a; intro a hf
 refine s_m hf rfl ?_; clear hf a; intro a hf
 refine s_v hf (x_bin (hf.eval rfl) (hf.eval rfl) (r_gt _ _ _ _)) ?_; clear hf a; intro a hf
 refine s_nil (then_n ?_)
 refine c_cond hf rfl (fun hi5 => ?_) (fun hi5 => ?_)
 ·simp only [zd1, zd2, zd3, zd4, zd5, zd6, zd7] at hi5
  refine wp_region_lit ?_
  refine s_m hf rfl ?_; clear hf a; intro a hf
  refine s_m hf rfl ?_; clear hf a; intro a hf
  refine s_m hf rfl ?_; clear hf a; intro a hf
  refine s_m hf rfl ?_; clear hf a; intro a hf
  refine s_v hf (x_bin (hf.eval rfl) (hf.eval rfl) (r_subi _ (by omega) (by omega))) ?_; clear hf a; intro a hf
  refine s_do hf rfl (y_makeB (m := n.toNat - t.now.length) (c := n.toNat - t.now.length) hs sl22 (hf.eval rfl) (hf.eval rfl) (by omega) (by omega) (Nat.le_refl _) (by omega) ?_); clear hf hs a; intro b w hs a hf
  replace hs := hs.ofBb (n := (List.replicate (n.toNat - t.now.length) (0 : UInt8)).length) rfl (by simp; omega)
  replace hf := hf.now (k := 41) (v' := .slice (some ⟨b, 0, none⟩) (List.replicate (n.toNat - t.now.length) (0 : UInt8)).length (List.replicate (n.toNat - t.now.length) (0 : UInt8)).length) rfl (by simp)
  replace hs := St.give (L := _) hs .k6
  replace hs := diskA_close (s := t) (x := ⟨_, _, m, _, es, clk⟩) hm hg hs
  refine s_do hf rfl (y_call (hf.eval rfl) (hf.evals rfl) Tryz.call109 ((lay_spec σ _ _ p t hs t.now.length _ _ (List.replicate (n.toNat - t.now.length) (0 : UInt8)) (Rdy.own .k0) (by intro h9; have h8 := congrArg List.length h9; simp at h8; omega) (Nat.le_refl _) (by simp; omega) (by omega) (by omega)).mono ?_))
  rintro e w1 ⟨rfl, hs⟩
  replace hs := hs.lose .k1
  rw [← trC_up (by omega)] at hs
  obtain ⟨u, hu⟩ : ∃ u, u = trC t n.toNat := ⟨_, rfl⟩
  rw [← hu] at hs
  have husz : u.sizes = t.sizes := by rw [hu]; unfold trC; split <;> rfl
  have husz2 : u.sizes.length = t.sizes.length := by rw [husz]
  have hul : n.toNat ≤ u.now.length := by have h9 := trN_len t n.toNat; unfold trN at h9; rw [← hu] at h9; simp only [List.length_take] at h9; omega
  obtain ⟨⟨v1, v2, m, v4, es, clk⟩, hm, hg, hs⟩ := diskA_open hs
  dsimp only at hm hg hs
  obtain ⟨a1, c1, rfl, hc1⟩ := slB_shape (hs.take .k1)
  obtain ⟨a2, c2, rfl, hc2⟩ := slB_shape (hs.take .k2)
  obtain ⟨a4, c4, rfl⟩ := sl_shape (hs.take .k5)
  refine ⟨_, rfl, ?_⟩; clear hf a; intro a hf
  refine s_nil (then_n (wp_seq (wp_region_lit ?_)))
  refine s_m hf rfl ?_; clear hf a; intro a hf
  refine s_m hf rfl ?_; clear hf a; intro a hf
  refine s_v hf (x_nilCheck (hf.eval rfl)) ?_; clear hf a; intro a hf
  refine s_v hf (x_fieldAddr fo85_1 (hf.eval rfl)) ?_; clear hf a; intro a hf
  refine s_r hf (x_load sc22 (hf.eval rfl) (by apply hs.cell <;> repeat constructor)) ?_; clear hf a; intro a hf
  refine s_m hf rfl ?_; clear hf a; intro a hf
  refine s_v hf (x_slice_hi sl22 (hf.eval rfl) (hf.eval rfl)  (by omega) (by omega) ) ?_; clear hf a; intro a hf
  refine s_v hf (x_nilCheck (hf.eval rfl)) ?_; clear hf a; intro a hf
  refine s_v hf (x_fieldAddr fo85_1 (hf.eval rfl)) ?_; clear hf a; intro a hf
  refine s_do0 hf rfl (y_store hs sc22 (hf.eval rfl) (hf.eval rfl) rfl (by repeat constructor) (by simp) ?_); clear hf hs a; intro w hs a hf
  have htk : (u.now.take n.toNat).length = n.toNat := by rw [List.length_take]; omega
  replace hs := ((hs.take .k1).cutSl (m := n.toNat) hul).take .k1
  refine s_nil (then_n (wp_seq (wp_seq (wp_region_lit ?_))))
  refine s_m hf rfl ?_; clear hf a; intro a hf
  refine s_m hf rfl ?_; clear hf a; intro a hf
  refine s_v hf (x_bin (hf.eval rfl) (hf.eval rfl) (r_ne _ _ _ _)) ?_; clear hf a; intro a hf
  refine s_nil (then_n ?_)
  refine c_cond hf rfl (fun hi6 => ?_) (fun hi6 => ?_)
  ·simp only [zd1, zd2, zd3, zd4, zd5, zd6, zd7] at hi6
   refine wp_region_lit ?_
   refine s_m hf rfl ?_; clear hf a; intro a hf
   refine s_m hf rfl ?_; clear hf a; intro a hf
   refine s_v hf (x_nilCheck (hf.eval rfl)) ?_; clear hf a; intro a hf
   refine s_v hf (x_fieldAddr fo85_4 (hf.eval rfl)) ?_; clear hf a; intro a hf
   refine s_r hf (x_load sc62 (hf.eval rfl) (by apply hs.cell <;> repeat constructor)) ?_; clear hf a; intro a hf
   refine s_m hf rfl ?_; clear hf a; intro a hf
   replace hf := hf.now (k := 60) (v' := .int .i64 ((u.now.take n.toNat).length : Int)) rfl (by rw [htk]; congr 1; omega)
   refine s_do hf rfl (y_lit (xs := [.tmp 60]) hs sl62 (hf.evals rfl) rfl (by simp [Value.cells]) (by decide) ?_); clear hf hs a; intro b2 w hs a hf
   refine s_do hf rfl (y_append (n := u.sizes.length) (m := 1) (ys := [.int .i64 (((u.now.take n.toNat).length : Nat) : Int)]) hs sl62 (hf.eval rfl) (hf.eval rfl) .k6 (hs.rd .k0 fun h hb => rd_rows hb rfl) (by simp [Value.oneCell']) (by omega) (by rw [maxLen_eq]; omega) ?_); clear hf hs a; intro v2 w hs hv a hf
   rw [← szC_append, show u.sizes.length + 1 = (u.sizes ++ [((u.now.take n.toNat).length : Nat)]).length by simp] at hs
   obtain ⟨a7, c7, rfl⟩ := sl_shape hs
   refine s_v hf (x_nilCheck (hf.eval rfl)) ?_; clear hf a; intro a hf
   refine s_v hf (x_fieldAddr fo85_4 (hf.eval rfl)) ?_; clear hf a; intro a hf
   refine s_do0 hf rfl (y_store hs sc62 (hf.eval rfl) (hf.eval rfl) rfl (by repeat constructor) (by simp) ?_); clear hf hs a; intro w hs a hf
   replace hs := St.give (L := _) (hs.lose .k1) .k5
   refine s_nil (then_n (wp_seq (wp_region_lit ?_)))
   refine s_a hf rfl ?_; clear hf a; intro a hf
   refine s_nil (then_n ?_)
   refine wp_ret ?_
   refine r_1 hf Tryz.results83 rfl ?_
   rw [trS_some hi1 (by omega) (by omega) hi4, ← ht]
   unfold trN
   rw [← hu]
   first | (rw [sized_eq (show (u.now.take n.toNat).length = s.now.length by omega)]; exact ⟨rfl, diskA_close (s := { u with now := u.now.take n.toNat }) (x := ⟨.slice a1 n.toNat c1, .slice a2 u.dur.length c2, m, .slice a4 u.sizes.length c4, es, clk⟩) hm hg hs⟩) | (rw [sized_ne (show (u.now.take n.toNat).length ≠ s.now.length by omega)]; exact ⟨rfl, diskA_close (s := { { u with now := u.now.take n.toNat } with sizes := u.sizes ++ [(u.now.take n.toNat).length] }) (x := ⟨.slice a1 n.toNat c1, .slice a2 u.dur.length c2, m, .slice a7 (u.sizes ++ [(u.now.take n.toNat).length]).length c7, es, clk⟩) hm hg hs⟩)
  simp only [zd1, zd2, zd3, zd4, zd5, zd6, zd7] at hi6
  refine wp_skip (then_n (wp_seq (wp_region_lit ?_)))
  refine s_a hf rfl ?_; clear hf a; intro a hf
  refine s_nil (then_n ?_)
  refine wp_ret ?_
  refine r_1 hf Tryz.results83 rfl ?_
  rw [trS_some hi1 (by omega) (by omega) hi4, ← ht]
  unfold trN
  rw [← hu]
  first | (rw [sized_eq (show (u.now.take n.toNat).length = s.now.length by omega)]; exact ⟨rfl, diskA_close (s := { u with now := u.now.take n.toNat }) (x := ⟨.slice a1 n.toNat c1, .slice a2 u.dur.length c2, m, .slice a4 u.sizes.length c4, es, clk⟩) hm hg hs⟩) | (rw [sized_ne (show (u.now.take n.toNat).length ≠ s.now.length by omega)]; exact ⟨rfl, diskA_close (s := { { u with now := u.now.take n.toNat } with sizes := u.sizes ++ [(u.now.take n.toNat).length] }) (x := ⟨.slice a1 n.toNat c1, .slice a2 u.dur.length c2, m, .slice a7 (u.sizes ++ [(u.now.take n.toNat).length]).length c7, es, clk⟩) hm hg hs⟩)
 simp only [zd1, zd2, zd3, zd4, zd5, zd6, zd7] at hi5
 replace hs := diskA_close (s := t) (x := ⟨_, _, m, _, es, clk⟩) hm hg hs
 rw [← trC_in (s := t) (n := n.toNat) (by omega)] at hs
 obtain ⟨u, hu⟩ : ∃ u, u = trC t n.toNat := ⟨_, rfl⟩
 rw [← hu] at hs
 have husz : u.sizes = t.sizes := by rw [hu]; unfold trC; split <;> rfl
 have husz2 : u.sizes.length = t.sizes.length := by rw [husz]
 have hul : n.toNat ≤ u.now.length := by have h9 := trN_len t n.toNat; unfold trN at h9; rw [← hu] at h9; simp only [List.length_take] at h9; omega
 obtain ⟨⟨v1, v2, m, v4, es, clk⟩, hm, hg, hs⟩ := diskA_open hs
 dsimp only at hm hg hs
 obtain ⟨a1, c1, rfl, hc1⟩ := slB_shape (hs.take .k1)
 obtain ⟨a2, c2, rfl, hc2⟩ := slB_shape (hs.take .k2)
 obtain ⟨a4, c4, rfl⟩ := sl_shape (hs.take .k5)
 refine wp_skip (then_n (wp_seq (wp_region_lit ?_)))
 refine s_m hf rfl ?_; clear hf a; intro a hf
 refine s_m hf rfl ?_; clear hf a; intro a hf
 refine s_v hf (x_nilCheck (hf.eval rfl)) ?_; clear hf a; intro a hf
 refine s_v hf (x_fieldAddr fo85_1 (hf.eval rfl)) ?_; clear hf a; intro a hf
 refine s_r hf (x_load sc22 (hf.eval rfl) (by apply hs.cell <;> repeat constructor)) ?_; clear hf a; intro a hf
 refine s_m hf rfl ?_; clear hf a; intro a hf
 refine s_v hf (x_slice_hi sl22 (hf.eval rfl) (hf.eval rfl)  (by omega) (by omega) ) ?_; clear hf a; intro a hf
 refine s_v hf (x_nilCheck (hf.eval rfl)) ?_; clear hf a; intro a hf
 refine s_v hf (x_fieldAddr fo85_1 (hf.eval rfl)) ?_; clear hf a; intro a hf
 refine s_do0 hf rfl (y_store hs sc22 (hf.eval rfl) (hf.eval rfl) rfl (by repeat constructor) (by simp) ?_); clear hf hs a; intro w hs a hf
 have htk : (u.now.take n.toNat).length = n.toNat := by rw [List.length_take]; omega
 replace hs := ((hs.take .k1).cutSl (m := n.toNat) hul).take .k1
 refine s_nil (then_n (wp_seq (wp_seq (wp_region_lit ?_))))
 refine s_m hf rfl ?_; clear hf a; intro a hf
 refine s_m hf rfl ?_; clear hf a; intro a hf
 refine s_v hf (x_bin (hf.eval rfl) (hf.eval rfl) (r_ne _ _ _ _)) ?_; clear hf a; intro a hf
 refine s_nil (then_n ?_)
 refine c_cond hf rfl (fun hi6 => ?_) (fun hi6 => ?_)
 ·simp only [zd1, zd2, zd3, zd4, zd5, zd6, zd7] at hi6
  refine wp_region_lit ?_
  refine s_m hf rfl ?_; clear hf a; intro a hf
  refine s_m hf rfl ?_; clear hf a; intro a hf
  refine s_v hf (x_nilCheck (hf.eval rfl)) ?_; clear hf a; intro a hf
  refine s_v hf (x_fieldAddr fo85_4 (hf.eval rfl)) ?_; clear hf a; intro a hf
  refine s_r hf (x_load sc62 (hf.eval rfl) (by apply hs.cell <;> repeat constructor)) ?_; clear hf a; intro a hf
  refine s_m hf rfl ?_; clear hf a; intro a hf
  replace hf := hf.now (k := 60) (v' := .int .i64 ((u.now.take n.toNat).length : Int)) rfl (by rw [htk]; congr 1; omega)
  refine s_do hf rfl (y_lit (xs := [.tmp 60]) hs sl62 (hf.evals rfl) rfl (by simp [Value.cells]) (by decide) ?_); clear hf hs a; intro b2 w hs a hf
  refine s_do hf rfl (y_append (n := u.sizes.length) (m := 1) (ys := [.int .i64 (((u.now.take n.toNat).length : Nat) : Int)]) hs sl62 (hf.eval rfl) (hf.eval rfl) .k6 (hs.rd .k0 fun h hb => rd_rows hb rfl) (by simp [Value.oneCell']) (by omega) (by rw [maxLen_eq]; omega) ?_); clear hf hs a; intro v2 w hs hv a hf
  rw [← szC_append, show u.sizes.length + 1 = (u.sizes ++ [((u.now.take n.toNat).length : Nat)]).length by simp] at hs
  obtain ⟨a7, c7, rfl⟩ := sl_shape hs
  refine s_v hf (x_nilCheck (hf.eval rfl)) ?_; clear hf a; intro a hf
  refine s_v hf (x_fieldAddr fo85_4 (hf.eval rfl)) ?_; clear hf a; intro a hf
  refine s_do0 hf rfl (y_store hs sc62 (hf.eval rfl) (hf.eval rfl) rfl (by repeat constructor) (by simp) ?_); clear hf hs a; intro w hs a hf
  replace hs := St.give (L := _) (hs.lose .k1) .k5
  refine s_nil (then_n (wp_seq (wp_region_lit ?_)))
  refine s_a hf rfl ?_; clear hf a; intro a hf
  refine s_nil (then_n ?_)
  refine wp_ret ?_
  refine r_1 hf Tryz.results83 rfl ?_
  rw [trS_some hi1 (by omega) (by omega) hi4, ← ht]
  unfold trN
  rw [← hu]
  first | (rw [sized_eq (show (u.now.take n.toNat).length = s.now.length by omega)]; exact ⟨rfl, diskA_close (s := { u with now := u.now.take n.toNat }) (x := ⟨.slice a1 n.toNat c1, .slice a2 u.dur.length c2, m, .slice a4 u.sizes.length c4, es, clk⟩) hm hg hs⟩) | (rw [sized_ne (show (u.now.take n.toNat).length ≠ s.now.length by omega)]; exact ⟨rfl, diskA_close (s := { { u with now := u.now.take n.toNat } with sizes := u.sizes ++ [(u.now.take n.toNat).length] }) (x := ⟨.slice a1 n.toNat c1, .slice a2 u.dur.length c2, m, .slice a7 (u.sizes ++ [(u.now.take n.toNat).length]).length c7, es, clk⟩) hm hg hs⟩)
 simp only [zd1, zd2, zd3, zd4, zd5, zd6, zd7] at hi6
 refine wp_skip (then_n (wp_seq (wp_region_lit ?_)))
 refine s_a hf rfl ?_; clear hf a; intro a hf
 refine s_nil (then_n ?_)
 refine wp_ret ?_
 refine r_1 hf Tryz.results83 rfl ?_
 rw [trS_some hi1 (by omega) (by omega) hi4, ← ht]
 unfold trN
 rw [← hu]
 first | (rw [sized_eq (show (u.now.take n.toNat).length = s.now.length by omega)]; exact ⟨rfl, diskA_close (s := { u with now := u.now.take n.toNat }) (x := ⟨.slice a1 n.toNat c1, .slice a2 u.dur.length c2, m, .slice a4 u.sizes.length c4, es, clk⟩) hm hg hs⟩) | (rw [sized_ne (show (u.now.take n.toNat).length ≠ s.now.length by omega)]; exact ⟨rfl, diskA_close (s := { { u with now := u.now.take n.toNat } with sizes := u.sizes ++ [(u.now.take n.toNat).length] }) (x := ⟨.slice a1 n.toNat c1, .slice a2 u.dur.length c2, m, .slice a7 (u.sizes ++ [(u.now.take n.toNat).length]).length c7, es, clk⟩) hm hg hs⟩)
theorem dSync_spec (σ : Sig) (w : World) (R : List Asrt) (p : Nat) (s : DS) (hs : St σ w (diskA 85 127 5 3 p s :: R)) (ho : DOk s) (hcl : s.calls ≤ 4611686018427387904) (hpc : s.pcs.length ≤ 1099511600000) (hsl : s.sizes.length ≤ 1099511600000) : Calls Tryz.prog 11 #[.pointer (some ⟨p, 0, none⟩)] w fun e w' => e = .returned (.int .i64 (syS s).1) ∧ St σ w' (diskA 85 127 5 3 p (syS s).2 :: R) := by
 have hroom1 := ho.room1
 have hnow1 := ho.now
 obtain ⟨⟨v1, v2, m, v4, es, clk⟩, hm, hg, hs⟩ := diskA_open hs
 dsimp only at hm hg hs
 obtain ⟨a1, c1, rfl, hc1⟩ := slB_shape (hs.take .k1)
 obtain ⟨a2, c2, rfl, hc2⟩ := slB_shape (hs.take .k2)
 obtain ⟨a4, c4, rfl⟩ := sl_shape (hs.take .k5)
 refine c_enter (N := 31) Tryz.func11 rfl Tryz.ntmps11 (by simp) ?_
 intro a hf
 refine wp_seq (wp_region_lit ?_)
 refine s_a hf rfl ?_; clear hf a; intro a hf
 refine s_nil (then_n (wp_seq (wp_block (wp_seq (wp_region_lit ?_)))))
 refine s_m hf rfl ?_; clear hf a; intro a hf
 refine s_v hf (x_eqNil Tryz.underlying24 (hf.eval rfl) (hf.eval rfl)) ?_; clear hf a; intro a hf
 replace hf := hf.now (k := 5) (v' := .bool false) rfl rfl
 refine s_a hf rfl ?_; clear hf a; intro a hf
 refine s_nil (then_n ?_)
 refine c_cond_f hf rfl rfl ?_
 refine wp_seq (wp_region_lit ?_)
 refine s_m hf rfl ?_; clear hf a; intro a hf
 refine s_v hf (x_nilCheck (hf.eval rfl)) ?_; clear hf a; intro a hf
 refine s_v hf (x_fieldAddr fo85_7 (hf.eval rfl)) ?_; clear hf a; intro a hf
 refine s_r hf (x_load sc4 (hf.eval rfl) (by apply hs.cell <;> repeat constructor)) ?_; clear hf a; intro a hf
 refine s_m hf rfl ?_; clear hf a; intro a hf
 refine s_bool hf (k := 11) rfl (fun hg3_4 hf' => ?_) (fun hg3_4 hf' => ?_)
 ·clear hf
  have hf := hf'
  clear hf'
  refine s_pass hf rfl rfl ?_; clear hf a; intro a hf
  refine s_pass hf rfl rfl ?_; clear hf a; intro a hf
  refine s_pass hf rfl rfl ?_; clear hf a; intro a hf
  refine s_v hf (x_pick_t (hf.eval rfl) (hf.eval rfl)) ?_; clear hf a; intro a hf
  refine s_a hf rfl ?_; clear hf a; intro a hf
  refine s_nil (then_n ?_)
  refine c_cond_t hf rfl rfl ?_
  refine wp_seq (wp_region_lit ?_)
  refine s_a hf rfl ?_; clear hf a; intro a hf
  refine s_nil (then_n ?_)
  refine wp_ret ?_
  refine blk_r (then_r ?_)
  refine r_1 hf Tryz.results11 rfl ?_
  first | (rw [syS_dead hg3_4]; exact ⟨rfl, diskA_close (x := ⟨_, _, m, _, es, clk⟩) hm hg hs⟩) | (rw [syS_fuse hg3_4 hi1, ← ht]; exact ⟨rfl, hs⟩)
 clear hf
 have hf := hf'
 clear hf'
 refine s_do hf (wanted_of hf rfl rfl rfl) (.value (x_move (hf.eval rfl) _) ?_); clear hf a; intro a hf
 replace hs := diskA_close (s := s) (x := ⟨_, _, m, _, es, clk⟩) hm hg hs
 refine s_do hf (wanted_of hf rfl rfl rfl) (y_call (hf.eval rfl) (hf.evals rfl) Tryz.call39 ((spend_spec _ _ _ p s hs ho.fuse.2 ho.fuse.1 hcl).mono ?_))
 rintro e w1 ⟨rfl, hs⟩
 obtain ⟨t, ht⟩ : ∃ t, t = spent s := ⟨_, rfl⟩
 rw [← ht] at hs
 obtain ⟨htn, htr, htd, htp, hts⟩ := spent_now s
 rw [← ht] at htn htr htd htp hts
 have hto := spent_ok ho
 rw [← ht] at hto
 have htn2 : t.now.length = s.now.length := by rw [htn]
 have htp2 : t.pcs.length = s.pcs.length := by rw [htp]
 have hts2 : t.sizes.length = s.sizes.length := by rw [hts]
 refine ⟨_, rfl, ?_⟩; clear hf a; intro a hf
 refine s_do hf (wanted_of hf rfl rfl rfl) (.value (x_not (hf.eval rfl) _) ?_); clear hf a; intro a hf
 refine s_v hf (x_pick_f (hf.eval rfl) (hf.eval rfl)) ?_; clear hf a; intro a hf
 refine s_a hf rfl ?_; clear hf a; intro a hf
 refine s_nil (then_n ?_)
 refine c_cond hf rfl (fun hi1 => ?_) (fun hi1 => ?_)
 ·simp only [Bool.not_eq_true', Bool.not_eq_false', decide_eq_true_eq, decide_eq_false_iff_not, ne_eq, Decidable.not_not] at hi1
  refine wp_seq (wp_region_lit ?_)
  refine s_a hf rfl ?_; clear hf a; intro a hf
  refine s_nil (then_n ?_)
  refine wp_ret ?_
  refine blk_r (then_r ?_)
  refine r_1 hf Tryz.results11 rfl ?_
  first | (rw [syS_dead hg3_4]; exact ⟨rfl, diskA_close (x := ⟨_, _, m, _, es, clk⟩) hm hg hs⟩) | (rw [syS_fuse hg3_4 hi1, ← ht]; exact ⟨rfl, hs⟩)
 simp only [Bool.not_eq_true', Bool.not_eq_false', decide_eq_true_eq, decide_eq_false_iff_not, ne_eq, Decidable.not_not] at hi1
 obtain ⟨⟨v1, v2, m, v4, es, clk⟩, hm, hg, hs⟩ := diskA_open hs
 dsimp only at hm hg hs
 obtain ⟨a1, c1, rfl, hc1⟩ := slB_shape (hs.take .k1)
 obtain ⟨a2, c2, rfl, hc2⟩ := slB_shape (hs.take .k2)
 obtain ⟨a4, c4, rfl⟩ := sl_shape (hs.take .k5)
 refine wp_skip (blk_n (then_n (wp_seq (wp_region_lit ?_))))
 refine s_m hf rfl ?_; clear hf a; intro a hf
 refine s_m hf rfl ?_; clear hf a; intro a hf
 refine s_v hf (x_nilCheck (hf.eval rfl)) ?_; clear hf a; intro a hf
 refine s_v hf (x_fieldAddr fo85_1 (hf.eval rfl)) ?_; clear hf a; intro a hf
 refine s_r hf (x_load sc22 (hf.eval rfl) (by apply hs.cell <;> repeat constructor)) ?_; clear hf a; intro a hf
 refine s_do hf rfl (y_call (hf.eval rfl) (hf.evals rfl) Tryz.call37 ((dclone_spec _ _ _ t.now (hs.rdB .k1 fun h => slB_rd) (by omega)).mono ?_))
 rintro e w1 ⟨e1, fe1, rfl, hj⟩
 replace hs := hs.join hj
 simp only [List.cons_append, List.nil_append] at hs
 refine ⟨_, rfl, ?_⟩; clear hf a; intro a hf
 refine s_v hf (x_nilCheck (hf.eval rfl)) ?_; clear hf a; intro a hf
 refine s_v hf (x_fieldAddr fo85_2 (hf.eval rfl)) ?_; clear hf a; intro a hf
 refine s_do0 hf rfl (y_store hs sc22 (hf.eval rfl) (hf.eval rfl) rfl (by repeat constructor) (by simp) ?_); clear hf hs a; intro w hs a hf
 replace hs := (((hs.lose .k3).take .k2).take .k2)
 refine s_nil (then_n (wp_seq (wp_region_lit ?_)))
 refine s_m hf rfl ?_; clear hf a; intro a hf
 refine s_do hf rfl (y_makeMap hs ?_); clear hf hs a; intro m2 w hs a hf
 refine s_v hf (x_nilCheck (hf.eval rfl)) ?_; clear hf a; intro a hf
 refine s_v hf (x_fieldAddr fo85_3 (hf.eval rfl)) ?_; clear hf a; intro a hf
 refine s_do0 hf rfl (y_store hs sc83 (hf.eval rfl) (hf.eval rfl) rfl (by repeat constructor) (by simp) ?_); clear hf hs a; intro w hs a hf
 refine s_nil (then_n (wp_seq (wp_region_lit ?_)))
 refine s_m hf rfl ?_; clear hf a; intro a hf
 refine s_v hf (x_nilCheck (hf.eval rfl)) ?_; clear hf a; intro a hf
 refine s_v hf (x_fieldAddr fo85_4 (hf.eval rfl)) ?_; clear hf a; intro a hf
 refine s_do0 hf rfl (y_store hs sc62 (hf.eval rfl) (hf.eval rfl) rfl (by repeat constructor) (by simp) ?_); clear hf hs a; intro w hs a hf
 refine s_nil (then_n (wp_seq (wp_region_lit ?_)))
 refine s_a hf rfl ?_; clear hf a; intro a hf
 refine s_nil (then_n ?_)
 refine wp_ret ?_
 refine r_1 hf Tryz.results11 rfl ?_
 rw [syS_some hg3_4 hi1, ← ht, ← htn]
 replace hs := St.give (L := _) (((hs.lose .k4).lose .k4).lose .k4) .k3
 replace hs := St.give (L := _) (hs.emp (A := entsA 127 5 []) (fun _ => trivial)) .k4
 replace hs := St.give (L := _) (hs.emp (A := sl 3 1 (.slice none 0 0) 0 []) (fun _ => ⟨rfl, .inl ⟨rfl, rfl⟩⟩)) .k5
 exact ⟨rfl, diskA_close (s := { t with dur := t.now, pcs := [], sizes := [] }) (x := ⟨.slice a1 t.now.length c1, .slice e1 t.now.length fe1, m2, .slice none 0 0, [], 0⟩) (MOk.nil 0) Grp.nil hs⟩
end Go.Proofs.YtehakfbfjpolfaaGreatDoor

namespace Go.Proofs.YtehakfbfjpolfaaGreatDoor
open Go Vw
theorem moved_spec (w : World) (x : Nat) (hx : x < 4294967296) : Calls Tryz.prog 110 #[.int .u32 ((x : Nat) : Int)] w fun e w' => e = .returned (.int .u32 ((mv x : Nat) : Int)) ∧ w' = w := by
 refine c_enter (N := 11) Tryz.func110 rfl Tryz.ntmps110 (by simp) ?_
 intro a hf
 refine wp_seq (wp_region_lit ?_)
 refine s_a hf rfl ?_; clear hf a; intro a hf
 refine s_nil (then_n (wp_seq (wp_seq (wp_region_lit ?_))))
 refine s_m hf rfl ?_; clear hf a; intro a hf
 refine s_v hf (x_bin (hf.eval rfl) (hf.eval rfl) (r_remn _ _ (by omega) (by omega))) ?_; clear hf a; intro a hf
 refine s_v hf (x_bin (hf.eval rfl) (hf.eval rfl) (r_eq _ _ _ _)) ?_; clear hf a; intro a hf
 refine s_nil (then_n ?_)
 refine c_cond hf rfl (fun hi0 => ?_) (fun hi0 => ?_)
 ·simp only [decide_eq_true_eq, decide_eq_false_iff_not] at hi0
  refine wp_seq (wp_region_lit ?_)
  refine s_m hf rfl ?_; clear hf a; intro a hf
  refine s_v hf (x_bin (hf.eval rfl) (hf.eval rfl) (r_quo _ _ (by omega))) ?_; clear hf a; intro a hf
  replace hf := hf.now (k := 7) (v' := .int .u32 ((x / 2 : Nat) : Int)) rfl (by rw [tdiv_nn (by omega) (by omega), wrap_u32]; congr 1; omega)
  refine s_v hf (x_bin (hf.eval rfl) (hf.eval rfl) (r_xor_u32 _ (y := 3988292384) (by omega) (by omega))) ?_; clear hf a; intro a hf
  refine s_a hf rfl ?_; clear hf a; intro a hf
  refine s_nil (then_n ?_)
  refine wp_ret ?_
  refine then_r ?_
  refine r_1 hf Tryz.results110 rfl ?_
  exact ⟨by unfold mv; rw [if_pos (by omega)], rfl⟩
 simp only [decide_eq_true_eq, decide_eq_false_iff_not] at hi0
 refine wp_skip (then_n (wp_seq (wp_region_lit ?_)))
 refine s_m hf rfl ?_; clear hf a; intro a hf
 refine s_v hf (x_bin (hf.eval rfl) (hf.eval rfl) (r_quo _ _ (by omega))) ?_; clear hf a; intro a hf
 replace hf := hf.now (k := 10) (v' := .int .u32 ((x / 2 : Nat) : Int)) rfl (by rw [tdiv_nn (by omega) (by omega), wrap_u32]; congr 1; omega)
 refine s_a hf rfl ?_; clear hf a; intro a hf
 refine s_nil (then_n ?_)
 refine wp_ret ?_
 refine r_1 hf Tryz.results110 rfl ?_
 exact ⟨by unfold mv; rw [if_neg (by omega), Nat.xor_zero], rfl⟩
theorem update_spec (w0 : World) (hT : Tab 0 (hp w0)) (sum : Nat) (hsum : sum < 4294967296) (a0 : Option Addr) (c : Nat) (l : List UInt8) (hr : RdB (hp w0) (.slice a0 l.length c) l) (hl : l.length ≤ 140737488355328) : Calls Tryz.prog 107 #[.int .u32 ((sum : Nat) : Int), .slice a0 l.length c] w0 fun e w' => e = .returned (.int .u32 ((crcU sum l : Nat) : Int)) ∧ Kept w0 w' None_ := by
 have hs := St.start w0 None_
 refine c_enter (N := 37) Tryz.func107 rfl Tryz.ntmps107 (by simp) ?_
 intro a hf
 refine wp_seq (wp_region_lit ?_)
 refine s_a hf rfl ?_; clear hf a; intro a hf
 refine s_nil (then_n (wp_seq (wp_region_lit ?_)))
 refine s_m hf rfl ?_; clear hf a; intro a hf
 refine s_r hf (x_notU (hf.eval rfl) hsum _) ?_; clear hf a; intro a hf
 refine s_a hf rfl ?_; clear hf a; intro a hf
 refine s_nil (then_n (wp_seq (wp_seq (wp_region_lit ?_))))
 refine s_m hf rfl ?_; clear hf a; intro a hf
 refine s_v hf (x_len Tryz.underlying22 (hf.eval rfl)) ?_; clear hf a; intro a hf
 refine s_m hf rfl ?_; clear hf a; intro a hf
 refine s_nil (then_n (wp_block ?_))
 refine c_loop (L0 := [(4, _), (10, _), (11, _)]) (fun M w m => ∃ i : Nat, M = [(5, .int .u32 ((upd (4294967295 ^^^ sum) (l.take i) : Nat) : Int)), (12, .int .i64 (i : Int))] ∧ l.length - i = m ∧ i ≤ l.length ∧ St ⟨w0, None_⟩ w []) (M0 := [(5, .int .u32 ((4294967295 ^^^ sum : Nat) : Int)), (12, .int .i64 (0 : Nat))]) (⟨0, rfl, rfl, Nat.zero_le _, hs⟩) (hf.sub ⟨rfl, rfl, rfl, rfl, rfl, trivial⟩) ?_
 clear hf hs a
 rintro M m a w ⟨i, rfl, rfl, hi, hs⟩ hf
 refine wp_seq (wp_region_lit ?_)
 refine s_v hf (x_bin (hf.eval rfl) (hf.eval rfl) (r_lt _ _ _ _)) ?_; clear hf a; intro a hf
 refine s_nil (then_n (wp_seq ?_))
 refine c_cond hf rfl (fun hi0 => ?_) (fun hi0 => ?_)
 ·simp only [zd1, zd2, zd3, zd4, zd5, zd6, zd7] at hi0
  have hlt : i < l.length := by omega
  obtain ⟨a0, rfl⟩ := hr.some (by omega)
  refine wp_skip (then_n (wp_seq (wp_block (wp_seq (wp_region_lit ?_)))))
  refine s_v hf (x_indexAddr sl22 (hf.eval rfl) (hf.eval rfl) (by omega) (by omega)) ?_; clear hf a; intro a hf
  refine s_r hf (x_loadB sc5 (hs.oldB hr) (hf.eval rfl) (by omega)) ?_; clear hf a; intro a hf
  replace hf := hf.now (k := 15) (v' := u8v l[i]) rfl (rfl)
  refine s_a hf rfl ?_; clear hf a; intro a hf
  refine s_nil (then_n (wp_seq (wp_region_lit ?_)))
  refine s_m hf rfl ?_; clear hf a; intro a hf
  refine s_m hf rfl ?_; clear hf a; intro a hf
  refine s_v hf (x_convr Tryz.underlying5 Tryz.underlying96 (hf.eval rfl) (by rw [wrap_u32]; have := toNat_lt l[i]; omega : IntKind.u32.wrap (l[i].toNat : Int) = ((l[i].toNat : Nat) : Int))) ?_; clear hf a; intro a hf
  have hX0 := upd_lt (l.take i) (not_lt hsum)
  obtain ⟨X, hXe⟩ : ∃ X, X = upd (4294967295 ^^^ sum) (l.take i) ^^^ l[i].toNat := ⟨_, rfl⟩
  have hX : X < 4294967296 := by rw [hXe]; exact Nat.xor_lt_two_pow (n := 32) hX0 (by have := toNat_lt l[i]; omega)
  refine s_v hf (x_bin (hf.eval rfl) (hf.eval rfl) (r_xor_u32 _ hX0 (by have := toNat_lt l[i]; omega))) ?_; clear hf a; intro a hf
  rw [← hXe] at hf
  refine s_a hf rfl ?_; clear hf a; intro a hf
  refine s_nil (then_n (wp_seq (wp_region_lit ?_)))
  refine s_m hf rfl ?_; clear hf a; intro a hf
  refine s_v hf (x_bin (hf.eval rfl) (hf.eval rfl) (r_shr_u32 _ (j := 4) (by omega))) ?_; clear hf a; intro a hf
  replace hf := hf.now (k := 21) (v' := .int .u32 ((X / 16 : Nat) : Int)) rfl (rfl)
  refine s_m hf rfl ?_; clear hf a; intro a hf
  refine s_v hf (x_bin (hf.eval rfl) (hf.eval rfl) (r_and_u32 _ (y := 15) hX (by omega))) ?_; clear hf a; intro a hf
  replace hf := hf.now (k := 23) (v' := .int .u32 ((X % 16 : Nat) : Int)) rfl (by rw [and15])
  refine s_v hf (x_indexArr (sz := 1) Tryz.underlying163 (by kernel_rfl) (hf.eval rfl) (hf.eval rfl) (by omega) (by omega)) ?_; clear hf a; intro a hf
  replace hf := hf.now (k := 24) (v' := .pointer (some ⟨0, X % 16, none⟩)) rfl (by rw [addr0])
  have hx16 : X % 16 < tab16.length := Nat.mod_lt _ (by decide)
  refine s_r hf (x_load sc96 (hf.eval rfl) (tab_cell hT hs hx16)) ?_; clear hf a; intro a hf
  refine s_v hf (x_bin (hf.eval rfl) (hf.eval rfl) (r_xor_u32 _ (by omega) (tab16_lt hx16))) ?_; clear hf a; intro a hf
  replace hf := hf.now (k := 26) (v' := .int .u32 ((mvN 4 X : Nat) : Int)) rfl (by rw [nib _ hx16])
  refine s_a hf rfl ?_; clear hf a; intro a hf
  refine s_nil (then_n (wp_region_lit ?_))
  refine s_m hf rfl ?_; clear hf a; intro a hf
  refine s_v hf (x_bin (hf.eval rfl) (hf.eval rfl) (r_shr_u32 _ (j := 4) (by omega))) ?_; clear hf a; intro a hf
  replace hf := hf.now (k := 28) (v' := .int .u32 ((mvN 4 X / 16 : Nat) : Int)) rfl (rfl)
  refine s_m hf rfl ?_; clear hf a; intro a hf
  refine s_v hf (x_bin (hf.eval rfl) (hf.eval rfl) (r_and_u32 _ (y := 15) (mvN_lt 4 hX) (by omega))) ?_; clear hf a; intro a hf
  replace hf := hf.now (k := 30) (v' := .int .u32 ((mvN 4 X % 16 : Nat) : Int)) rfl (by rw [and15])
  refine s_v hf (x_indexArr (sz := 1) Tryz.underlying163 (by kernel_rfl) (hf.eval rfl) (hf.eval rfl) (by omega) (by omega)) ?_; clear hf a; intro a hf
  replace hf := hf.now (k := 31) (v' := .pointer (some ⟨0, mvN 4 X % 16, none⟩)) rfl (by rw [addr0])
  have hx16 : mvN 4 X % 16 < tab16.length := Nat.mod_lt _ (by decide)
  refine s_r hf (x_load sc96 (hf.eval rfl) (tab_cell hT hs hx16)) ?_; clear hf a; intro a hf
  refine s_v hf (x_bin (hf.eval rfl) (hf.eval rfl) (r_xor_u32 _ (by have := mvN_lt 4 hX; omega) (tab16_lt hx16))) ?_; clear hf a; intro a hf
  replace hf := hf.now (k := 33) (v' := .int .u32 ((mvN 4 (mvN 4 X) : Nat) : Int)) rfl (by rw [nib _ hx16])
  refine s_a hf rfl ?_; clear hf a; intro a hf
  refine s_nil (blk_n (then_n (wp_region_lit ?_)))
  refine s_v hf (x_bin (hf.eval rfl) (hf.eval rfl) (r_addi _ (by omega) (by omega))) ?_; clear hf a; intro a hf
  refine s_m hf rfl ?_; clear hf a; intro a hf
  refine s_nil ?_
  replace hf := hf.now (k := 5) (v' := .int .u32 ((upd (4294967295 ^^^ sum) (l.take (i + 1)) : Nat) : Int)) rfl (by rw [upd_take_succ hlt, ← hXe, mvN44])
  exact ⟨_, _, ⟨i + 1, rfl, rfl, by omega, hs⟩, by omega, hf.sub ⟨rfl, rfl, rfl, rfl, rfl, trivial⟩⟩
 simp only [zd1, zd2, zd3, zd4, zd5, zd6, zd7] at hi0
 refine wp_exit (then_x (then_x (blk_x (then_n (wp_seq (wp_region_lit ?_))))))
 refine s_m hf rfl ?_; clear hf a; intro a hf
 refine s_r hf (x_notU (hf.eval rfl) (upd_lt _ (not_lt hsum)) _) ?_; clear hf a; intro a hf
 refine s_a hf rfl ?_; clear hf a; intro a hf
 refine s_nil (then_n ?_)
 refine wp_ret ?_
 refine r_1 hf Tryz.results107 rfl ?_
 have hi' : i = l.length := by omega
 exact ⟨by subst hi'; rw [List.take_length]; rfl, hs.kept⟩
theorem refUpdate_spec (w0 : World) (sum : Nat) (hsum : sum < 4294967296) (a0 : Option Addr) (c : Nat) (l : List UInt8) (hr : RdB (hp w0) (.slice a0 l.length c) l) (hl : l.length ≤ 140737488355328) : Calls Tryz.prog 89 #[.int .u32 ((sum : Nat) : Int), .slice a0 l.length c] w0 fun e w' => e = .returned (.int .u32 ((crcU sum l : Nat) : Int)) ∧ Kept w0 w' None_ := by
 have hs := St.start w0 None_
 refine c_enter (N := 31) Tryz.func89 rfl Tryz.ntmps89 (by simp) ?_
 intro a hf
 refine wp_seq (wp_region_lit ?_)
 refine s_a hf rfl ?_; clear hf a; intro a hf
 refine s_nil (then_n (wp_seq (wp_region_lit ?_)))
 refine s_m hf rfl ?_; clear hf a; intro a hf
 refine s_r hf (x_notU (hf.eval rfl) hsum _) ?_; clear hf a; intro a hf
 refine s_a hf rfl ?_; clear hf a; intro a hf
 refine s_nil (then_n (wp_seq (wp_seq (wp_region_lit ?_))))
 refine s_a hf rfl ?_; clear hf a; intro a hf
 refine s_nil (then_n (wp_block ?_))
 refine c_loop (L0 := [(1, _), (4, _)]) (fun M w m => ∃ i : Nat, M = [(5, .int .u32 ((upd (4294967295 ^^^ sum) (l.take i) : Nat) : Int)), (6, .int .i64 (i : Int))] ∧ l.length - i = m ∧ i ≤ l.length ∧ St ⟨w0, None_⟩ w []) (M0 := [(5, .int .u32 ((4294967295 ^^^ sum : Nat) : Int)), (6, .int .i64 (0 : Nat))]) (⟨0, rfl, rfl, Nat.zero_le _, hs⟩) (hf.sub ⟨rfl, rfl, rfl, rfl, trivial⟩) ?_
 clear hf hs a
 rintro M m a w ⟨i, rfl, rfl, hi, hs⟩ hf
 refine wp_seq (wp_seq (wp_region_lit ?_))
 refine s_m hf rfl ?_; clear hf a; intro a hf
 refine s_m hf rfl ?_; clear hf a; intro a hf
 refine s_v hf (x_len Tryz.underlying22 (hf.eval rfl)) ?_; clear hf a; intro a hf
 refine s_v hf (x_bin (hf.eval rfl) (hf.eval rfl) (r_lt _ _ _ _)) ?_; clear hf a; intro a hf
 refine s_nil (then_n ?_)
 refine c_cond hf rfl (fun hi0 => ?_) (fun hi0 => ?_)
 ·simp only [zd1, zd2, zd3, zd4, zd5, zd6, zd7] at hi0
  have hlt : i < l.length := by omega
  obtain ⟨a0, rfl⟩ := hr.some (by omega)
  refine wp_skip (then_n (wp_seq (wp_block (wp_seq (wp_region_lit ?_)))))
  refine s_m hf rfl ?_; clear hf a; intro a hf
  refine s_m hf rfl ?_; clear hf a; intro a hf
  refine s_m hf rfl ?_; clear hf a; intro a hf
  refine s_v hf (x_indexAddr sl22 (hf.eval rfl) (hf.eval rfl) (by omega) (by omega)) ?_; clear hf a; intro a hf
  refine s_r hf (x_loadB sc5 (hs.oldB hr) (hf.eval rfl) (by omega)) ?_; clear hf a; intro a hf
  replace hf := hf.now (k := 20) (v' := u8v l[i]) rfl (rfl)
  refine s_v hf (x_convr Tryz.underlying5 Tryz.underlying96 (hf.eval rfl) (by rw [wrap_u32]; have := toNat_lt l[i]; omega : IntKind.u32.wrap (l[i].toNat : Int) = ((l[i].toNat : Nat) : Int))) ?_; clear hf a; intro a hf
  have hX0 := upd_lt (l.take i) (not_lt hsum)
  obtain ⟨X, hXe⟩ : ∃ X, X = upd (4294967295 ^^^ sum) (l.take i) ^^^ l[i].toNat := ⟨_, rfl⟩
  have hX : X < 4294967296 := by rw [hXe]; exact Nat.xor_lt_two_pow (n := 32) hX0 (by have := toNat_lt l[i]; omega)
  refine s_v hf (x_bin (hf.eval rfl) (hf.eval rfl) (r_xor_u32 _ hX0 (by have := toNat_lt l[i]; omega))) ?_; clear hf a; intro a hf
  rw [← hXe] at hf
  refine s_a hf rfl ?_; clear hf a; intro a hf
  refine s_nil (then_n (wp_seq (wp_region_lit ?_)))
  refine s_a hf rfl ?_; clear hf a; intro a hf
  refine s_nil (then_n (wp_block ?_))
  refine c_loop (L0 := [(1, _), (4, _), (6, _), (10, _), (11, _), (12, _), (13, _), (16, _), (17, _), (18, _), (19, _), (20, _), (21, _), (22, _)]) (fun M w m => ∃ k : Nat, M = [(5, .int .u32 ((mvN k X : Nat) : Int)), (7, .int .i64 (k : Int))] ∧ 8 - k = m ∧ k ≤ 8 ∧ St ⟨w0, None_⟩ w []) (M0 := [(5, .int .u32 ((X : Nat) : Int)), (7, .int .i64 (0 : Nat))]) (⟨0, rfl, rfl, Nat.zero_le _, hs⟩) (hf.sub ⟨rfl, rfl, rfl, rfl, rfl, rfl, rfl, rfl, rfl, rfl, rfl, rfl, rfl, rfl, rfl, rfl, trivial⟩) ?_
  clear hf hs a
  rintro M m a w ⟨k, rfl, rfl, hk, hs⟩ hf
  refine wp_seq (wp_seq (wp_region_lit ?_))
  refine s_m hf rfl ?_; clear hf a; intro a hf
  refine s_v hf (x_bin (hf.eval rfl) (hf.eval rfl) (r_lt _ _ _ _)) ?_; clear hf a; intro a hf
  refine s_nil (then_n ?_)
  refine c_cond hf rfl (fun hi1 => ?_) (fun hi1 => ?_)
  ·simp only [zd1, zd2, zd3, zd4, zd5, zd6, zd7] at hi1
   refine wp_skip (then_n (wp_seq (wp_block (wp_region_lit ?_))))
   refine s_m hf rfl ?_; clear hf a; intro a hf
   refine s_do hf rfl (y_call (hf.eval rfl) (hf.evals rfl) Tryz.call110 ((moved_spec _ _ (mvN_lt k hX)).mono ?_))
   rintro e w1 ⟨rfl, rfl⟩
   refine ⟨_, rfl, ?_⟩; clear hf a; intro a hf
   refine s_a hf rfl ?_; clear hf a; intro a hf
   refine s_nil (blk_n (then_n (wp_region_lit ?_)))
   refine s_m hf rfl ?_; clear hf a; intro a hf
   refine s_v hf (x_bin (hf.eval rfl) (hf.eval rfl) (r_addi _ (by omega) (by omega))) ?_; clear hf a; intro a hf
   refine s_a hf rfl ?_; clear hf a; intro a hf
   refine s_nil ?_
   replace hf := hf.now (k := 5) (v' := .int .u32 ((mvN (k + 1) X : Nat) : Int)) rfl (by rw [mvN_succ'])
   exact ⟨_, _, ⟨k + 1, rfl, rfl, by omega, hs⟩, by omega, hf.sub ⟨rfl, rfl, rfl, rfl, rfl, rfl, rfl, rfl, rfl, rfl, rfl, rfl, rfl, rfl, rfl, rfl, trivial⟩⟩
  simp only [zd1, zd2, zd3, zd4, zd5, zd6, zd7] at hi1
  refine wp_exit (then_x (then_x (blk_x (blk_n (then_n (wp_region_lit ?_))))))
  refine s_m hf rfl ?_; clear hf a; intro a hf
  refine s_v hf (x_bin (hf.eval rfl) (hf.eval rfl) (r_addi _ (by omega) (by omega))) ?_; clear hf a; intro a hf
  refine s_a hf rfl ?_; clear hf a; intro a hf
  refine s_nil ?_
  have hk' : k = 8 := by omega
  replace hf := hf.now (k := 5) (v' := .int .u32 ((upd (4294967295 ^^^ sum) (l.take (i + 1)) : Nat) : Int)) rfl (by rw [upd_take_succ hlt, ← hXe, hk'])
  exact ⟨_, _, ⟨i + 1, rfl, rfl, by omega, hs⟩, by omega, hf.sub ⟨rfl, rfl, rfl, rfl, trivial⟩⟩
 simp only [zd1, zd2, zd3, zd4, zd5, zd6, zd7] at hi0
 refine wp_exit (then_x (then_x (blk_x (then_n (wp_seq (wp_region_lit ?_))))))
 refine s_m hf rfl ?_; clear hf a; intro a hf
 refine s_r hf (x_notU (hf.eval rfl) (upd_lt _ (not_lt hsum)) _) ?_; clear hf a; intro a hf
 refine s_a hf rfl ?_; clear hf a; intro a hf
 refine s_nil (then_n ?_)
 refine wp_ret ?_
 refine r_1 hf Tryz.results89 rfl ?_
 have hi' : i = l.length := by omega
 exact ⟨by subst hi'; rw [List.take_length]; rfl, hs.kept⟩
theorem sum_spec (w0 : World) (hT : Tab 0 (hp w0)) (a0 : Option Addr) (c : Nat) (l : List UInt8) (hr : RdB (hp w0) (.slice a0 l.length c) l) (hl : l.length ≤ 140737488355328) : Calls Tryz.prog 80 #[.slice a0 l.length c] w0 fun e w' => e = .returned (.int .u32 ((crcU 0 l : Nat) : Int)) ∧ Kept w0 w' None_ := by
 refine c_enter (N := 5) Tryz.func80 rfl Tryz.ntmps80 (by simp) ?_
 intro a hf
 refine wp_seq (wp_region_lit ?_)
 refine s_a hf rfl ?_; clear hf a; intro a hf
 refine s_nil (then_n (wp_seq (wp_region_lit ?_)))
 refine s_m hf rfl ?_; clear hf a; intro a hf
 refine s_do hf rfl (y_call (hf.eval rfl) (hf.evals rfl) Tryz.call107 ((update_spec w0 hT 0 (by decide) a0 c l hr hl).mono ?_))
 rintro e w1 ⟨rfl, hs⟩
 refine ⟨_, rfl, ?_⟩; clear hf a; intro a hf
 refine s_a hf rfl ?_; clear hf a; intro a hf
 refine s_nil (then_n ?_)
 refine wp_ret ?_
 refine r_1 hf Tryz.results80 rfl ?_
 exact ⟨rfl, hs⟩
theorem refSum_spec (w0 : World) (a0 : Option Addr) (c : Nat) (l : List UInt8) (hr : RdB (hp w0) (.slice a0 l.length c) l) (hl : l.length ≤ 140737488355328) : Calls Tryz.prog 52 #[.slice a0 l.length c] w0 fun e w' => e = .returned (.int .u32 ((crcU 0 l : Nat) : Int)) ∧ Kept w0 w' None_ := by
 refine c_enter (N := 5) Tryz.func52 rfl Tryz.ntmps52 (by simp) ?_
 intro a hf
 refine wp_seq (wp_region_lit ?_)
 refine s_a hf rfl ?_; clear hf a; intro a hf
 refine s_nil (then_n (wp_seq (wp_region_lit ?_)))
 refine s_m hf rfl ?_; clear hf a; intro a hf
 refine s_do hf rfl (y_call (hf.eval rfl) (hf.evals rfl) Tryz.call89 ((refUpdate_spec w0 0 (by decide) a0 c l hr hl).mono ?_))
 rintro e w1 ⟨rfl, hs⟩
 refine ⟨_, rfl, ?_⟩; clear hf a; intro a hf
 refine s_a hf rfl ?_; clear hf a; intro a hf
 refine s_nil (then_n ?_)
 refine wp_ret ?_
 refine r_1 hf Tryz.results52 rfl ?_
 exact ⟨rfl, hs⟩
end Go.Proofs.YtehakfbfjpolfaaGreatDoor

namespace Go.Proofs.YtehakfbfjpolfaaGreatDoor
open Go Vw
theorem newBuf_spec (w0 : World) (lim : Int) : Calls Tryz.prog 101 #[.int .i64 lim] w0 fun e w' => ∃ p, e = .returned (.pointer (some ⟨p, 0, none⟩)) ∧ St ⟨w0, None_⟩ w' [bufA 160 5 p [] lim (if lim < 0 then 1 else 0)] := by
 have hs := (St.start w0 None_).emp (slB_nil 5)
 refine c_enter (N := 13) Tryz.func101 rfl Tryz.ntmps101 (by simp) ?_
 intro a hf
 refine wp_seq (wp_region_lit ?_)
 refine s_a hf rfl ?_; clear hf a; intro a hf
 refine s_nil (then_n (wp_seq (wp_region_lit ?_)))
 refine s_m hf rfl ?_; clear hf a; intro a hf
 refine s_r hf (x_build (v := .agg #[.slice none 0 0, .int .i64 lim, .int .i64 0]) (hf.parts rfl) (fun w => by kernel_rfl) _) ?_; clear hf a; intro a hf
 refine s_do hf rfl (y_box hs (hf.eval rfl) ?_); clear hf hs a; intro p w hs a hf
 change St _ _ (cb p 160 [.slice none 0 0, .int .i64 lim, .int .i64 0] :: _) at hs
 refine s_a hf rfl ?_; clear hf a; intro a hf
 refine s_nil (then_n (wp_seq (wp_seq (wp_region_lit ?_))))
 refine s_m hf rfl ?_; clear hf a; intro a hf
 refine s_v hf (x_bin (hf.eval rfl) (hf.eval rfl) (r_lt _ _ _ _)) ?_; clear hf a; intro a hf
 refine s_nil (then_n ?_)
 refine c_cond hf rfl (fun hi0 => ?_) (fun hi0 => ?_)
 ·simp only [zd1, zd2, zd3, zd4, zd5, zd6, zd7] at hi0
  refine wp_region_lit ?_
  refine s_m hf rfl ?_; clear hf a; intro a hf
  refine s_v hf (x_nilCheck (hf.eval rfl)) ?_; clear hf a; intro a hf
  refine s_v hf (x_fieldAddr fo160_2 (hf.eval rfl)) ?_; clear hf a; intro a hf
  refine s_do0 hf rfl (y_store hs sc25 (hf.eval rfl) (hf.eval rfl) rfl (by repeat constructor) (by simp) ?_); clear hf hs a; intro w hs a hf
  refine s_nil (then_n (wp_seq (wp_region_lit ?_)))
  refine s_m hf rfl ?_; clear hf a; intro a hf
  refine s_a hf rfl ?_; clear hf a; intro a hf
  refine s_nil (then_n ?_)
  refine wp_ret ?_
  refine r_1 hf Tryz.results101 rfl ?_
  first | (rw [if_pos hi0]; exact ⟨p, rfl, bufA_close hs⟩) | (rw [if_neg (by omega)]; exact ⟨p, rfl, bufA_close hs⟩)
 simp only [zd1, zd2, zd3, zd4, zd5, zd6, zd7] at hi0
 refine wp_skip (then_n (wp_seq (wp_region_lit ?_)))
 refine s_m hf rfl ?_; clear hf a; intro a hf
 refine s_a hf rfl ?_; clear hf a; intro a hf
 refine s_nil (then_n ?_)
 refine wp_ret ?_
 refine r_1 hf Tryz.results101 rfl ?_
 first | (rw [if_pos hi0]; exact ⟨p, rfl, bufA_close hs⟩) | (rw [if_neg (by omega)]; exact ⟨p, rfl, bufA_close hs⟩)
theorem bErr_spec (σ : Sig) (w : World) (R : List Asrt) (p : Nat) (data : List UInt8) (lim bad : Int) (hs : St σ w (bufA 160 5 p data lim bad :: R)) (hlim : bad = 0 → 0 ≤ lim) (hlim2 : lim ≤ 9223372036854775807) (hd : data.length ≤ 70368744177664) : Calls Tryz.prog 117 #[.pointer (some ⟨p, 0, none⟩)] w fun e w' => e = .returned (.int .i64 bad) ∧ St σ w' (bufA 160 5 p data lim bad :: R) := by
 obtain ⟨v0, hs⟩ := bufA_open hs
 obtain ⟨a0, c0, rfl, hc0⟩ := slB_shape (hs.take .k1)
 refine c_enter (N := 9) Tryz.func117 rfl Tryz.ntmps117 (by simp) ?_
 intro a hf
 refine wp_seq (wp_region_lit ?_)
 refine s_a hf rfl ?_; clear hf a; intro a hf
 refine s_nil (then_n (wp_seq (wp_seq (wp_region_lit ?_))))
 refine s_m hf rfl ?_; clear hf a; intro a hf
 refine s_v hf (x_eqNil Tryz.underlying145 (hf.eval rfl) (hf.eval rfl)) ?_; clear hf a; intro a hf
 replace hf := hf.now (k := 4) (v' := .bool false) rfl rfl
 refine s_nil (then_n ?_)
 refine c_cond_f hf rfl rfl ?_
 refine wp_skip (then_n (wp_seq (wp_region_lit ?_)))
 refine s_m hf rfl ?_; clear hf a; intro a hf
 refine s_v hf (x_nilCheck (hf.eval rfl)) ?_; clear hf a; intro a hf
 refine s_v hf (x_fieldAddr fo160_2 (hf.eval rfl)) ?_; clear hf a; intro a hf
 refine s_r hf (x_load sc25 (hf.eval rfl) (by apply hs.cell <;> repeat constructor)) ?_; clear hf a; intro a hf
 refine s_a hf rfl ?_; clear hf a; intro a hf
 refine s_nil (then_n ?_)
 refine wp_ret ?_
 refine r_1 hf Tryz.results117 rfl ?_
 exact ⟨rfl, bufA_close hs⟩
theorem bTake_spec (σ : Sig) (w : World) (R : List Asrt) (p : Nat) (data : List UInt8) (lim bad : Int) (hs : St σ w (bufA 160 5 p data lim bad :: R)) (hlim : bad = 0 → 0 ≤ lim) (hlim2 : lim ≤ 9223372036854775807) (hd : data.length ≤ 70368744177664) : Calls Tryz.prog 105 #[.pointer (some ⟨p, 0, none⟩)] w fun e w' => ∃ aa c, e = .returned (.slice aa (takeB data bad).length c) ∧ St σ w' (slB 5 (.slice aa (takeB data bad).length c) (takeB data bad) :: bufA 160 5 p data lim bad :: R) := by
 obtain ⟨v0, hs⟩ := bufA_open hs
 obtain ⟨a0, c0, rfl, hc0⟩ := slB_shape (hs.take .k1)
 refine c_enter (N := 17) Tryz.func105 rfl Tryz.ntmps105 (by simp) ?_
 intro a hf
 refine wp_seq (wp_region_lit ?_)
 refine s_a hf rfl ?_; clear hf a; intro a hf
 refine s_nil (then_n (wp_seq (wp_seq (wp_region_lit ?_))))
 refine s_m hf rfl ?_; clear hf a; intro a hf
 refine s_v hf (x_eqNil Tryz.underlying145 (hf.eval rfl) (hf.eval rfl)) ?_; clear hf a; intro a hf
 replace hf := hf.now (k := 4) (v' := .bool false) rfl rfl
 refine s_m hf rfl ?_; clear hf a; intro a hf
 refine s_do hf (wanted_of hf rfl rfl rfl) (.value (x_move (hf.eval rfl) _) ?_); clear hf a; intro a hf
 refine s_do hf (wanted_of hf rfl rfl rfl) (.value (x_nilCheck (hf.eval rfl) _) ?_); clear hf a; intro a hf
 refine s_do hf (wanted_of hf rfl rfl rfl) (.value (x_fieldAddr fo160_2 (hf.eval rfl) _) ?_); clear hf a; intro a hf
 refine s_do hf (wanted_of hf rfl rfl rfl) (.value (x_load sc25 (hf.eval rfl) (by apply hs.cell <;> repeat constructor)) ?_); clear hf a; intro a hf
 refine s_do hf (wanted_of hf rfl rfl rfl) (.value (x_bin (hf.eval rfl) (hf.eval rfl) (r_ne _ _ _ _) _) ?_); clear hf a; intro a hf
 refine s_v hf (x_pick_f (hf.eval rfl) (hf.eval rfl)) ?_; clear hf a; intro a hf
 refine s_nil (then_n ?_)
 refine c_cond hf rfl (fun hi0 => ?_) (fun hi0 => ?_)
 ·simp only [zd1, zd2, zd3, zd4, zd5, zd6, zd7] at hi0
  refine wp_seq (wp_region_lit ?_)
  refine s_a hf rfl ?_; clear hf a; intro a hf
  refine s_nil (then_n ?_)
  refine wp_ret ?_
  refine then_r ?_
  refine r_1 hf Tryz.results105 rfl ?_
  have hN : takeB data bad = [] := by unfold takeB; rw [if_pos (by simpa using hi0)]
  rw [hN]
  exact ⟨none, 0, rfl, (bufA_close hs).emp (slB_nil _)⟩
 simp only [zd1, zd2, zd3, zd4, zd5, zd6, zd7] at hi0
 have hb : bad = 0 := by simpa using hi0
 subst hb
 have hl0 := hlim rfl
 refine wp_skip (then_n (wp_seq (wp_region_lit ?_)))
 refine s_m hf rfl ?_; clear hf a; intro a hf
 refine s_v hf (x_nilCheck (hf.eval rfl)) ?_; clear hf a; intro a hf
 refine s_v hf (x_fieldAddr fo160_0 (hf.eval rfl)) ?_; clear hf a; intro a hf
 refine s_r hf (x_load sc22 (hf.eval rfl) (by apply hs.cell <;> repeat constructor)) ?_; clear hf a; intro a hf
 refine s_do hf rfl (y_appendB (s := data) (hs.emp (slB_nil 5)) sl22 rfl (hf.eval rfl) (hf.eval rfl) .k0 (hs.rdB .k1 fun h => slB_rd) (by simp; omega) ?_); clear hf hs a; intro v2 w hs hv a hf
 simp only [List.nil_append] at hs
 obtain ⟨a2, c2, rfl, hc2⟩ := slB_shape hs
 refine s_a hf rfl ?_; clear hf a; intro a hf
 refine s_nil (then_n ?_)
 refine wp_ret ?_
 refine r_1 hf Tryz.results105 rfl ?_
 have hN : takeB data 0 = data := by unfold takeB; rw [if_neg (by simp)]
 rw [hN]
 refine ⟨_, _, rfl, ?_⟩
 exact (bufA_close (hs.take .k1 |>.take .k2 |>.take .k1)).take .k1
theorem bnumber_spec (σ : Sig) (w : World) (R : List Asrt) (p : Nat) (data : List UInt8) (lim bad : Int) (hs : St σ w (bufA 160 5 p data lim bad :: R)) (hlim : bad = 0 → 0 ≤ lim) (hlim2 : lim ≤ 9223372036854775807) (hd : data.length ≤ 70368744177664) (v : Int) (n : Nat) (hn : n ≤ 4) : Calls Tryz.prog 116 #[.pointer (some ⟨p, 0, none⟩), .int .i64 v, .int .i64 (n : Int)] w fun e w' => e = .returned (.tuple #[]) ∧ St σ w' (bufA 160 5 p (numB data lim bad v n).1 lim (numB data lim bad v n).2 :: R) := by
 obtain ⟨v0, hs⟩ := bufA_open hs
 obtain ⟨a0, c0, rfl, hc0⟩ := slB_shape (hs.take .k1)
 refine c_enter (N := 59) Tryz.func116 rfl Tryz.ntmps116 (by simp) ?_
 intro a hf
 refine wp_seq (wp_seq (wp_region_lit ?_))
 refine s_m hf rfl ?_; clear hf a; intro a hf
 refine s_v hf (x_eqNil Tryz.underlying145 (hf.eval rfl) (hf.eval rfl)) ?_; clear hf a; intro a hf
 replace hf := hf.now (k := 7) (v' := .bool false) rfl rfl
 refine s_m hf rfl ?_; clear hf a; intro a hf
 refine s_do hf (wanted_of hf rfl rfl rfl) (.value (x_move (hf.eval rfl) _) ?_); clear hf a; intro a hf
 refine s_do hf (wanted_of hf rfl rfl rfl) (.value (x_nilCheck (hf.eval rfl) _) ?_); clear hf a; intro a hf
 refine s_do hf (wanted_of hf rfl rfl rfl) (.value (x_fieldAddr fo160_2 (hf.eval rfl) _) ?_); clear hf a; intro a hf
 refine s_do hf (wanted_of hf rfl rfl rfl) (.value (x_load sc25 (hf.eval rfl) (by apply hs.cell <;> repeat constructor)) ?_); clear hf a; intro a hf
 refine s_do hf (wanted_of hf rfl rfl rfl) (.value (x_bin (hf.eval rfl) (hf.eval rfl) (r_ne _ _ _ _) _) ?_); clear hf a; intro a hf
 refine s_v hf (x_pick_f (hf.eval rfl) (hf.eval rfl)) ?_; clear hf a; intro a hf
 refine s_nil (then_n ?_)
 refine c_cond hf rfl (fun hi0 => ?_) (fun hi0 => ?_)
 ·simp only [zd1, zd2, zd3, zd4, zd5, zd6, zd7] at hi0
  refine wp_ret ?_
  refine then_r ?_
  refine r_0 hf Tryz.results116 ?_
  have hN : numB data lim bad v n = (data, bad) := by unfold numB; rw [if_pos (by simpa using hi0)]
  rw [hN]
  exact ⟨rfl, bufA_close hs⟩
 simp only [zd1, zd2, zd3, zd4, zd5, zd6, zd7] at hi0
 have hb : bad = 0 := by simpa using hi0
 subst hb
 have hl0 := hlim rfl
 refine wp_skip (then_n (wp_seq (wp_seq (wp_region_lit ?_))))
 refine s_m hf rfl ?_; clear hf a; intro a hf
 refine s_v hf (x_bin (hf.eval rfl) (hf.eval rfl) (r_lt _ _ _ _)) ?_; clear hf a; intro a hf
 refine s_m hf rfl ?_; clear hf a; intro a hf
 refine s_bool hf (k := 17) rfl (fun hg1_2 hf' => ?_) (fun hg1_2 hf' => ?_)
 ·clear hf
  have hf := hf'
  clear hf'
  simp only [zd1, zd2, zd3, zd4, zd5, zd6, zd7] at hg1_2
  refine s_pass hf rfl rfl ?_; clear hf a; intro a hf
  refine s_pass hf rfl rfl ?_; clear hf a; intro a hf
  refine s_pass hf rfl rfl ?_; clear hf a; intro a hf
  refine s_pass hf rfl rfl ?_; clear hf a; intro a hf
  refine s_pass hf rfl rfl ?_; clear hf a; intro a hf
  refine s_v hf (x_pick_t (hf.eval rfl) (hf.eval rfl)) ?_; clear hf a; intro a hf
  refine s_nil (then_n ?_)
  refine c_cond_t hf rfl rfl ?_
  refine wp_seq (wp_region_lit ?_)
  refine s_m hf rfl ?_; clear hf a; intro a hf
  refine s_v hf (x_nilCheck (hf.eval rfl)) ?_; clear hf a; intro a hf
  refine s_v hf (x_fieldAddr fo160_2 (hf.eval rfl)) ?_; clear hf a; intro a hf
  refine s_do0 hf rfl (y_store hs sc25 (hf.eval rfl) (hf.eval rfl) rfl (by repeat constructor) (by simp) ?_); clear hf hs a; intro w hs a hf
  refine s_nil (then_n ?_)
  refine wp_ret ?_
  refine then_r ?_
  refine r_0 hf Tryz.results116 ?_
  have hN : numB data lim 0 v n = (data, 21) := by unfold numB; rw [if_neg (by simp), if_pos (by omega)]
  rw [hN]
  exact ⟨rfl, bufA_close hs⟩
 clear hf
 have hf := hf'
 clear hf'
 simp only [zd1, zd2, zd3, zd4, zd5, zd6, zd7] at hg1_2
 refine s_do hf (wanted_of hf rfl rfl rfl) (.value (x_move (hf.eval rfl) _) ?_); clear hf a; intro a hf
 refine s_do hf (wanted_of hf rfl rfl rfl) (.value (x_move (hf.eval rfl) _) ?_); clear hf a; intro a hf
 refine s_do hf (wanted_of hf rfl rfl rfl) (.value (x_bin (hf.eval rfl) (hf.eval rfl) (r_muli _ (by omega) (by omega)) _) ?_); clear hf a; intro a hf
 refine s_do hf (wanted_of hf rfl rfl rfl) (.value (x_bin (hf.eval rfl) (hf.eval rfl) (r_shl256 _ hn) _) ?_); clear hf a; intro a hf
 refine s_do hf (wanted_of hf rfl rfl rfl) (.value (x_bin (hf.eval rfl) (hf.eval rfl) (r_ge _ _ _ _) _) ?_); clear hf a; intro a hf
 refine s_v hf (x_pick_f (hf.eval rfl) (hf.eval rfl)) ?_; clear hf a; intro a hf
 refine s_nil (then_n ?_)
 refine c_cond hf rfl (fun hi1 => ?_) (fun hi1 => ?_)
 ·simp only [zd1, zd2, zd3, zd4, zd5, zd6, zd7] at hi1
  refine wp_seq (wp_region_lit ?_)
  refine s_m hf rfl ?_; clear hf a; intro a hf
  refine s_v hf (x_nilCheck (hf.eval rfl)) ?_; clear hf a; intro a hf
  refine s_v hf (x_fieldAddr fo160_2 (hf.eval rfl)) ?_; clear hf a; intro a hf
  refine s_do0 hf rfl (y_store hs sc25 (hf.eval rfl) (hf.eval rfl) rfl (by repeat constructor) (by simp) ?_); clear hf hs a; intro w hs a hf
  refine s_nil (then_n ?_)
  refine wp_ret ?_
  refine then_r ?_
  refine r_0 hf Tryz.results116 ?_
  have hN : numB data lim 0 v n = (data, 21) := by unfold numB; rw [if_neg (by simp), if_pos (by omega)]
  rw [hN]
  exact ⟨rfl, bufA_close hs⟩
 simp only [zd1, zd2, zd3, zd4, zd5, zd6, zd7] at hi1
 refine wp_skip (then_n (wp_seq (wp_seq ?_)))
 refine c_draw hs (fun _ => True) [.held, .held, .held, .held, .read, .held, .held, .held, .read, .held, .held, .held] (by kernel_rfl) (by kernel_rfl) (fun _ _ _ => trivial) ?_
 clear hs; intro w hs hC hw
 refine m_held hf rfl (fun w' _ => x_move (hf.eval rfl) w') ?_; clear hf a; intro a hf
 refine m_held hf rfl (fun w' _ => x_move (hf.eval rfl) w') ?_; clear hf a; intro a hf
 refine m_held hf rfl (fun w' _ => x_nilCheck (hf.eval rfl) w') ?_; clear hf a; intro a hf
 refine m_held hf rfl (fun w' _ => x_fieldAddr fo160_1 (hf.eval rfl) w') ?_; clear hf a; intro a hf
 refine m_read hf rfl (x_load sc3 (hf.eval rfl) (by apply hs.cell <;> repeat constructor)) ?_; clear hf a; intro a hf
 refine m_held hf rfl (fun w' _ => x_move (hf.eval rfl) w') ?_; clear hf a; intro a hf
 refine m_held hf rfl (fun w' _ => x_nilCheck (hf.eval rfl) w') ?_; clear hf a; intro a hf
 refine m_held hf rfl (fun w' _ => x_fieldAddr fo160_0 (hf.eval rfl) w') ?_; clear hf a; intro a hf
 refine m_read hf rfl (x_load sc22 (hf.eval rfl) (by apply hs.cell <;> repeat constructor)) ?_; clear hf a; intro a hf
 refine m_held hf rfl (fun w' _ => x_len Tryz.underlying22 (hf.eval rfl) w') ?_; clear hf a; intro a hf
 refine m_held hf rfl (fun w' _ => x_bin (hf.eval rfl) (hf.eval rfl) (r_subi _ (by omega) (by omega)) w') ?_; clear hf a; intro a hf
 refine m_held hf rfl (fun w' _ => x_bin (hf.eval rfl) (hf.eval rfl) (r_gt _ _ _ _) w') ?_; clear hf a; intro a hf
 refine m_nil ?_
 refine then_n ?_
 refine c_cond hf rfl (fun hi2 => ?_) (fun hi2 => ?_)
 ·simp only [zd1, zd2, zd3, zd4, zd5, zd6, zd7] at hi2
  refine wp_seq (wp_region_lit ?_)
  refine s_m hf rfl ?_; clear hf a; intro a hf
  refine s_v hf (x_nilCheck (hf.eval rfl)) ?_; clear hf a; intro a hf
  refine s_v hf (x_fieldAddr fo160_2 (hf.eval rfl)) ?_; clear hf a; intro a hf
  refine s_do0 hf rfl (y_store hs sc25 (hf.eval rfl) (hf.eval rfl) rfl (by repeat constructor) (by simp) ?_); clear hf hs a; intro w hs a hf
  refine s_nil (then_n ?_)
  refine wp_ret ?_
  refine then_r ?_
  refine r_0 hf Tryz.results116 ?_
  have hN : numB data lim 0 v n = (data, 22) := by unfold numB; rw [if_neg (by simp), if_neg (by omega), if_pos (by omega)]
  rw [hN]
  exact ⟨rfl, bufA_close hs⟩
 simp only [zd1, zd2, zd3, zd4, zd5, zd6, zd7] at hi2
 obtain ⟨V, rfl⟩ := Int.eq_ofNat_of_zero_le (show 0 ≤ v by omega)
 refine wp_skip (then_n (wp_seq (wp_region_lit ?_)))
 refine s_m hf rfl ?_; clear hf a; intro a hf
 refine s_m hf rfl ?_; clear hf a; intro a hf
 refine s_nil (then_n (wp_block ?_))
 refine c_loop (L0 := [(0, _), (42, _)]) (fun M w m => ∃ (j : Nat) (a1 : Option Addr) (c1 : Nat), M = [(1, .int .i64 ((V / 256 ^ j : Nat) : Int)), (43, .int .i64 (j : Int))] ∧ n - j = m ∧ j ≤ n ∧ St σ w (cb p 160 [.slice a1 (data.length + j) c1, .int .i64 lim, .int .i64 0] :: slB 5 (.slice a1 (data.length + j) c1) (data ++ leB j V) :: R)) (M0 := [(1, .int .i64 (V : Int)), (43, .int .i64 0)]) (⟨0, a0, c0, by rw [Nat.pow_zero, Nat.div_one]; rfl, rfl, Nat.zero_le _, by simpa [leB] using hs⟩) (hf.sub ⟨rfl, rfl, rfl, rfl, trivial⟩) ?_
 clear hf hs a
 rintro M m a w ⟨j, a1, c1, rfl, rfl, hj, hs⟩ hf
 refine wp_seq (wp_region_lit ?_)
 refine s_v hf (x_bin (hf.eval rfl) (hf.eval rfl) (r_lt _ _ _ _)) ?_; clear hf a; intro a hf
 refine s_nil (then_n (wp_seq ?_))
 refine c_cond hf rfl (fun hi3 => ?_) (fun hi3 => ?_)
 ·simp only [zd1, zd2, zd3, zd4, zd5, zd6, zd7] at hi3
  refine wp_skip (then_n (wp_seq (wp_block (wp_seq (wp_region_lit ?_)))))
  refine s_m hf rfl ?_; clear hf a; intro a hf
  refine s_m hf rfl ?_; clear hf a; intro a hf
  refine s_v hf (x_nilCheck (hf.eval rfl)) ?_; clear hf a; intro a hf
  refine s_v hf (x_fieldAddr fo160_0 (hf.eval rfl)) ?_; clear hf a; intro a hf
  refine s_r hf (x_load sc22 (hf.eval rfl) (by apply hs.cell <;> repeat constructor)) ?_; clear hf a; intro a hf
  refine s_m hf rfl ?_; clear hf a; intro a hf
  refine s_v hf (x_convr Tryz.underlying3 Tryz.underlying5 (hf.eval rfl) (u8_of .i64 rfl _)) ?_; clear hf a; intro a hf
  replace hf := hf.now (k := 51) (v' := u8v (UInt8.ofNat (V / 256 ^ j % 256))) rfl (rfl)
  refine s_do hf rfl (y_lit (xs := [.tmp 51]) hs sl22 (hf.evals rfl) rfl (by simp [Value.cells, u8v]) (by decide) ?_); clear hf hs a; intro b2 w hs a hf
  refine s_do hf rfl (y_appendB (s := [UInt8.ofNat (V / 256 ^ j % 256)]) hs sl22 rfl (hf.eval rfl) (hf.eval rfl) .k2 (hs.rdB .k0 fun h hb => rdB_of_bb (T := 5) (l := [UInt8.ofNat (V / 256 ^ j % 256)]) hb (by simp) (by simp)) (by simp [leB_len]; omega) ?_); clear hf hs a; intro v2 w hs hv a hf
  replace hs := (hs.lose .k1).take .k1
  have he : data ++ leB j V ++ [UInt8.ofNat (V / 256 ^ j % 256)] = data ++ leB (j + 1) V := by rw [List.append_assoc, ← leB_succ]
  rw [he] at hs
  obtain ⟨a2, c2, rfl, hc2⟩ := slB_shape (hs.take .k1)
  have hle : (data ++ leB (j + 1) V).length = data.length + (j + 1) := by simp [leB_len]
  rw [hle] at hs hf
  refine s_v hf (x_nilCheck (hf.eval rfl)) ?_; clear hf a; intro a hf
  refine s_v hf (x_fieldAddr fo160_0 (hf.eval rfl)) ?_; clear hf a; intro a hf
  refine s_do0 hf rfl (y_store hs sc22 (hf.eval rfl) (hf.eval rfl) rfl (by repeat constructor) (by simp) ?_); clear hf hs a; intro w hs a hf
  refine s_nil (then_n (wp_region_lit ?_))
  refine s_m hf rfl ?_; clear hf a; intro a hf
  refine s_v hf (x_bin (hf.eval rfl) (hf.eval rfl) (r_shr_i64 _ (j := 8) (by omega))) ?_; clear hf a; intro a hf
  replace hf := hf.now (k := 57) (v' := .int .i64 ((V / 256 ^ (j + 1) : Nat) : Int)) rfl (by rw [Nat.div_div_eq_div_mul, show (2 : Nat) ^ 8 = 256 by decide, show 256 ^ (j + 1) = 256 ^ j * 256 from Nat.pow_succ _ _])
  refine s_a hf rfl ?_; clear hf a; intro a hf
  refine s_nil (blk_n (then_n (wp_region_lit ?_)))
  refine s_v hf (x_bin (hf.eval rfl) (hf.eval rfl) (r_addi _ (by omega) (by omega))) ?_; clear hf a; intro a hf
  refine s_m hf rfl ?_; clear hf a; intro a hf
  refine s_nil ?_
  exact ⟨_, _, ⟨j + 1, a2, c2, rfl, rfl, by omega, hs⟩, by omega, hf.sub ⟨rfl, rfl, rfl, rfl, trivial⟩⟩
 simp only [zd1, zd2, zd3, zd4, zd5, zd6, zd7] at hi3
 refine wp_exit (then_x (then_x (blk_x ?_)))
 refine r_0n hf Tryz.results116 ?_
 obtain rfl : n = j := by omega
 have hN : numB data lim 0 (V : Int) n = (data ++ leB n V, 0) := by unfold numB; rw [if_neg (by simp), if_neg (by omega), if_neg (by omega), Int.toNat_natCast]
 rw [hN]
 exact ⟨rfl, bufA_close hs⟩
theorem bU32_spec (σ : Sig) (w : World) (R : List Asrt) (p : Nat) (data : List UInt8) (lim bad : Int) (hs : St σ w (bufA 160 5 p data lim bad :: R)) (hlim : bad = 0 → 0 ≤ lim) (hlim2 : lim ≤ 9223372036854775807) (hd : data.length ≤ 70368744177664) (v : Int) : Calls Tryz.prog 103 #[.pointer (some ⟨p, 0, none⟩), .int .i64 v] w fun e w' => e = .returned (.tuple #[]) ∧ St σ w' (bufA 160 5 p (numB data lim bad v 4).1 lim (numB data lim bad v 4).2 :: R) := by
 refine c_enter (N := 7) Tryz.func103 rfl Tryz.ntmps103 (by simp) ?_
 intro a hf
 refine wp_region_lit ?_
 refine s_m hf rfl ?_; clear hf a; intro a hf
 refine s_m hf rfl ?_; clear hf a; intro a hf
 refine s_do hf rfl (y_call (hf.eval rfl) (hf.evals rfl) Tryz.call116 ((bnumber_spec σ w R p data lim bad hs hlim hlim2 hd v 4 (by omega)).mono ?_))
 rintro e w1 ⟨rfl, hs⟩
 refine ⟨_, rfl, ?_⟩; clear hf a; intro a hf
 refine s_nil ?_
 refine r_0n hf Tryz.results103 ?_
 exact ⟨rfl, hs⟩
theorem bText_spec (σ : Sig) (w : World) (R : List Asrt) (p : Nat) (data : List UInt8) (lim bad : Int) (hs : St σ w (bufA 160 5 p data lim bad :: R)) (hlim : bad = 0 → 0 ≤ lim) (hlim2 : lim ≤ 9223372036854775807) (hd : data.length ≤ 70368744177664) (s : List UInt8) (hsl : s.length ≤ 1048576) : Calls Tryz.prog 104 #[.pointer (some ⟨p, 0, none⟩), .string ⟨s.toArray⟩] w fun e w' => e = .returned (.tuple #[]) ∧ St σ w' (bufA 160 5 p (txtB data lim bad s).1 lim (txtB data lim bad s).2 :: R) := by
 obtain ⟨v0, hs⟩ := bufA_open hs
 obtain ⟨a0, c0, rfl, hc0⟩ := slB_shape (hs.take .k1)
 refine c_enter (N := 38) Tryz.func104 rfl Tryz.ntmps104 (by simp) ?_
 intro a hf
 refine wp_seq (wp_seq (wp_region_lit ?_))
 refine s_m hf rfl ?_; clear hf a; intro a hf
 refine s_v hf (x_eqNil Tryz.underlying145 (hf.eval rfl) (hf.eval rfl)) ?_; clear hf a; intro a hf
 replace hf := hf.now (k := 5) (v' := .bool false) rfl rfl
 refine s_m hf rfl ?_; clear hf a; intro a hf
 refine s_do hf (wanted_of hf rfl rfl rfl) (.value (x_move (hf.eval rfl) _) ?_); clear hf a; intro a hf
 refine s_do hf (wanted_of hf rfl rfl rfl) (.value (x_nilCheck (hf.eval rfl) _) ?_); clear hf a; intro a hf
 refine s_do hf (wanted_of hf rfl rfl rfl) (.value (x_fieldAddr fo160_2 (hf.eval rfl) _) ?_); clear hf a; intro a hf
 refine s_do hf (wanted_of hf rfl rfl rfl) (.value (x_load sc25 (hf.eval rfl) (by apply hs.cell <;> repeat constructor)) ?_); clear hf a; intro a hf
 refine s_do hf (wanted_of hf rfl rfl rfl) (.value (x_bin (hf.eval rfl) (hf.eval rfl) (r_ne _ _ _ _) _) ?_); clear hf a; intro a hf
 refine s_v hf (x_pick_f (hf.eval rfl) (hf.eval rfl)) ?_; clear hf a; intro a hf
 refine s_nil (then_n ?_)
 refine c_cond hf rfl (fun hi0 => ?_) (fun hi0 => ?_)
 ·simp only [zd1, zd2, zd3, zd4, zd5, zd6, zd7] at hi0
  refine wp_ret ?_
  refine then_r ?_
  refine r_0 hf Tryz.results104 ?_
  have hN : txtB data lim bad s = (data, bad) := by unfold txtB; rw [if_pos (by simpa using hi0)]
  rw [hN]
  exact ⟨rfl, bufA_close hs⟩
 simp only [zd1, zd2, zd3, zd4, zd5, zd6, zd7] at hi0
 have hb : bad = 0 := by simpa using hi0
 subst hb
 have hl0 := hlim rfl
 refine wp_skip (then_n (wp_seq (wp_seq ?_)))
 refine c_draw hs (fun _ => True) [.held, .held, .held, .held, .held, .read, .held, .held, .held, .read, .held, .held, .held] (by kernel_rfl) (by kernel_rfl) (fun _ _ _ => trivial) ?_
 clear hs; intro w hs hC hw
 refine m_held hf rfl (fun w' _ => x_move (hf.eval rfl) w') ?_; clear hf a; intro a hf
 refine m_held hf rfl (fun w' _ => x_lenS Tryz.underlying9 (hf.eval rfl) w') ?_; clear hf a; intro a hf
 replace hf := hf.now (k := 14) (v' := .int .i64 (s.length : Int)) rfl (by simp [ByteArray.size])
 refine m_held hf rfl (fun w' _ => x_move (hf.eval rfl) w') ?_; clear hf a; intro a hf
 refine m_held hf rfl (fun w' _ => x_nilCheck (hf.eval rfl) w') ?_; clear hf a; intro a hf
 refine m_held hf rfl (fun w' _ => x_fieldAddr fo160_1 (hf.eval rfl) w') ?_; clear hf a; intro a hf
 refine m_read hf rfl (x_load sc3 (hf.eval rfl) (by apply hs.cell <;> repeat constructor)) ?_; clear hf a; intro a hf
 refine m_held hf rfl (fun w' _ => x_move (hf.eval rfl) w') ?_; clear hf a; intro a hf
 refine m_held hf rfl (fun w' _ => x_nilCheck (hf.eval rfl) w') ?_; clear hf a; intro a hf
 refine m_held hf rfl (fun w' _ => x_fieldAddr fo160_0 (hf.eval rfl) w') ?_; clear hf a; intro a hf
 refine m_read hf rfl (x_load sc22 (hf.eval rfl) (by apply hs.cell <;> repeat constructor)) ?_; clear hf a; intro a hf
 refine m_held hf rfl (fun w' _ => x_len Tryz.underlying22 (hf.eval rfl) w') ?_; clear hf a; intro a hf
 refine m_held hf rfl (fun w' _ => x_bin (hf.eval rfl) (hf.eval rfl) (r_subi _ (by omega) (by omega)) w') ?_; clear hf a; intro a hf
 refine m_held hf rfl (fun w' _ => x_bin (hf.eval rfl) (hf.eval rfl) (r_gt _ _ _ _) w') ?_; clear hf a; intro a hf
 refine m_nil ?_
 refine then_n ?_
 refine c_cond hf rfl (fun hi1 => ?_) (fun hi1 => ?_)
 ·simp only [zd1, zd2, zd3, zd4, zd5, zd6, zd7] at hi1
  refine wp_seq (wp_region_lit ?_)
  refine s_m hf rfl ?_; clear hf a; intro a hf
  refine s_v hf (x_nilCheck (hf.eval rfl)) ?_; clear hf a; intro a hf
  refine s_v hf (x_fieldAddr fo160_2 (hf.eval rfl)) ?_; clear hf a; intro a hf
  refine s_do0 hf rfl (y_store hs sc25 (hf.eval rfl) (hf.eval rfl) rfl (by repeat constructor) (by simp) ?_); clear hf hs a; intro w hs a hf
  refine s_nil (then_n ?_)
  refine wp_ret ?_
  refine then_r ?_
  refine r_0 hf Tryz.results104 ?_
  have hN : txtB data lim 0 s = (data, 22) := by unfold txtB; rw [if_neg (by simp), if_pos (by omega)]
  rw [hN]
  exact ⟨rfl, bufA_close hs⟩
 simp only [zd1, zd2, zd3, zd4, zd5, zd6, zd7] at hi1
 refine wp_skip (then_n (wp_region_lit ?_))
 refine s_m hf rfl ?_; clear hf a; intro a hf
 refine s_m hf rfl ?_; clear hf a; intro a hf
 refine s_v hf (x_nilCheck (hf.eval rfl)) ?_; clear hf a; intro a hf
 refine s_v hf (x_fieldAddr fo160_0 (hf.eval rfl)) ?_; clear hf a; intro a hf
 refine s_r hf (x_load sc22 (hf.eval rfl) (by apply hs.cell <;> repeat constructor)) ?_; clear hf a; intro a hf
 refine s_m hf rfl ?_; clear hf a; intro a hf
 refine s_do hf rfl (y_appendStr (s := s) hs sl22 rfl Tryz.underlying9 (hf.eval rfl) (hf.eval rfl) .k1 (by omega) ?_); clear hf hs a; intro v2 w hs a hf
 replace hs := hs.take .k1
 obtain ⟨a2, c2, rfl, hc2⟩ := slB_shape (hs.take .k1)
 refine s_v hf (x_nilCheck (hf.eval rfl)) ?_; clear hf a; intro a hf
 refine s_v hf (x_fieldAddr fo160_0 (hf.eval rfl)) ?_; clear hf a; intro a hf
 refine s_do0 hf rfl (y_store hs sc22 (hf.eval rfl) (hf.eval rfl) rfl (by repeat constructor) (by simp) ?_); clear hf hs a; intro w hs a hf
 refine s_nil ?_
 refine r_0n hf Tryz.results104 ?_
 have hN : txtB data lim 0 s = (data ++ s, 0) := by unfold txtB; rw [if_neg (by simp), if_neg (by omega)]
 rw [hN]
 exact ⟨rfl, bufA_close hs⟩
end Go.Proofs.YtehakfbfjpolfaaGreatDoor

namespace Go.Proofs.YtehakfbfjpolfaaGreatDoor
open Go Vw
def mkB (j : Nat) : UInt8 := UInt8.ofNat (j % 200 % 256)
def Mkd (i : Nat) (qs : List Pt) : Prop := ∀ j (h : j < qs.length), j < i → qs[j].2.2 = List.replicate qs[j].2.2.length (mkB j)
theorem Mkd.zero (qs : List Pt) : Mkd 0 qs := fun j h h0 => absurd h0 (Nat.not_lt_zero _)
end Go.Proofs.YtehakfbfjpolfaaGreatDoor

namespace Go.Proofs.YtehakfbfjpolfaaGreatDoor
open Go Vw
theorem iF_at {l : List Int} {i : Nat} (h : i < l.length) : (l.flatMap iF)[i]? = some (.int .i64 l[i]) := by
  have h1 := flatMap_get (f := iF) (sz := 1) (fun _ => rfl) l i 0 h (by decide)
  rw [Nat.mul_one, Nat.add_zero] at h1
  rw [h1]; rfl
theorem puts_len : ∀ (l : List Int) (d : List UInt8 × Int), (puts l d).1.length ≤ d.1.length + 4 * l.length
  | [], d => by show d.1.length ≤ _; omega
  | v :: l, d => by
    have h1 := puts_len l (numB d.1 512 d.2 v 4)
    have h2 := numB_len d.1 512 d.2 v 4
    show (puts l (numB d.1 512 d.2 v 4)).1.length ≤ _
    rw [List.length_cons]; omega
theorem hc_num (s : Sl) : numB (hdS s) 512 0 ((crcU 0 (hdS s) : Nat) : Int) 4 = (hcS s, 0) := by
  have h := crcU_lt (s := 0) (by decide) (hdS s)
  unfold numB
  rw [if_neg (by simp), if_neg (by omega), if_neg (by rw [hdS_len]; decide), Int.toNat_natCast]
  rfl
theorem sec_spl (s : Sl) : secS s = spl (List.replicate 512 (0 : UInt8)) 0 ((hcS s).take (min (hcS s).length 512)) := by
  have h1 : (hcS s).take (min (hcS s).length 512) = hcS s := List.take_of_length_le (by rw [hcS_len]; decide)
  unfold spl secS
  rw [h1, hcS_len, List.drop_replicate]
  rfl
theorem enc_no {s : Sl} (h : slOk s = false) : encE s = 1 ∧ encV s = [] := by unfold encE encV; rw [h]; exact ⟨rfl, rfl⟩
theorem enc_ok {s : Sl} (h : slOk s = true) : encE s = 0 ∧ encV s = secS s := by unfold encE encV; rw [h]; exact ⟨rfl, rfl⟩
theorem no_st {s : Sl} (h : ¬ (2 ≤ s.1 ∧ s.1 ≤ 4)) : slOk s = false := by
  cases e : slOk s with
  | false => rfl
  | true => exact absurd (slOk_st e) h
theorem hd_app (s : Sl) : ((((((MAG ++ leB 4 s.1.toNat) ++ leB 4 s.2.1.toNat) ++ leB 4 s.2.2.1.toNat) ++ leB 4 s.2.2.2.1.toNat) ++ leB 4 s.2.2.2.2.1.toNat) ++ leB 4 s.2.2.2.2.2.1.toNat) ++ leB 4 ((s.2.2.2.2.2.2 : Nat) : Int).toNat = hdS s := by
  simp [hdS, fb, fldL]
theorem slOk_in {s : Sl} (h : slOk s = true) : (0 ≤ s.2.1 ∧ s.2.1 ≤ 4294967295) ∧ (0 ≤ s.2.2.1 ∧ s.2.2.1 ≤ 4294967295) ∧ (0 ≤ s.2.2.2.1 ∧ s.2.2.2.1 ≤ 4294967295) ∧ (0 ≤ s.2.2.2.2.1 ∧ s.2.2.2.2.1 ≤ 4294967295) ∧ (0 ≤ s.2.2.2.2.2.1 ∧ s.2.2.2.2.2.1 ≤ 4294967295) := by
  unfold slOk inF at h
  simp only [Bool.and_eq_true, decide_eq_true_eq] at h
  exact ⟨h.1.1.1.1.2, h.1.1.1.2, h.1.1.2, h.1.2, h.2⟩
theorem encode_spec (w0 : World) (hT : Tab 0 (hp w0)) (s : Sl) (hsu : s.2.2.2.2.2.2 < 4294967296) : Calls Tryz.prog 108 #[.agg (slF s).toArray] w0 fun e w' => ∃ a c, e = .returned (.tuple #[.slice a (encV s).length c, .int .i64 (encE s)]) ∧ St ⟨w0, None_⟩ w' [slB 5 (.slice a (encV s).length c) (encV s)] := by
 have hs := St.start w0 None_
 refine c_enter (N := 59) Tryz.func108 rfl Tryz.ntmps108 (by simp) ?_
 intro a hf
 refine wp_seq (wp_region_lit ?_)
 refine s_do hf rfl (y_box hs (hf.eval rfl) ?_); clear hf hs a; intro bx w hs a hf
 replace hs : St _ w (cb bx 99 (slF s) :: _) := hs
 refine s_a hf rfl ?_; clear hf a; intro a hf
 refine s_a hf rfl ?_; clear hf a; intro a hf
 refine s_nil (then_n (wp_seq (wp_seq (wp_region_lit ?_))))
 refine s_v hf (x_fieldAddr fo99_0 (hf.eval rfl)) ?_; clear hf a; intro a hf
 refine s_r hf (x_load sc3 (hf.eval rfl) (by apply hs.cell <;> repeat constructor)) ?_; clear hf a; intro a hf
 refine s_v hf (x_bin (hf.eval rfl) (hf.eval rfl) (r_lt _ _ _ _)) ?_; clear hf a; intro a hf
 refine s_m hf rfl ?_; clear hf a; intro a hf
 refine s_bool hf (k := 11) rfl (fun hg1_3 hf' => ?_) (fun hg1_3 hf' => ?_)
 ·clear hf
  have hf := hf'
  clear hf'
  first | simp only [zd1, zd2, zd3, zd4] at hg1_3 | skip
  refine s_pass hf rfl rfl ?_; clear hf a; intro a hf
  refine s_pass hf rfl rfl ?_; clear hf a; intro a hf
  refine s_pass hf rfl rfl ?_; clear hf a; intro a hf
  refine s_v hf (x_pick_t (hf.eval rfl) (hf.eval rfl)) ?_; clear hf a; intro a hf
  refine s_nil (then_n ?_)
  refine c_cond_t hf rfl rfl ?_
  refine wp_seq (wp_region_lit ?_)
  refine s_a hf rfl ?_; clear hf a; intro a hf
  refine s_a hf rfl ?_; clear hf a; intro a hf
  refine s_nil (then_n ?_)
  refine wp_ret ?_
  refine then_r ?_
  refine r_2 hf Tryz.results108 rfl rfl ?_
  obtain ⟨hE, hV⟩ := enc_no (no_st (s := s) (by omega))
  rw [hE, hV]
  exact ⟨none, 0, rfl, (St.keep [] _ hs).emp (slB_nil _)⟩
 clear hf
 have hf := hf'
 clear hf'
 first | simp only [zd1, zd2, zd3, zd4] at hg1_3 | skip
 refine s_do hf (wanted_of hf rfl rfl rfl) (.value (x_fieldAddr fo99_0 (hf.eval rfl) _) ?_); clear hf a; intro a hf
 refine s_do hf (wanted_of hf rfl rfl rfl) (.value (x_load sc3 (hf.eval rfl) (by apply hs.cell <;> repeat constructor)) ?_); clear hf a; intro a hf
 refine s_do hf (wanted_of hf rfl rfl rfl) (.value (x_bin (hf.eval rfl) (hf.eval rfl) (r_gt _ _ _ _) _) ?_); clear hf a; intro a hf
 refine s_v hf (x_pick_f (hf.eval rfl) (hf.eval rfl)) ?_; clear hf a; intro a hf
 refine s_nil (then_n ?_)
 refine c_cond hf rfl (fun hi0 => ?_) (fun hi0 => ?_)
 ·first | simp only [zd1, zd2, zd3, zd4] at hi0 | skip
  refine wp_seq (wp_region_lit ?_)
  refine s_a hf rfl ?_; clear hf a; intro a hf
  refine s_a hf rfl ?_; clear hf a; intro a hf
  refine s_nil (then_n ?_)
  refine wp_ret ?_
  refine then_r ?_
  refine r_2 hf Tryz.results108 rfl rfl ?_
  obtain ⟨hE, hV⟩ := enc_no (no_st (s := s) (by omega))
  rw [hE, hV]
  exact ⟨none, 0, rfl, (St.keep [] _ hs).emp (slB_nil _)⟩
 first | simp only [zd1, zd2, zd3, zd4] at hi0 | skip
 refine wp_skip (then_n (wp_seq (wp_region_lit ?_)))
 refine s_do hf rfl (y_call (hf.eval rfl) (hf.evals rfl) Tryz.call101 ((newBuf_spec _ 512).mono ?_))
 rintro e w1 ⟨p, rfl, hj⟩
 replace hs := hs.join hj
 simp only [List.cons_append, List.nil_append] at hs
 rw [if_neg (show ¬ ((512 : Int) < 0) by decide)] at hs
 refine ⟨_, rfl, ?_⟩; clear hf a; intro a hf
 refine s_a hf rfl ?_; clear hf a; intro a hf
 refine s_nil (then_n (wp_seq (wp_region_lit ?_)))
 refine s_m hf rfl ?_; clear hf a; intro a hf
 replace hs := hs.take (A := bufA 160 5 p [] 512 0) (by repeat constructor)
 refine s_do hf rfl (y_call (hf.eval rfl) (hf.evals rfl) Tryz.call104 ((bText_spec _ _ _ p [] 512 0 hs (fun _ => by decide) (by decide) (by simp) MAG (by decide)).mono ?_))
 rintro e w1 ⟨rfl, hs⟩
 rw [show txtB [] 512 0 MAG = (MAG, 0) by unfold txtB; rw [if_neg (by simp), if_neg (by decide)]; rfl] at hs
 refine ⟨_, rfl, ?_⟩; clear hf a; intro a hf
 refine s_nil (then_n (wp_seq (wp_seq (wp_region_lit ?_))))
 refine s_v hf (x_fieldAddr fo99_0 (hf.eval rfl)) ?_; clear hf a; intro a hf
 refine s_r hf (x_load sc3 (hf.eval rfl) (by apply hs.cell <;> repeat constructor)) ?_; clear hf a; intro a hf
 refine s_v hf (x_fieldAddr fo99_1 (hf.eval rfl)) ?_; clear hf a; intro a hf
 refine s_r hf (x_load sc3 (hf.eval rfl) (by apply hs.cell <;> repeat constructor)) ?_; clear hf a; intro a hf
 refine s_v hf (x_fieldAddr fo99_2 (hf.eval rfl)) ?_; clear hf a; intro a hf
 refine s_r hf (x_load sc3 (hf.eval rfl) (by apply hs.cell <;> repeat constructor)) ?_; clear hf a; intro a hf
 refine s_v hf (x_fieldAddr fo99_3 (hf.eval rfl)) ?_; clear hf a; intro a hf
 refine s_r hf (x_load sc3 (hf.eval rfl) (by apply hs.cell <;> repeat constructor)) ?_; clear hf a; intro a hf
 refine s_v hf (x_fieldAddr fo99_4 (hf.eval rfl)) ?_; clear hf a; intro a hf
 refine s_r hf (x_load sc3 (hf.eval rfl) (by apply hs.cell <;> repeat constructor)) ?_; clear hf a; intro a hf
 refine s_v hf (x_fieldAddr fo99_5 (hf.eval rfl)) ?_; clear hf a; intro a hf
 refine s_r hf (x_load sc3 (hf.eval rfl) (by apply hs.cell <;> repeat constructor)) ?_; clear hf a; intro a hf
 refine s_v hf (x_fieldAddr fo99_6 (hf.eval rfl)) ?_; clear hf a; intro a hf
 refine s_r hf (x_load sc96 (hf.eval rfl) (by apply hs.cell <;> repeat constructor)) ?_; clear hf a; intro a hf
 refine s_v hf (x_conv Tryz.underlying96 Tryz.underlying3 (hf.eval rfl)) ?_; clear hf a; intro a hf
 replace hf := hf.now (k := 33) (v' := .int .i64 ((s.2.2.2.2.2.2 : Nat) : Int)) rfl (by rw [wrap_i64 (by omega) (by omega)])
 refine s_do hf rfl (y_lit (xs := [.tmp 20, .tmp 22, .tmp 24, .tmp 26, .tmp 28, .tmp 30, .tmp 33]) hs sl62 (hf.evals rfl) rfl (by simp [Value.cells]) (by decide) ?_); clear hf hs a; intro b9 w hs a hf
 replace hs := hs.ofCb (sz := 1) (n := 7) rfl (by rw [maxLen_eq]; omega)
 replace hs : St _ _ (sl 3 1 (.slice (some ⟨b9, 0, none⟩) 7 7) 7 ((fldL s).flatMap iF) :: _) := hs
 replace hs := hs.take (A := bufA 160 5 p MAG 512 0) (by repeat constructor)
 refine s_v hf (x_len Tryz.underlying62 (hf.eval rfl)) ?_; clear hf a; intro a hf
 refine s_m hf rfl ?_; clear hf a; intro a hf
 refine s_nil (then_n (wp_block ?_))
 refine c_loop (L0 := [(2, _), (3, _), (4, _), (34, _), (35, _)]) (fun M w m => ∃ i : Nat, M = [(36, .int .i64 (i : Int))] ∧ 7 - i = m ∧ i ≤ 7 ∧ St ⟨w0, None_⟩ w [bufA 160 5 p (puts ((fldL s).take i) (MAG, 0)).1 512 (puts ((fldL s).take i) (MAG, 0)).2, sl 3 1 (.slice (some ⟨b9, 0, none⟩) 7 7) 7 ((fldL s).flatMap iF), cb bx 99 (slF s)]) (M0 := _) (⟨0, rfl, rfl, Nat.zero_le _, hs⟩) (hf.sub ⟨rfl, rfl, rfl, rfl, rfl, rfl, trivial⟩) ?_
 clear hf hs a
 rintro M m a w ⟨i, rfl, rfl, hi, hs⟩ hf
 refine wp_seq (wp_region_lit ?_)
 refine s_v hf (x_bin (hf.eval rfl) (hf.eval rfl) (r_lt _ _ _ _)) ?_; clear hf a; intro a hf
 refine s_nil (then_n (wp_seq ?_))
 refine c_cond hf rfl (fun hi1 => ?_) (fun hi1 => ?_)
 ·simp only [zd1, zd2, zd3, zd4, zd5, zd6, zd7] at hi1
  have hlt : i < (fldL s).length := by show i < 7; omega
  have hpl := puts_len ((fldL s).take i) (MAG, 0)
  rw [List.length_take] at hpl
  have hmg : MAG.length = 8 := rfl
  have hps := puts_succ hlt (MAG, 0)
  generalize (puts ((fldL s).take i) (MAG, 0)) = D at hs hpl hps
  refine wp_skip (then_n (wp_seq (wp_block (wp_seq (wp_region_lit ?_)))))
  refine s_v hf (x_indexAddr sl62 (hf.eval rfl) (hf.eval rfl) (by omega) (by omega)) ?_; clear hf a; intro a hf
  refine s_r hf (x_loadC (i := (i : Int)) hs sc3 .k1 (hf.eval rfl) (by rw [Int.toNat_natCast]; exact iF_at hlt)) ?_; clear hf a; intro a hf
  replace hf := hf.now (k := 39) (v' := .int .i64 (fldL s)[i]) rfl (rfl)
  refine s_a hf rfl ?_; clear hf a; intro a hf
  refine s_nil (then_n (wp_region_lit ?_))
  refine s_m hf rfl ?_; clear hf a; intro a hf
  refine s_m hf rfl ?_; clear hf a; intro a hf
  refine s_do hf rfl (y_call (hf.eval rfl) (hf.evals rfl) Tryz.call103 ((bU32_spec _ _ _ p D.1 512 D.2 hs (fun _ => by decide) (by decide) (by simp only [] at hpl; omega) (fldL s)[i]).mono ?_))
  rintro e w1 ⟨rfl, hs⟩
  rw [← hps] at hs
  refine ⟨_, rfl, ?_⟩; clear hf a; intro a hf
  refine s_nil (blk_n (then_n (wp_region_lit ?_)))
  refine s_v hf (x_bin (hf.eval rfl) (hf.eval rfl) (r_addi _ (by omega) (by omega))) ?_; clear hf a; intro a hf
  refine s_m hf rfl ?_; clear hf a; intro a hf
  refine s_nil ?_
  exact ⟨_, _, ⟨i + 1, rfl, rfl, by omega, hs⟩, by omega, hf.sub ⟨rfl, rfl, rfl, rfl, rfl, rfl, trivial⟩⟩
 simp only [zd1, zd2, zd3, zd4, zd5, zd6, zd7] at hi1
 obtain rfl : i = 7 := by omega
 rw [show (fldL s).take 7 = fldL s from rfl] at hs
 have hdl := puts_len (fldL s) (MAG, 0)
 have hfl : (fldL s).length = 7 := rfl
 have hmg : MAG.length = 8 := rfl
 obtain ⟨d, b, hdb⟩ : ∃ d b, puts (fldL s) (MAG, 0) = (d, b) := ⟨_, _, rfl⟩
 rw [hdb] at hs hdl
 simp only [] at hs hdl
 refine wp_exit (then_x (then_x (blk_x (then_n (wp_seq (wp_seq (wp_region_lit ?_)))))))
 refine s_m hf rfl ?_; clear hf a; intro a hf
 refine s_do hf rfl (y_call (hf.eval rfl) (hf.evals rfl) Tryz.call117 ((bErr_spec _ _ _ p d 512 b hs (fun _ => by decide) (by decide) (by omega)).mono ?_))
 rintro e w1 ⟨rfl, hs⟩
 refine ⟨_, rfl, ?_⟩; clear hf a; intro a hf
 refine s_v hf (x_bin (hf.eval rfl) (hf.eval rfl) (r_ne _ _ _ _)) ?_; clear hf a; intro a hf
 refine s_nil (then_n ?_)
 refine c_cond hf rfl (fun hi2 => ?_) (fun hi2 => ?_)
 ·first | simp only [zd1, zd2, zd3, zd4, ne_eq, Classical.not_not] at hi2 | skip
  refine wp_seq (wp_region_lit ?_)
  refine s_a hf rfl ?_; clear hf a; intro a hf
  refine s_a hf rfl ?_; clear hf a; intro a hf
  refine s_nil (then_n ?_)
  refine wp_ret ?_
  refine then_r ?_
  refine r_2 hf Tryz.results108 rfl rfl ?_
  obtain ⟨hE, hV⟩ := enc_no (by cases e9 : slOk s with | false => rfl | true => exact absurd (congrArg Prod.snd (hdb.symm.trans (puts_ok (fldL s) MAG ((slOk_flds hsu (by omega) (by omega)).1 e9) (by show 8 + 4 * 7 ≤ 512; omega)))) hi2)
  rw [hE, hV]
  exact ⟨none, 0, rfl, (St.keep [] _ hs).emp (slB_nil _)⟩
 first | simp only [zd1, zd2, zd3, zd4, ne_eq, Classical.not_not] at hi2 | skip
 obtain rfl : b = 0 := by omega
 have hall := puts_good (fldL s) MAG (by show 8 + 4 * 7 ≤ 512; omega) (by rw [hdb])
 have hok : slOk s = true := (slOk_flds hsu (by omega) (by omega)).2 hall
 have hd9 := puts_ok (fldL s) MAG hall (by show 8 + 4 * 7 ≤ 512; omega)
 rw [hdb] at hd9
 obtain rfl : d = hdS s := congrArg Prod.fst hd9
 obtain ⟨hE, hV⟩ := enc_ok hok
 have hhl := hdS_len s
 have hcl := hcS_len s
 refine wp_skip (then_n (wp_seq (wp_region_lit ?_)))
 refine s_m hf rfl ?_; clear hf a; intro a hf
 refine s_m hf rfl ?_; clear hf a; intro a hf
 replace hs := hs.take (A := bufA 160 5 p (hdS s) 512 0) (by repeat constructor)
 refine s_do hf rfl (y_call (hf.eval rfl) (hf.evals rfl) Tryz.call105 ((bTake_spec _ _ _ p (hdS s) 512 0 hs (fun _ => by decide) (by decide) (by omega)).mono ?_))
 rintro e w1 ⟨g1, fg1, rfl, hs⟩
 rw [show takeB (hdS s) 0 = hdS s by unfold takeB; rw [if_neg (by simp)]] at hs ⊢
 refine ⟨_, rfl, ?_⟩; clear hf a; intro a hf
 refine s_do hf rfl (y_call (hf.eval rfl) (hf.evals rfl) Tryz.call80 ((sum_spec _ (hT.kept hs.kept) _ _ (hdS s) (hs.rdB .k0 fun h => slB_rd) (by omega)).mono ?_))
 rintro e w1 ⟨rfl, hk⟩
 replace hs := hs.ext hk
 refine ⟨_, rfl, ?_⟩; clear hf a; intro a hf
 have hcr := crcU_lt (s := 0) (by decide) (hdS s)
 refine s_v hf (x_conv Tryz.underlying96 Tryz.underlying3 (hf.eval rfl)) ?_; clear hf a; intro a hf
 replace hf := hf.now (k := 51) (v' := .int .i64 ((crcU 0 (hdS s) : Nat) : Int)) rfl (by rw [wrap_i64 (by omega) (by omega)])
 replace hs := hs.take (A := bufA 160 5 p (hdS s) 512 0) (by repeat constructor)
 refine s_do hf rfl (y_call (hf.eval rfl) (hf.evals rfl) Tryz.call103 ((bU32_spec _ _ _ p (hdS s) 512 0 hs (fun _ => by decide) (by decide) (by omega) ((crcU 0 (hdS s) : Nat) : Int)).mono ?_))
 rintro e w1 ⟨rfl, hs⟩
 rw [hc_num] at hs
 simp only [] at hs
 refine ⟨_, rfl, ?_⟩; clear hf a; intro a hf
 refine s_nil (then_n (wp_seq (wp_region_lit ?_)))
 refine s_do hf rfl (y_makeB (m := 512) (c := 512) hs sl22 (hf.eval rfl) (hf.eval rfl) rfl rfl (by omega) (by omega) ?_); clear hf hs a; intro b w hs a hf
 refine s_a hf rfl ?_; clear hf a; intro a hf
 refine s_nil (then_n (wp_seq (wp_region_lit ?_)))
 refine s_m hf rfl ?_; clear hf a; intro a hf
 refine s_m hf rfl ?_; clear hf a; intro a hf
 replace hs := hs.take (A := bufA 160 5 p (hcS s) 512 0) (by repeat constructor)
 refine s_do hf rfl (y_call (hf.eval rfl) (hf.evals rfl) Tryz.call105 ((bTake_spec _ _ _ p (hcS s) 512 0 hs (fun _ => by decide) (by decide) (by omega)).mono ?_))
 rintro e w1 ⟨g2, fg2, rfl, hs⟩
 rw [show takeB (hcS s) 0 = hcS s by unfold takeB; rw [if_neg (by simp)]] at hs ⊢
 refine ⟨_, rfl, ?_⟩; clear hf a; intro a hf
 refine s_do hf rfl (y_copyB (o := 0) (cur' := secS s) hs sl22 (hf.eval rfl) (hf.eval rfl) (fun _ => rfl) (hs.rdB .k0 fun h => slB_rd) rfl .k2 (sec_spl s) (by simp) ?_); clear hf hs a; intro w hs a hf
 refine s_nil (then_n (wp_seq (wp_region_lit ?_)))
 refine s_m hf rfl ?_; clear hf a; intro a hf
 refine s_a hf rfl ?_; clear hf a; intro a hf
 refine s_a hf rfl ?_; clear hf a; intro a hf
 refine s_nil (then_n ?_)
 refine wp_ret ?_
 refine r_2 hf Tryz.results108 rfl rfl ?_
 rw [hE, hV]
 replace hs := hs.take (A := bb b 5 (secS s)) (by repeat constructor)
 rw [secS_len]
 exact ⟨_, _, rfl, St.keep [_] _ (St.ofBb hs (secS_len s) (by decide))⟩
theorem inField_spec (w : World) (v : Int) : Calls Tryz.prog 84 #[.int .i64 v] w fun e w' => e = .returned (.bool (inF v)) ∧ w' = w := by
 refine c_enter (N := 9) Tryz.func84 rfl Tryz.ntmps84 (by simp) ?_
 intro a hf
 refine wp_seq (wp_region_lit ?_)
 refine s_a hf rfl ?_; clear hf a; intro a hf
 refine s_nil (then_n (wp_seq (wp_region_lit ?_)))
 refine s_m hf rfl ?_; clear hf a; intro a hf
 refine s_v hf (x_bin (hf.eval rfl) (hf.eval rfl) (r_ge _ _ _ _)) ?_; clear hf a; intro a hf
 refine s_m hf rfl ?_; clear hf a; intro a hf
 refine s_bool hf (k := 5) rfl (fun hg1_2 hf' => ?_) (fun hg1_2 hf' => ?_)
 ·clear hf
  have hf := hf'
  clear hf'
  simp only [zd1, zd2, zd3, zd4, zd5, zd6, zd7] at hg1_2
  refine s_do hf (wanted_of hf rfl rfl rfl) (.value (x_move (hf.eval rfl) _) ?_); clear hf a; intro a hf
  refine s_do hf (wanted_of hf rfl rfl rfl) (.value (x_bin (hf.eval rfl) (hf.eval rfl) (r_le _ _ _ _) _) ?_); clear hf a; intro a hf
  refine s_v hf (x_pick_t (hf.eval rfl) (hf.eval rfl)) ?_; clear hf a; intro a hf
  refine s_a hf rfl ?_; clear hf a; intro a hf
  refine s_nil (then_n ?_)
  refine wp_ret ?_
  refine r_1 hf Tryz.results84 rfl ?_
  exact ⟨by unfold inF; congr 2; simp; omega, rfl⟩
 clear hf
 have hf := hf'
 clear hf'
 simp only [zd1, zd2, zd3, zd4, zd5, zd6, zd7] at hg1_2
 refine s_pass hf rfl rfl ?_; clear hf a; intro a hf
 refine s_pass hf rfl rfl ?_; clear hf a; intro a hf
 refine s_v hf (x_pick_f (hf.eval rfl) (hf.eval rfl)) ?_; clear hf a; intro a hf
 refine s_a hf rfl ?_; clear hf a; intro a hf
 refine s_nil (then_n ?_)
 refine wp_ret ?_
 refine r_1 hf Tryz.results84 rfl ?_
 exact ⟨by unfold inF; congr 2; simp; omega, rfl⟩
theorem rnum_spec (σ : Sig) (w : World) (R : List Asrt) (ax : Option Addr) (cx : Nat) (l : List UInt8) (v : Int) (hv0 : 0 ≤ v) (hv1 : v ≤ 9223372036854775807) (hl : l.length ≤ 1048576) (hs : St σ w (slB 5 (.slice ax l.length cx) l :: R)) : Calls Tryz.prog 87 #[.slice ax l.length cx, .int .i64 v] w fun e w' => ∃ a2 c2, e = .returned (.slice a2 (l ++ leB 4 v.toNat).length c2) ∧ St σ w' (slB 5 (.slice a2 (l ++ leB 4 v.toNat).length c2) (l ++ leB 4 v.toNat) :: R) := by
 obtain ⟨V, rfl⟩ := Int.eq_ofNat_of_zero_le hv0
 rw [Int.toNat_natCast]
 refine c_enter (N := 19) Tryz.func87 rfl Tryz.ntmps87 (by simp) ?_
 intro a hf
 refine wp_seq (wp_region_lit ?_)
 refine s_a hf rfl ?_; clear hf a; intro a hf
 refine s_nil (then_n (wp_seq (wp_seq (wp_region_lit ?_))))
 refine s_a hf rfl ?_; clear hf a; intro a hf
 refine s_nil (then_n (wp_block ?_))
 refine c_loop (L0 := [(4, _)]) (fun M w m => ∃ (j : Nat) (v0 : Value), M = [(0, v0), (1, .int .i64 ((V / 256 ^ j : Nat) : Int)), (5, .int .i64 (j : Int))] ∧ 4 - j = m ∧ j ≤ 4 ∧ St σ w (slB 5 v0 (l ++ leB j V) :: R)) (M0 := [(0, .slice ax l.length cx), (1, .int .i64 (V : Int)), (5, .int .i64 0)]) (⟨0, _, by rw [Nat.pow_zero, Nat.div_one]; rfl, rfl, Nat.zero_le _, by simpa [leB] using hs⟩) (hf.sub ⟨rfl, rfl, rfl, rfl, trivial⟩) ?_
 clear hf hs a
 rintro M m a w ⟨j, v0, rfl, rfl, hj, hs⟩ hf
 refine wp_seq (wp_seq (wp_region_lit ?_))
 refine s_m hf rfl ?_; clear hf a; intro a hf
 refine s_v hf (x_bin (hf.eval rfl) (hf.eval rfl) (r_lt _ _ _ _)) ?_; clear hf a; intro a hf
 refine s_nil (then_n ?_)
 refine c_cond hf rfl (fun hi0 => ?_) (fun hi0 => ?_)
 ·simp only [zd1, zd2, zd3, zd4, zd5, zd6, zd7] at hi0
  have hVj : V / 256 ^ j ≤ V := Nat.div_le_self _ _
  have hv1 : V ≤ 9223372036854775807 := by omega
  refine wp_skip (then_n (wp_seq (wp_block (wp_seq (wp_region_lit ?_)))))
  refine s_m hf rfl ?_; clear hf a; intro a hf
  refine s_m hf rfl ?_; clear hf a; intro a hf
  refine s_v hf (x_bin (hf.eval rfl) (hf.eval rfl) (r_remn _ _ (Int.natCast_nonneg _) (by decide))) ?_; clear hf a; intro a hf
  replace hf := hf.now (k := 12) (v' := .int .i64 ((V / 256 ^ j % 256 : Nat) : Int)) rfl (by congr 1)
  refine s_v hf (x_convr Tryz.underlying3 Tryz.underlying5 (hf.eval rfl) (by rw [u8_of .i64 rfl, Nat.mod_mod] : IntKind.u8.wrap ((V / 256 ^ j % 256 : Nat) : Int) = ((UInt8.ofNat (V / 256 ^ j % 256)).toNat : Int))) ?_; clear hf a; intro a hf
  replace hf := hf.now (k := 13) (v' := u8v (UInt8.ofNat (V / 256 ^ j % 256))) rfl (rfl)
  refine s_do hf rfl (y_lit (xs := [.tmp 13]) hs sl22 (hf.evals rfl) rfl (by simp [Value.cells, u8v]) (by decide) ?_); clear hf hs a; intro b2 w hs a hf
  refine s_do hf rfl (y_appendB (s := [UInt8.ofNat (V / 256 ^ j % 256)]) hs sl22 rfl (hf.eval rfl) (hf.eval rfl) .k1 (hs.rdB .k0 fun h hb => rdB_of_bb (T := 5) (l := [UInt8.ofNat (V / 256 ^ j % 256)]) hb (by simp) (by simp)) (by simp [leB_len]; omega) ?_); clear hf hs a; intro v2 w hs hv a hf
  replace hs := hs.lose .k1
  rw [List.append_assoc, ← leB_succ] at hs
  refine s_a hf rfl ?_; clear hf a; intro a hf
  refine s_nil (then_n (wp_region_lit ?_))
  refine s_m hf rfl ?_; clear hf a; intro a hf
  refine s_v hf (x_bin (hf.eval rfl) (hf.eval rfl) (r_quon _ (Int.natCast_nonneg _) (by decide) (by omega))) ?_; clear hf a; intro a hf
  replace hf := hf.now (k := 17) (v' := .int .i64 ((V / 256 ^ (j + 1) : Nat) : Int)) rfl (by rw [Nat.pow_succ, ← Nat.div_div_eq_div_mul]; congr 1)
  refine s_a hf rfl ?_; clear hf a; intro a hf
  refine s_nil (blk_n (then_n (wp_region_lit ?_)))
  refine s_m hf rfl ?_; clear hf a; intro a hf
  refine s_v hf (x_bin (hf.eval rfl) (hf.eval rfl) (r_addi _ (by omega) (by omega))) ?_; clear hf a; intro a hf
  refine s_a hf rfl ?_; clear hf a; intro a hf
  refine s_nil ?_
  exact ⟨_, _, ⟨j + 1, _, rfl, rfl, by omega, hs⟩, by omega, hf.sub ⟨rfl, rfl, rfl, rfl, trivial⟩⟩
 simp only [zd1, zd2, zd3, zd4, zd5, zd6, zd7] at hi0
 refine wp_exit (then_x (then_x (blk_x (then_n (wp_seq (wp_region_lit ?_))))))
 refine s_m hf rfl ?_; clear hf a; intro a hf
 refine s_a hf rfl ?_; clear hf a; intro a hf
 refine s_nil (then_n ?_)
 refine wp_ret ?_
 refine r_1 hf Tryz.results87 rfl ?_
 obtain rfl : j = 4 := by omega
 obtain ⟨a2, c2, rfl, hc2⟩ := slB_shape hs
 exact ⟨_, _, rfl, hs⟩
theorem rencode_spec (w0 : World) (s : Sl) (hsu : s.2.2.2.2.2.2 < 4294967296) : Calls Tryz.prog 53 #[.agg (slF s).toArray] w0 fun e w' => ∃ a c, e = .returned (.tuple #[.slice a (encV s).length c, .int .i64 (encE s)]) ∧ St ⟨w0, None_⟩ w' [slB 5 (.slice a (encV s).length c) (encV s)] := by
 have hs := St.start w0 None_
 refine c_enter (N := 92) Tryz.func53 rfl Tryz.ntmps53 (by simp) ?_
 intro a hf
 refine wp_seq (wp_region_lit ?_)
 refine s_do hf rfl (y_box hs (hf.eval rfl) ?_); clear hf hs a; intro bx w hs a hf
 replace hs : St _ w (cb bx 99 (slF s) :: _) := hs
 refine s_a hf rfl ?_; clear hf a; intro a hf
 refine s_a hf rfl ?_; clear hf a; intro a hf
 refine s_nil (then_n (wp_seq (wp_seq (wp_region_lit ?_))))
 refine s_v hf (x_fieldAddr fo99_0 (hf.eval rfl)) ?_; clear hf a; intro a hf
 refine s_r hf (x_load sc3 (hf.eval rfl) (by apply hs.cell <;> repeat constructor)) ?_; clear hf a; intro a hf
 refine s_v hf (x_bin (hf.eval rfl) (hf.eval rfl) (r_lt _ _ _ _)) ?_; clear hf a; intro a hf
 refine s_m hf rfl ?_; clear hf a; intro a hf
 refine s_bool hf (k := 9) rfl (fun hg1_3 hf' => ?_) (fun hg1_3 hf' => ?_)
 ·clear hf
  have hf := hf'
  clear hf'
  first | simp only [zd1, zd2, zd3, zd4] at hg1_3 | skip
  refine s_pass hf rfl rfl ?_; clear hf a; intro a hf
  refine s_pass hf rfl rfl ?_; clear hf a; intro a hf
  refine s_pass hf rfl rfl ?_; clear hf a; intro a hf
  refine s_v hf (x_pick_t (hf.eval rfl) (hf.eval rfl)) ?_; clear hf a; intro a hf
  refine s_nil (then_n ?_)
  refine c_cond_t hf rfl rfl ?_
  refine wp_seq (wp_region_lit ?_)
  refine s_a hf rfl ?_; clear hf a; intro a hf
  refine s_a hf rfl ?_; clear hf a; intro a hf
  refine s_nil (then_n ?_)
  refine wp_ret ?_
  refine then_r ?_
  refine r_2 hf Tryz.results53 rfl rfl ?_
  obtain ⟨hE, hV⟩ := enc_no (no_st (s := s) (by omega))
  rw [hE, hV]
  exact ⟨none, 0, rfl, (St.keep [] _ hs).emp (slB_nil _)⟩
 clear hf
 have hf := hf'
 clear hf'
 first | simp only [zd1, zd2, zd3, zd4] at hg1_3 | skip
 refine s_do hf (wanted_of hf rfl rfl rfl) (.value (x_fieldAddr fo99_0 (hf.eval rfl) _) ?_); clear hf a; intro a hf
 refine s_do hf (wanted_of hf rfl rfl rfl) (.value (x_load sc3 (hf.eval rfl) (by apply hs.cell <;> repeat constructor)) ?_); clear hf a; intro a hf
 refine s_do hf (wanted_of hf rfl rfl rfl) (.value (x_bin (hf.eval rfl) (hf.eval rfl) (r_gt _ _ _ _) _) ?_); clear hf a; intro a hf
 refine s_v hf (x_pick_f (hf.eval rfl) (hf.eval rfl)) ?_; clear hf a; intro a hf
 refine s_nil (then_n ?_)
 refine c_cond hf rfl (fun hi0 => ?_) (fun hi0 => ?_)
 ·first | simp only [zd1, zd2, zd3, zd4] at hi0 | skip
  refine wp_seq (wp_region_lit ?_)
  refine s_a hf rfl ?_; clear hf a; intro a hf
  refine s_a hf rfl ?_; clear hf a; intro a hf
  refine s_nil (then_n ?_)
  refine wp_ret ?_
  refine then_r ?_
  refine r_2 hf Tryz.results53 rfl rfl ?_
  obtain ⟨hE, hV⟩ := enc_no (no_st (s := s) (by omega))
  rw [hE, hV]
  exact ⟨none, 0, rfl, (St.keep [] _ hs).emp (slB_nil _)⟩
 first | simp only [zd1, zd2, zd3, zd4] at hi0 | skip
 refine wp_skip (then_n (wp_seq (wp_seq (wp_region_lit ?_))))
 refine s_v hf (x_fieldAddr fo99_1 (hf.eval rfl)) ?_; clear hf a; intro a hf
 refine s_r hf (x_load sc3 (hf.eval rfl) (by apply hs.cell <;> repeat constructor)) ?_; clear hf a; intro a hf
 refine s_do hf rfl (y_call (hf.eval rfl) (hf.evals rfl) Tryz.call84 ((inField_spec _ _).mono ?_))
 rintro e w1 ⟨rfl, hw9⟩
 rw [hw9]
 clear hw9 w1
 refine ⟨_, rfl, ?_⟩; clear hf a; intro a hf
 refine s_v hf (x_not (hf.eval rfl)) ?_; clear hf a; intro a hf
 refine s_m hf rfl ?_; clear hf a; intro a hf
 refine s_bool hf (k := 18) rfl (fun hg3_4 hf' => ?_) (fun hg3_4 hf' => ?_)
 ·clear hf
  have hf := hf'
  clear hf'
  first | simp only [zd1, zd2, zd3, zd4] at hg3_4 | skip
  refine s_pass hf rfl rfl ?_; clear hf a; intro a hf
  refine s_pass hf rfl rfl ?_; clear hf a; intro a hf
  refine s_pass hf rfl rfl ?_; clear hf a; intro a hf
  refine s_pass hf rfl rfl ?_; clear hf a; intro a hf
  refine s_v hf (x_pick_t (hf.eval rfl) (hf.eval rfl)) ?_; clear hf a; intro a hf
  refine s_m hf rfl ?_; clear hf a; intro a hf
  refine s_pass hf rfl rfl ?_; clear hf a; intro a hf
  refine s_pass hf rfl rfl ?_; clear hf a; intro a hf
  refine s_pass hf rfl rfl ?_; clear hf a; intro a hf
  refine s_pass hf rfl rfl ?_; clear hf a; intro a hf
  refine s_v hf (x_pick_t (hf.eval rfl) (hf.eval rfl)) ?_; clear hf a; intro a hf
  refine s_m hf rfl ?_; clear hf a; intro a hf
  refine s_pass hf rfl rfl ?_; clear hf a; intro a hf
  refine s_pass hf rfl rfl ?_; clear hf a; intro a hf
  refine s_pass hf rfl rfl ?_; clear hf a; intro a hf
  refine s_pass hf rfl rfl ?_; clear hf a; intro a hf
  refine s_v hf (x_pick_t (hf.eval rfl) (hf.eval rfl)) ?_; clear hf a; intro a hf
  refine s_m hf rfl ?_; clear hf a; intro a hf
  refine s_pass hf rfl rfl ?_; clear hf a; intro a hf
  refine s_pass hf rfl rfl ?_; clear hf a; intro a hf
  refine s_pass hf rfl rfl ?_; clear hf a; intro a hf
  refine s_pass hf rfl rfl ?_; clear hf a; intro a hf
  refine s_v hf (x_pick_t (hf.eval rfl) (hf.eval rfl)) ?_; clear hf a; intro a hf
  refine s_nil (then_n ?_)
  refine c_cond_t hf rfl rfl ?_
  refine wp_seq (wp_region_lit ?_)
  refine s_a hf rfl ?_; clear hf a; intro a hf
  refine s_a hf rfl ?_; clear hf a; intro a hf
  refine s_nil (then_n ?_)
  refine wp_ret ?_
  refine then_r ?_
  refine r_2 hf Tryz.results53 rfl rfl ?_
  obtain ⟨hE, hV⟩ := enc_no (by unfold slOk; first | (rw [hg3_4]; simp; done) | (rw [hg3_10]; simp; done) | (rw [hg3_16]; simp; done) | (rw [hg3_22]; simp; done) | (rw [hi1]; simp; done))
  rw [hE, hV]
  exact ⟨none, 0, rfl, (St.keep [] _ hs).emp (slB_nil _)⟩
 clear hf
 have hf := hf'
 clear hf'
 first | simp only [zd1, zd2, zd3, zd4] at hg3_4 | skip
 refine s_do hf (wanted_of hf rfl rfl rfl) (.value (x_fieldAddr fo99_2 (hf.eval rfl) _) ?_); clear hf a; intro a hf
 refine s_do hf (wanted_of hf rfl rfl rfl) (.value (x_load sc3 (hf.eval rfl) (by apply hs.cell <;> repeat constructor)) ?_); clear hf a; intro a hf
 refine s_do hf (wanted_of hf rfl rfl rfl) (y_call (hf.eval rfl) (hf.evals rfl) Tryz.call84 ((inField_spec _ _).mono ?_))
 rintro e w1 ⟨rfl, hw9⟩
 rw [hw9]
 clear hw9 w1
 refine ⟨_, rfl, ?_⟩; clear hf a; intro a hf
 refine s_do hf (wanted_of hf rfl rfl rfl) (.value (x_not (hf.eval rfl) _) ?_); clear hf a; intro a hf
 refine s_v hf (x_pick_f (hf.eval rfl) (hf.eval rfl)) ?_; clear hf a; intro a hf
 refine s_m hf rfl ?_; clear hf a; intro a hf
 refine s_bool hf (k := 24) rfl (fun hg3_10 hf' => ?_) (fun hg3_10 hf' => ?_)
 ·clear hf
  have hf := hf'
  clear hf'
  first | simp only [zd1, zd2, zd3, zd4] at hg3_10 | skip
  refine s_pass hf rfl rfl ?_; clear hf a; intro a hf
  refine s_pass hf rfl rfl ?_; clear hf a; intro a hf
  refine s_pass hf rfl rfl ?_; clear hf a; intro a hf
  refine s_pass hf rfl rfl ?_; clear hf a; intro a hf
  refine s_v hf (x_pick_t (hf.eval rfl) (hf.eval rfl)) ?_; clear hf a; intro a hf
  refine s_m hf rfl ?_; clear hf a; intro a hf
  refine s_pass hf rfl rfl ?_; clear hf a; intro a hf
  refine s_pass hf rfl rfl ?_; clear hf a; intro a hf
  refine s_pass hf rfl rfl ?_; clear hf a; intro a hf
  refine s_pass hf rfl rfl ?_; clear hf a; intro a hf
  refine s_v hf (x_pick_t (hf.eval rfl) (hf.eval rfl)) ?_; clear hf a; intro a hf
  refine s_m hf rfl ?_; clear hf a; intro a hf
  refine s_pass hf rfl rfl ?_; clear hf a; intro a hf
  refine s_pass hf rfl rfl ?_; clear hf a; intro a hf
  refine s_pass hf rfl rfl ?_; clear hf a; intro a hf
  refine s_pass hf rfl rfl ?_; clear hf a; intro a hf
  refine s_v hf (x_pick_t (hf.eval rfl) (hf.eval rfl)) ?_; clear hf a; intro a hf
  refine s_nil (then_n ?_)
  refine c_cond_t hf rfl rfl ?_
  refine wp_seq (wp_region_lit ?_)
  refine s_a hf rfl ?_; clear hf a; intro a hf
  refine s_a hf rfl ?_; clear hf a; intro a hf
  refine s_nil (then_n ?_)
  refine wp_ret ?_
  refine then_r ?_
  refine r_2 hf Tryz.results53 rfl rfl ?_
  obtain ⟨hE, hV⟩ := enc_no (by unfold slOk; first | (rw [hg3_4]; simp; done) | (rw [hg3_10]; simp; done) | (rw [hg3_16]; simp; done) | (rw [hg3_22]; simp; done) | (rw [hi1]; simp; done))
  rw [hE, hV]
  exact ⟨none, 0, rfl, (St.keep [] _ hs).emp (slB_nil _)⟩
 clear hf
 have hf := hf'
 clear hf'
 first | simp only [zd1, zd2, zd3, zd4] at hg3_10 | skip
 refine s_do hf (wanted_of hf rfl rfl rfl) (.value (x_fieldAddr fo99_3 (hf.eval rfl) _) ?_); clear hf a; intro a hf
 refine s_do hf (wanted_of hf rfl rfl rfl) (.value (x_load sc3 (hf.eval rfl) (by apply hs.cell <;> repeat constructor)) ?_); clear hf a; intro a hf
 refine s_do hf (wanted_of hf rfl rfl rfl) (y_call (hf.eval rfl) (hf.evals rfl) Tryz.call84 ((inField_spec _ _).mono ?_))
 rintro e w1 ⟨rfl, hw9⟩
 rw [hw9]
 clear hw9 w1
 refine ⟨_, rfl, ?_⟩; clear hf a; intro a hf
 refine s_do hf (wanted_of hf rfl rfl rfl) (.value (x_not (hf.eval rfl) _) ?_); clear hf a; intro a hf
 refine s_v hf (x_pick_f (hf.eval rfl) (hf.eval rfl)) ?_; clear hf a; intro a hf
 refine s_m hf rfl ?_; clear hf a; intro a hf
 refine s_bool hf (k := 30) rfl (fun hg3_16 hf' => ?_) (fun hg3_16 hf' => ?_)
 ·clear hf
  have hf := hf'
  clear hf'
  first | simp only [zd1, zd2, zd3, zd4] at hg3_16 | skip
  refine s_pass hf rfl rfl ?_; clear hf a; intro a hf
  refine s_pass hf rfl rfl ?_; clear hf a; intro a hf
  refine s_pass hf rfl rfl ?_; clear hf a; intro a hf
  refine s_pass hf rfl rfl ?_; clear hf a; intro a hf
  refine s_v hf (x_pick_t (hf.eval rfl) (hf.eval rfl)) ?_; clear hf a; intro a hf
  refine s_m hf rfl ?_; clear hf a; intro a hf
  refine s_pass hf rfl rfl ?_; clear hf a; intro a hf
  refine s_pass hf rfl rfl ?_; clear hf a; intro a hf
  refine s_pass hf rfl rfl ?_; clear hf a; intro a hf
  refine s_pass hf rfl rfl ?_; clear hf a; intro a hf
  refine s_v hf (x_pick_t (hf.eval rfl) (hf.eval rfl)) ?_; clear hf a; intro a hf
  refine s_nil (then_n ?_)
  refine c_cond_t hf rfl rfl ?_
  refine wp_seq (wp_region_lit ?_)
  refine s_a hf rfl ?_; clear hf a; intro a hf
  refine s_a hf rfl ?_; clear hf a; intro a hf
  refine s_nil (then_n ?_)
  refine wp_ret ?_
  refine then_r ?_
  refine r_2 hf Tryz.results53 rfl rfl ?_
  obtain ⟨hE, hV⟩ := enc_no (by unfold slOk; first | (rw [hg3_4]; simp; done) | (rw [hg3_10]; simp; done) | (rw [hg3_16]; simp; done) | (rw [hg3_22]; simp; done) | (rw [hi1]; simp; done))
  rw [hE, hV]
  exact ⟨none, 0, rfl, (St.keep [] _ hs).emp (slB_nil _)⟩
 clear hf
 have hf := hf'
 clear hf'
 first | simp only [zd1, zd2, zd3, zd4] at hg3_16 | skip
 refine s_do hf (wanted_of hf rfl rfl rfl) (.value (x_fieldAddr fo99_4 (hf.eval rfl) _) ?_); clear hf a; intro a hf
 refine s_do hf (wanted_of hf rfl rfl rfl) (.value (x_load sc3 (hf.eval rfl) (by apply hs.cell <;> repeat constructor)) ?_); clear hf a; intro a hf
 refine s_do hf (wanted_of hf rfl rfl rfl) (y_call (hf.eval rfl) (hf.evals rfl) Tryz.call84 ((inField_spec _ _).mono ?_))
 rintro e w1 ⟨rfl, hw9⟩
 rw [hw9]
 clear hw9 w1
 refine ⟨_, rfl, ?_⟩; clear hf a; intro a hf
 refine s_do hf (wanted_of hf rfl rfl rfl) (.value (x_not (hf.eval rfl) _) ?_); clear hf a; intro a hf
 refine s_v hf (x_pick_f (hf.eval rfl) (hf.eval rfl)) ?_; clear hf a; intro a hf
 refine s_m hf rfl ?_; clear hf a; intro a hf
 refine s_bool hf (k := 36) rfl (fun hg3_22 hf' => ?_) (fun hg3_22 hf' => ?_)
 ·clear hf
  have hf := hf'
  clear hf'
  first | simp only [zd1, zd2, zd3, zd4] at hg3_22 | skip
  refine s_pass hf rfl rfl ?_; clear hf a; intro a hf
  refine s_pass hf rfl rfl ?_; clear hf a; intro a hf
  refine s_pass hf rfl rfl ?_; clear hf a; intro a hf
  refine s_pass hf rfl rfl ?_; clear hf a; intro a hf
  refine s_v hf (x_pick_t (hf.eval rfl) (hf.eval rfl)) ?_; clear hf a; intro a hf
  refine s_nil (then_n ?_)
  refine c_cond_t hf rfl rfl ?_
  refine wp_seq (wp_region_lit ?_)
  refine s_a hf rfl ?_; clear hf a; intro a hf
  refine s_a hf rfl ?_; clear hf a; intro a hf
  refine s_nil (then_n ?_)
  refine wp_ret ?_
  refine then_r ?_
  refine r_2 hf Tryz.results53 rfl rfl ?_
  obtain ⟨hE, hV⟩ := enc_no (by unfold slOk; first | (rw [hg3_4]; simp; done) | (rw [hg3_10]; simp; done) | (rw [hg3_16]; simp; done) | (rw [hg3_22]; simp; done) | (rw [hi1]; simp; done))
  rw [hE, hV]
  exact ⟨none, 0, rfl, (St.keep [] _ hs).emp (slB_nil _)⟩
 clear hf
 have hf := hf'
 clear hf'
 first | simp only [zd1, zd2, zd3, zd4] at hg3_22 | skip
 refine s_do hf (wanted_of hf rfl rfl rfl) (.value (x_fieldAddr fo99_5 (hf.eval rfl) _) ?_); clear hf a; intro a hf
 refine s_do hf (wanted_of hf rfl rfl rfl) (.value (x_load sc3 (hf.eval rfl) (by apply hs.cell <;> repeat constructor)) ?_); clear hf a; intro a hf
 refine s_do hf (wanted_of hf rfl rfl rfl) (y_call (hf.eval rfl) (hf.evals rfl) Tryz.call84 ((inField_spec _ _).mono ?_))
 rintro e w1 ⟨rfl, hw9⟩
 rw [hw9]
 clear hw9 w1
 refine ⟨_, rfl, ?_⟩; clear hf a; intro a hf
 refine s_do hf (wanted_of hf rfl rfl rfl) (.value (x_not (hf.eval rfl) _) ?_); clear hf a; intro a hf
 refine s_v hf (x_pick_f (hf.eval rfl) (hf.eval rfl)) ?_; clear hf a; intro a hf
 refine s_nil (then_n ?_)
 refine c_cond hf rfl (fun hi1 => ?_) (fun hi1 => ?_)
 ·first | simp only [zd1, zd2, zd3, zd4] at hi1 | skip
  refine wp_seq (wp_region_lit ?_)
  refine s_a hf rfl ?_; clear hf a; intro a hf
  refine s_a hf rfl ?_; clear hf a; intro a hf
  refine s_nil (then_n ?_)
  refine wp_ret ?_
  refine then_r ?_
  refine r_2 hf Tryz.results53 rfl rfl ?_
  obtain ⟨hE, hV⟩ := enc_no (by unfold slOk; first | (rw [hg3_4]; simp; done) | (rw [hg3_10]; simp; done) | (rw [hg3_16]; simp; done) | (rw [hg3_22]; simp; done) | (rw [hi1]; simp; done))
  rw [hE, hV]
  exact ⟨none, 0, rfl, (St.keep [] _ hs).emp (slB_nil _)⟩
 first | simp only [zd1, zd2, zd3, zd4] at hi1 | skip
 have hok : slOk s = true := by unfold slOk; rw [hg3_4, hg3_10, hg3_16, hg3_22, hi1, decide_eq_true (show 2 ≤ s.1 ∧ s.1 ≤ 4 by omega)]; rfl
 obtain ⟨hn1, hn2, hn3, hn4, hn5⟩ := slOk_in hok
 obtain ⟨hE, hV⟩ := enc_ok hok
 refine wp_skip (then_n (wp_seq (wp_region_lit ?_)))
 refine s_a hf rfl ?_; clear hf a; intro a hf
 refine s_nil (then_n (wp_seq (wp_seq (wp_region_lit ?_))))
 refine s_a hf rfl ?_; clear hf a; intro a hf
 refine s_nil (then_n (wp_block ?_))
 replace hs := hs.emp (slB_nil 5)
 refine c_loop (L0 := [(1, _), (2, _), (3, _)]) (fun M w m => ∃ (i : Nat) (v0 : Value), M = [(4, v0), (5, .int .i64 (i : Int))] ∧ 8 - i = m ∧ i ≤ 8 ∧ St ⟨w0, None_⟩ w [slB 5 v0 (MAG.take i), cb bx 99 (slF s)]) (M0 := _) (⟨0, _, rfl, rfl, Nat.zero_le _, hs⟩) (hf.sub ⟨rfl, rfl, rfl, rfl, rfl, trivial⟩) ?_
 clear hf hs a
 rintro M m a w ⟨i, v0, rfl, rfl, hi, hs⟩ hf
 refine wp_seq (wp_seq (wp_region_lit ?_))
 refine s_m hf rfl ?_; clear hf a; intro a hf
 refine s_v hf (x_bin (hf.eval rfl) (hf.eval rfl) (r_lt _ _ _ _)) ?_; clear hf a; intro a hf
 refine s_nil (then_n ?_)
 refine c_cond hf rfl (fun hi2 => ?_) (fun hi2 => ?_)
 ·simp only [zd1, zd2, zd3, zd4, zd5, zd6, zd7] at hi2
  have hlt : i < MAG.length := by show i < 8; omega
  refine wp_skip (then_n (wp_seq (wp_block (wp_region_lit ?_))))
  refine s_m hf rfl ?_; clear hf a; intro a hf
  refine s_m hf rfl ?_; clear hf a; intro a hf
  refine s_r hf (x_indexStr (l := MAG) Tryz.underlying9 rfl (hf.eval rfl) hlt _) ?_; clear hf a; intro a hf
  replace hf := hf.now (k := 48) (v' := u8v MAG[i]) rfl (rfl)
  refine s_do hf rfl (y_lit (xs := [.tmp 48]) hs sl22 (hf.evals rfl) rfl (by simp [Value.cells, u8v]) (by decide) ?_); clear hf hs a; intro b2 w hs a hf
  refine s_do hf rfl (y_appendB (s := [MAG[i]]) hs sl22 rfl (hf.eval rfl) (hf.eval rfl) .k1 (hs.rdB .k0 fun h hb => rdB_of_bb (T := 5) (l := [MAG[i]]) hb (by simp) (by simp)) (by simp; omega) ?_); clear hf hs a; intro v2 w hs hv a hf
  replace hs := hs.lose .k1
  rw [← List.take_succ_eq_append_getElem hlt] at hs
  refine s_a hf rfl ?_; clear hf a; intro a hf
  refine s_nil (blk_n (then_n (wp_region_lit ?_)))
  refine s_m hf rfl ?_; clear hf a; intro a hf
  refine s_v hf (x_bin (hf.eval rfl) (hf.eval rfl) (r_addi _ (by omega) (by omega))) ?_; clear hf a; intro a hf
  refine s_a hf rfl ?_; clear hf a; intro a hf
  refine s_nil ?_
  exact ⟨_, _, ⟨i + 1, _, rfl, rfl, by omega, hs⟩, by omega, hf.sub ⟨rfl, rfl, rfl, rfl, rfl, trivial⟩⟩
 simp only [zd1, zd2, zd3, zd4, zd5, zd6, zd7] at hi2
 obtain rfl : i = 8 := by omega
 rw [show MAG.take 8 = MAG from rfl] at hs
 obtain ⟨a4, ca4, rfl, hc4⟩ := slB_shape hs
 refine wp_exit (then_x (then_x (blk_x (then_n (wp_seq (wp_region_lit ?_))))))
 refine s_m hf rfl ?_; clear hf a; intro a hf
 refine s_v hf (x_fieldAddr fo99_0 (hf.eval rfl)) ?_; clear hf a; intro a hf
 refine s_r hf (x_load sc3 (hf.eval rfl) (by apply hs.cell <;> repeat constructor)) ?_; clear hf a; intro a hf
 replace hs := hs.take (A := slB 5 (.slice a4 (MAG).length ca4) (MAG)) (by repeat constructor)
 refine s_do hf rfl (y_call (hf.eval rfl) (hf.evals rfl) Tryz.call87 ((rnum_spec _ _ _ _ _ (MAG) (s.1) (by omega) (by omega) (by simp [MAG, leB_len, hdS_len]) hs).mono ?_))
 rintro e w1 ⟨e1, ce1, rfl, hs⟩
 refine ⟨_, rfl, ?_⟩; clear hf a; intro a hf
 refine s_a hf rfl ?_; clear hf a; intro a hf
 refine s_nil (then_n (wp_seq (wp_region_lit ?_)))
 refine s_m hf rfl ?_; clear hf a; intro a hf
 refine s_v hf (x_fieldAddr fo99_1 (hf.eval rfl)) ?_; clear hf a; intro a hf
 refine s_r hf (x_load sc3 (hf.eval rfl) (by apply hs.cell <;> repeat constructor)) ?_; clear hf a; intro a hf
 replace hs := hs.take (A := slB 5 (.slice e1 (MAG ++ leB 4 (s.1).toNat).length ce1) (MAG ++ leB 4 (s.1).toNat)) (by repeat constructor)
 refine s_do hf rfl (y_call (hf.eval rfl) (hf.evals rfl) Tryz.call87 ((rnum_spec _ _ _ _ _ (MAG ++ leB 4 (s.1).toNat) (s.2.1) (by omega) (by omega) (by simp [MAG, leB_len, hdS_len]) hs).mono ?_))
 rintro e w1 ⟨e2, ce2, rfl, hs⟩
 refine ⟨_, rfl, ?_⟩; clear hf a; intro a hf
 refine s_a hf rfl ?_; clear hf a; intro a hf
 refine s_nil (then_n (wp_seq (wp_region_lit ?_)))
 refine s_m hf rfl ?_; clear hf a; intro a hf
 refine s_v hf (x_fieldAddr fo99_2 (hf.eval rfl)) ?_; clear hf a; intro a hf
 refine s_r hf (x_load sc3 (hf.eval rfl) (by apply hs.cell <;> repeat constructor)) ?_; clear hf a; intro a hf
 replace hs := hs.take (A := slB 5 (.slice e2 ((MAG ++ leB 4 (s.1).toNat) ++ leB 4 (s.2.1).toNat).length ce2) ((MAG ++ leB 4 (s.1).toNat) ++ leB 4 (s.2.1).toNat)) (by repeat constructor)
 refine s_do hf rfl (y_call (hf.eval rfl) (hf.evals rfl) Tryz.call87 ((rnum_spec _ _ _ _ _ ((MAG ++ leB 4 (s.1).toNat) ++ leB 4 (s.2.1).toNat) (s.2.2.1) (by omega) (by omega) (by simp [MAG, leB_len, hdS_len]) hs).mono ?_))
 rintro e w1 ⟨e3, ce3, rfl, hs⟩
 refine ⟨_, rfl, ?_⟩; clear hf a; intro a hf
 refine s_a hf rfl ?_; clear hf a; intro a hf
 refine s_nil (then_n (wp_seq (wp_region_lit ?_)))
 refine s_m hf rfl ?_; clear hf a; intro a hf
 refine s_v hf (x_fieldAddr fo99_3 (hf.eval rfl)) ?_; clear hf a; intro a hf
 refine s_r hf (x_load sc3 (hf.eval rfl) (by apply hs.cell <;> repeat constructor)) ?_; clear hf a; intro a hf
 replace hs := hs.take (A := slB 5 (.slice e3 (((MAG ++ leB 4 (s.1).toNat) ++ leB 4 (s.2.1).toNat) ++ leB 4 (s.2.2.1).toNat).length ce3) (((MAG ++ leB 4 (s.1).toNat) ++ leB 4 (s.2.1).toNat) ++ leB 4 (s.2.2.1).toNat)) (by repeat constructor)
 refine s_do hf rfl (y_call (hf.eval rfl) (hf.evals rfl) Tryz.call87 ((rnum_spec _ _ _ _ _ (((MAG ++ leB 4 (s.1).toNat) ++ leB 4 (s.2.1).toNat) ++ leB 4 (s.2.2.1).toNat) (s.2.2.2.1) (by omega) (by omega) (by simp [MAG, leB_len, hdS_len]) hs).mono ?_))
 rintro e w1 ⟨e4, ce4, rfl, hs⟩
 refine ⟨_, rfl, ?_⟩; clear hf a; intro a hf
 refine s_a hf rfl ?_; clear hf a; intro a hf
 refine s_nil (then_n (wp_seq (wp_region_lit ?_)))
 refine s_m hf rfl ?_; clear hf a; intro a hf
 refine s_v hf (x_fieldAddr fo99_4 (hf.eval rfl)) ?_; clear hf a; intro a hf
 refine s_r hf (x_load sc3 (hf.eval rfl) (by apply hs.cell <;> repeat constructor)) ?_; clear hf a; intro a hf
 replace hs := hs.take (A := slB 5 (.slice e4 ((((MAG ++ leB 4 (s.1).toNat) ++ leB 4 (s.2.1).toNat) ++ leB 4 (s.2.2.1).toNat) ++ leB 4 (s.2.2.2.1).toNat).length ce4) ((((MAG ++ leB 4 (s.1).toNat) ++ leB 4 (s.2.1).toNat) ++ leB 4 (s.2.2.1).toNat) ++ leB 4 (s.2.2.2.1).toNat)) (by repeat constructor)
 refine s_do hf rfl (y_call (hf.eval rfl) (hf.evals rfl) Tryz.call87 ((rnum_spec _ _ _ _ _ ((((MAG ++ leB 4 (s.1).toNat) ++ leB 4 (s.2.1).toNat) ++ leB 4 (s.2.2.1).toNat) ++ leB 4 (s.2.2.2.1).toNat) (s.2.2.2.2.1) (by omega) (by omega) (by simp [MAG, leB_len, hdS_len]) hs).mono ?_))
 rintro e w1 ⟨e5, ce5, rfl, hs⟩
 refine ⟨_, rfl, ?_⟩; clear hf a; intro a hf
 refine s_a hf rfl ?_; clear hf a; intro a hf
 refine s_nil (then_n (wp_seq (wp_region_lit ?_)))
 refine s_m hf rfl ?_; clear hf a; intro a hf
 refine s_v hf (x_fieldAddr fo99_5 (hf.eval rfl)) ?_; clear hf a; intro a hf
 refine s_r hf (x_load sc3 (hf.eval rfl) (by apply hs.cell <;> repeat constructor)) ?_; clear hf a; intro a hf
 replace hs := hs.take (A := slB 5 (.slice e5 (((((MAG ++ leB 4 (s.1).toNat) ++ leB 4 (s.2.1).toNat) ++ leB 4 (s.2.2.1).toNat) ++ leB 4 (s.2.2.2.1).toNat) ++ leB 4 (s.2.2.2.2.1).toNat).length ce5) (((((MAG ++ leB 4 (s.1).toNat) ++ leB 4 (s.2.1).toNat) ++ leB 4 (s.2.2.1).toNat) ++ leB 4 (s.2.2.2.1).toNat) ++ leB 4 (s.2.2.2.2.1).toNat)) (by repeat constructor)
 refine s_do hf rfl (y_call (hf.eval rfl) (hf.evals rfl) Tryz.call87 ((rnum_spec _ _ _ _ _ (((((MAG ++ leB 4 (s.1).toNat) ++ leB 4 (s.2.1).toNat) ++ leB 4 (s.2.2.1).toNat) ++ leB 4 (s.2.2.2.1).toNat) ++ leB 4 (s.2.2.2.2.1).toNat) (s.2.2.2.2.2.1) (by omega) (by omega) (by simp [MAG, leB_len, hdS_len]) hs).mono ?_))
 rintro e w1 ⟨e6, ce6, rfl, hs⟩
 refine ⟨_, rfl, ?_⟩; clear hf a; intro a hf
 refine s_a hf rfl ?_; clear hf a; intro a hf
 refine s_nil (then_n (wp_seq (wp_region_lit ?_)))
 refine s_m hf rfl ?_; clear hf a; intro a hf
 refine s_v hf (x_fieldAddr fo99_6 (hf.eval rfl)) ?_; clear hf a; intro a hf
 refine s_r hf (x_load sc96 (hf.eval rfl) (by apply hs.cell <;> repeat constructor)) ?_; clear hf a; intro a hf
 refine s_v hf (x_conv Tryz.underlying96 Tryz.underlying3 (hf.eval rfl)) ?_; clear hf a; intro a hf
 replace hf := hf.now (k := 78) (v' := .int .i64 ((s.2.2.2.2.2.2 : Nat) : Int)) rfl (by rw [wrap_i64 (by omega) (by omega)])
 replace hs := hs.take (A := slB 5 (.slice e6 ((((((MAG ++ leB 4 (s.1).toNat) ++ leB 4 (s.2.1).toNat) ++ leB 4 (s.2.2.1).toNat) ++ leB 4 (s.2.2.2.1).toNat) ++ leB 4 (s.2.2.2.2.1).toNat) ++ leB 4 (s.2.2.2.2.2.1).toNat).length ce6) ((((((MAG ++ leB 4 (s.1).toNat) ++ leB 4 (s.2.1).toNat) ++ leB 4 (s.2.2.1).toNat) ++ leB 4 (s.2.2.2.1).toNat) ++ leB 4 (s.2.2.2.2.1).toNat) ++ leB 4 (s.2.2.2.2.2.1).toNat)) (by repeat constructor)
 refine s_do hf rfl (y_call (hf.eval rfl) (hf.evals rfl) Tryz.call87 ((rnum_spec _ _ _ _ _ ((((((MAG ++ leB 4 (s.1).toNat) ++ leB 4 (s.2.1).toNat) ++ leB 4 (s.2.2.1).toNat) ++ leB 4 (s.2.2.2.1).toNat) ++ leB 4 (s.2.2.2.2.1).toNat) ++ leB 4 (s.2.2.2.2.2.1).toNat) (((s.2.2.2.2.2.2 : Nat) : Int)) (by omega) (by omega) (by simp [MAG, leB_len, hdS_len]) hs).mono ?_))
 rintro e w1 ⟨e7, ce7, rfl, hs⟩
 rw [hd_app] at hs ⊢
 refine ⟨_, rfl, ?_⟩; clear hf a; intro a hf
 refine s_a hf rfl ?_; clear hf a; intro a hf
 refine s_nil (then_n (wp_seq (wp_region_lit ?_)))
 refine s_m hf rfl ?_; clear hf a; intro a hf
 refine s_m hf rfl ?_; clear hf a; intro a hf
 replace hs := hs.take (A := slB 5 (.slice e7 (hdS s).length ce7) (hdS s)) (by repeat constructor)
 refine s_do hf rfl (y_call (hf.eval rfl) (hf.evals rfl) Tryz.call52 ((refSum_spec _ _ _ (hdS s) (hs.rdB .k0 fun h => slB_rd) (by rw [hdS_len]; decide)).mono ?_))
 rintro e w1 ⟨rfl, hk⟩
 replace hs := hs.ext hk
 refine ⟨_, rfl, ?_⟩; clear hf a; intro a hf
 have hcr := crcU_lt (s := 0) (by decide) (hdS s)
 refine s_v hf (x_conv Tryz.underlying96 Tryz.underlying3 (hf.eval rfl)) ?_; clear hf a; intro a hf
 replace hf := hf.now (k := 83) (v' := .int .i64 ((crcU 0 (hdS s) : Nat) : Int)) rfl (by rw [wrap_i64 (by omega) (by omega)])
 replace hs := hs.take (A := slB 5 (.slice e7 (hdS s).length ce7) (hdS s)) (by repeat constructor)
 refine s_do hf rfl (y_call (hf.eval rfl) (hf.evals rfl) Tryz.call87 ((rnum_spec _ _ _ _ _ (hdS s) (((crcU 0 (hdS s) : Nat) : Int)) (by omega) (by omega) (by simp [MAG, leB_len, hdS_len]) hs).mono ?_))
 rintro e w1 ⟨e8, ce8, rfl, hs⟩
 rw [Int.toNat_natCast, show hdS s ++ leB 4 (crcU 0 (hdS s)) = hcS s from rfl, hcS_len] at hs ⊢
 refine ⟨_, rfl, ?_⟩; clear hf a; intro a hf
 refine s_a hf rfl ?_; clear hf a; intro a hf
 refine s_nil (then_n (wp_seq (wp_block ?_)))
 replace hs := St.keep [_] _ hs
 refine c_loop (L0 := [(1, _), (2, _), (3, _), (5, _), (42, _), (43, _), (51, _), (52, _), (53, _), (54, _), (55, _), (56, _), (57, _), (58, _), (59, _), (60, _), (61, _), (62, _), (63, _), (64, _), (65, _), (66, _), (67, _), (68, _), (69, _), (70, _), (71, _), (72, _), (73, _), (74, _), (75, _), (76, _), (77, _), (78, _), (79, _), (80, _), (81, _), (82, _), (83, _), (84, _)]) (fun M w m => ∃ (k : Nat) (e9 : Option Addr) (c9 : Nat), M = [(4, .slice e9 (40 + k) c9)] ∧ 472 - k = m ∧ k ≤ 472 ∧ St ⟨w0, None_⟩ w [slB 5 (.slice e9 (40 + k) c9) (hcS s ++ List.replicate k 0)]) (M0 := _) (⟨0, e8, ce8, rfl, rfl, Nat.zero_le _, by simpa using hs⟩) (hf.sub ⟨rfl, rfl, rfl, rfl, rfl, rfl, rfl, rfl, rfl, rfl, rfl, rfl, rfl, rfl, rfl, rfl, rfl, rfl, rfl, rfl, rfl, rfl, rfl, rfl, rfl, rfl, rfl, rfl, rfl, rfl, rfl, rfl, rfl, rfl, rfl, rfl, rfl, rfl, rfl, rfl, rfl, trivial⟩) ?_
 clear hf hs a
 rintro M m a w ⟨k, e9, c9, rfl, rfl, hk9, hs⟩ hf
 refine wp_seq (wp_seq (wp_region_lit ?_))
 refine s_m hf rfl ?_; clear hf a; intro a hf
 refine s_v hf (x_len Tryz.underlying22 (hf.eval rfl)) ?_; clear hf a; intro a hf
 refine s_v hf (x_bin (hf.eval rfl) (hf.eval rfl) (r_lt _ _ _ _)) ?_; clear hf a; intro a hf
 refine s_nil (then_n ?_)
 refine c_cond hf rfl (fun hi3 => ?_) (fun hi3 => ?_)
 ·simp only [zd1, zd2, zd3, zd4, zd5, zd6, zd7] at hi3
  refine wp_skip (then_n (wp_block (wp_region_lit ?_)))
  refine s_m hf rfl ?_; clear hf a; intro a hf
  refine s_do hf rfl (y_lit (xs := [.const (.int .u8 0)]) hs sl22 (hf.evals rfl) rfl (by simp [Value.cells]) (by decide) ?_); clear hf hs a; intro b2 w hs a hf
  refine s_do hf rfl (y_appendB (s := [0]) hs sl22 rfl (hf.eval rfl) (hf.eval rfl) .k1 (hs.rdB .k0 fun h hb => rdB_of_bb (T := 5) (l := [0]) hb (by simp) (by simp)) (by simp [hcS_len]; omega) ?_); clear hf hs a; intro v2 w hs hv a hf
  replace hs := hs.lose .k1
  rw [List.append_assoc, ← List.replicate_succ'] at hs
  obtain ⟨a2, c2, rfl, hc2⟩ := slB_shape hs
  rw [show (hcS s ++ List.replicate (k + 1) (0 : UInt8)).length = 40 + (k + 1) by rw [List.length_append, hcS_len, List.length_replicate]] at hs hf
  refine s_a hf rfl ?_; clear hf a; intro a hf
  refine s_nil (blk_n ?_)
  exact ⟨_, _, ⟨k + 1, a2, c2, rfl, rfl, by omega, hs⟩, by omega, hf.sub ⟨rfl, rfl, rfl, rfl, rfl, rfl, rfl, rfl, rfl, rfl, rfl, rfl, rfl, rfl, rfl, rfl, rfl, rfl, rfl, rfl, rfl, rfl, rfl, rfl, rfl, rfl, rfl, rfl, rfl, rfl, rfl, rfl, rfl, rfl, rfl, rfl, rfl, rfl, rfl, rfl, rfl, trivial⟩⟩
 simp only [zd1, zd2, zd3, zd4, zd5, zd6, zd7] at hi3
 obtain rfl : k = 472 := by omega
 rw [show hcS s ++ List.replicate 472 0 = secS s from rfl] at hs
 refine wp_exit (then_x (then_x (blk_x (then_n (wp_seq (wp_region_lit ?_))))))
 refine s_m hf rfl ?_; clear hf a; intro a hf
 refine s_a hf rfl ?_; clear hf a; intro a hf
 refine s_a hf rfl ?_; clear hf a; intro a hf
 refine s_nil (then_n ?_)
 refine wp_ret ?_
 refine r_2 hf Tryz.results53 rfl rfl ?_
 rw [hE, hV, secS_len]
 exact ⟨_, _, rfl, hs⟩
end Go.Proofs.YtehakfbfjpolfaaGreatDoor
