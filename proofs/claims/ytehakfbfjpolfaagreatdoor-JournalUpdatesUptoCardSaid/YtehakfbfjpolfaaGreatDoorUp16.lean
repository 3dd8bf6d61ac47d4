/- Texts 16 of 17 that the law rests on: the small library, contracts of functions, printed by a program. -/
import Derived.Test.YtehakfbfjpolfaaGreatDoorProg
import Derived.Test.YtehakfbfjpolfaaGreatDoorUp1
import Derived.Test.YtehakfbfjpolfaaGreatDoorUp2
import Derived.Test.YtehakfbfjpolfaaGreatDoorUp3
import Derived.Test.YtehakfbfjpolfaaGreatDoorUp4
import Derived.Test.YtehakfbfjpolfaaGreatDoorUp5
import Derived.Test.YtehakfbfjpolfaaGreatDoorUp6
import Derived.Test.YtehakfbfjpolfaaGreatDoorUp7
import Derived.Test.YtehakfbfjpolfaaGreatDoorUp8
import Derived.Test.YtehakfbfjpolfaaGreatDoorUp9
import Derived.Test.YtehakfbfjpolfaaGreatDoorUp10
import Derived.Test.YtehakfbfjpolfaaGreatDoorUp11
import Derived.Test.YtehakfbfjpolfaaGreatDoorUp12
import Derived.Test.YtehakfbfjpolfaaGreatDoorUp13
import Derived.Test.YtehakfbfjpolfaaGreatDoorUp14
import Derived.Test.YtehakfbfjpolfaaGreatDoorUp15
set_option maxRecDepth 100000
set_option linter.all false
namespace Go.Proofs.YtehakfbfjpolfaaGreatDoor
open Go Vw
theorem kept_spec (w0 : World) (csz : Int) (ac : Option Addr) (cc : Nat) (secs : List Int) (rest : Int) (sec : Nat) (hrc : RdS iF 1 (hp w0) (.slice ac secs.length cc) secs) : Calls Tryz.prog 115 #[.agg #[.int .i64 csz, .slice ac secs.length cc, .int .i64 rest], .int .i64 (sec : Int)] w0 fun e w' => e = .returned (.int .i64 (keepOf (csz, secs, rest) sec)) ∧ Kept w0 w' None_ := by
 have hs := St.start w0 None_
 refine c_enter (N := 17) Tryz.func115 rfl Tryz.ntmps115 (by simp) ?_
 intro a hf
 refine wp_seq (wp_region_lit ?_)
 refine s_do hf rfl (y_box hs (hf.eval rfl) ?_); clear hf hs a; intro cb0 w hs a hf
 replace hs : St ⟨w0, None_⟩ w [cb cb0 64 [.int .i64 csz, .slice ac secs.length cc, .int .i64 rest]] := hs
 refine s_a hf rfl ?_; clear hf a; intro a hf
 refine s_nil (then_n (wp_seq (wp_seq (wp_region_lit ?_))))
 refine s_m hf rfl ?_; clear hf a; intro a hf
 refine s_v hf (x_fieldAddr fo64_1 (hf.eval rfl)) ?_; clear hf a; intro a hf
 refine s_r hf (x_load sc62 (hf.eval rfl) (by apply hs.cell <;> repeat constructor)) ?_; clear hf a; intro a hf
 refine s_v hf (x_len Tryz.underlying62 (hf.eval rfl)) ?_; clear hf a; intro a hf
 refine s_v hf (x_bin (hf.eval rfl) (hf.eval rfl) (r_lt _ _ _ _)) ?_; clear hf a; intro a hf
 refine s_nil (then_n ?_)
 refine c_cond hf rfl (fun hi0 => ?_) (fun hi0 => ?_)
 ·simp only [zd1, zd2, zd3, zd4, zd5, zd6, zd7] at hi0
  have hsl : sec < secs.length := by omega
  obtain ⟨ac, rfl⟩ := hrc.some (by omega)
  refine wp_seq (wp_region_lit ?_)
  refine s_v hf (x_fieldAddr fo64_1 (hf.eval rfl)) ?_; clear hf a; intro a hf
  refine s_r hf (x_load sc62 (hf.eval rfl) (by apply hs.cell <;> repeat constructor)) ?_; clear hf a; intro a hf
  refine s_m hf rfl ?_; clear hf a; intro a hf
  refine s_v hf (x_indexAddr sl62 (hf.eval rfl) (hf.eval rfl) (by omega) (by omega)) ?_; clear hf a; intro a hf
  refine s_r hf (x_loadI (i := (sec : Int)) sc3 (hs.old hrc) rfl (hf.eval rfl) (by simpa using hsl)) ?_; clear hf a; intro a hf
  refine s_a hf rfl ?_; clear hf a; intro a hf
  refine s_nil (then_n ?_)
  refine wp_ret ?_
  refine then_r ?_
  refine r_1 hf Tryz.results115 rfl ?_
  exact ⟨by rw [keepOf_in (c := (csz, secs, rest)) hsl]; rfl, hs.kept⟩
 simp only [zd1, zd2, zd3, zd4, zd5, zd6, zd7] at hi0
 refine wp_skip (then_n (wp_seq (wp_region_lit ?_)))
 refine s_v hf (x_fieldAddr fo64_2 (hf.eval rfl)) ?_; clear hf a; intro a hf
 refine s_r hf (x_load sc3 (hf.eval rfl) (by apply hs.cell <;> repeat constructor)) ?_; clear hf a; intro a hf
 refine s_a hf rfl ?_; clear hf a; intro a hf
 refine s_nil (then_n ?_)
 refine wp_ret ?_
 refine r_1 hf Tryz.results115 rfl ?_
 exact ⟨by rw [keepOf_out (c := (csz, secs, rest)) (by simp only; omega)], hs.kept⟩
theorem outcome_spec (σ : Sig) (w : World) (R : List Asrt) (p : Nat) (s : DS) (hs : St σ w (refA 88 152 5 3 p s :: R)) (csz : Int) (ac : Option Addr) (cc : Nat) (secs : List Int) (rest : Int) (ho : DOk s) (hrc : RdyS iF 1 σ R (.slice ac secs.length cc) secs) (hsz : s.sizes.length ≤ 1099511600000) (hpc : s.pcs.length ≤ 1099511600000) : Calls Tryz.prog 98 #[.pointer (some ⟨p, 0, none⟩), .agg #[.int .i64 csz, .slice ac secs.length cc, .int .i64 rest]] w fun e w' => ∃ a c, e = .returned (.slice a (outS s (csz, secs, rest)).length c) ∧ St σ w' (slB 5 (.slice a (outS s (csz, secs, rest)).length c) (outS s (csz, secs, rest)) :: refA 88 152 5 3 p s :: R) := by
 have hroom0 := ho.room0
 have hroom1 := ho.room1
 obtain ⟨⟨v1, v2, v3, v4, ps⟩, hps, hs⟩ := refA_open hs
 dsimp only at hps hs
 obtain ⟨a1, c1, rfl, hc1⟩ := slB_shape (hs.take .k1)
 obtain ⟨a2, c2, rfl, hc2⟩ := slB_shape (hs.take .k2)
 obtain ⟨a3, c3, rfl⟩ := sl_shape (hs.take .k3)
 obtain ⟨a4, c4, rfl⟩ := sl_shape (hs.take .k5)
 refine c_enter (N := 146) Tryz.func98 rfl Tryz.ntmps98 (by simp) ?_
 intro a hf
 refine wp_seq (wp_region_lit ?_)
 refine s_do hf rfl (y_box hs (hf.eval rfl) ?_); clear hf hs a; intro cb0 w hs a hf
 replace hs : St σ w (cb cb0 64 [.int .i64 csz, .slice ac secs.length cc, .int .i64 rest] :: rcell 88 p s ⟨.slice a1 s.now.length c1, .slice a2 s.dur.length c2, .slice a3 ps.length c3, .slice a4 s.sizes.length c4, ps⟩ :: _) := hs
 refine s_a hf rfl ?_; clear hf a; intro a hf
 refine s_nil (then_n (wp_seq (wp_region_lit ?_)))
 refine s_m hf rfl ?_; clear hf a; intro a hf
 refine s_v hf (x_nilCheck (hf.eval rfl)) ?_; clear hf a; intro a hf
 refine s_v hf (x_fieldAddr fo88_2 (hf.eval rfl)) ?_; clear hf a; intro a hf
 refine s_r hf (x_load sc22 (hf.eval rfl) (by apply hs.cell <;> repeat constructor)) ?_; clear hf a; intro a hf
 refine s_v hf (x_len Tryz.underlying22 (hf.eval rfl)) ?_; clear hf a; intro a hf
 refine s_a hf rfl ?_; clear hf a; intro a hf
 refine s_nil (then_n (wp_seq (wp_region_lit ?_)))
 refine s_v hf (x_fieldAddr fo64_0 (hf.eval rfl)) ?_; clear hf a; intro a hf
 refine s_r hf (x_load sc3 (hf.eval rfl) (by apply hs.cell <;> repeat constructor)) ?_; clear hf a; intro a hf
 refine s_a hf rfl ?_; clear hf a; intro a hf
 refine s_nil (then_n ?_)
 refine c_join (N := 146) (L0 := [(0, _), (3, _), (4, _), (5, _)]) (fun M w => M = [(6, .int .i64 (szIx s (csz, secs, rest)))] ∧ St σ w (cb cb0 64 [.int .i64 csz, .slice ac secs.length cc, .int .i64 rest] :: rcell 88 p s ⟨.slice a1 s.now.length c1, .slice a2 s.dur.length c2, .slice a3 ps.length c3, .slice a4 s.sizes.length c4, ps⟩ :: slB 5 (.slice a1 s.now.length c1) s.now :: slB 5 (.slice a2 s.dur.length c2) s.dur :: sl 152 3 (.slice a3 ps.length c3) ps.length (ps.flatMap rpF) :: datA 5 ps :: sl 3 1 (.slice a4 s.sizes.length c4) s.sizes.length (szC s.sizes) :: R)) (hf.sub ⟨rfl, rfl, rfl, rfl, trivial⟩) ?_ ?_
 ·refine wp_seq ?_
  refine wp_region_lit ?_
  refine s_m hf rfl ?_; clear hf a; intro a hf
  refine s_m hf rfl ?_; clear hf a; intro a hf
  refine s_v hf (x_nilCheck (hf.eval rfl)) ?_; clear hf a; intro a hf
  refine s_v hf (x_fieldAddr fo88_4 (hf.eval rfl)) ?_; clear hf a; intro a hf
  refine s_r hf (x_load sc62 (hf.eval rfl) (by apply hs.cell <;> repeat constructor)) ?_; clear hf a; intro a hf
  refine s_v hf (x_len Tryz.underlying62 (hf.eval rfl)) ?_; clear hf a; intro a hf
  refine s_v hf (x_bin (hf.eval rfl) (hf.eval rfl) (r_gt _ _ _ _)) ?_; clear hf a; intro a hf
  refine s_nil (then_n ?_)
  refine c_cond hf rfl (fun hi0 => ?_) (fun hi0 => ?_)
  ·simp only [zd1, zd2, zd3, zd4, zd5, zd6, zd7] at hi0
   refine wp_region_lit ?_
   refine s_m hf rfl ?_; clear hf a; intro a hf
   refine s_v hf (x_nilCheck (hf.eval rfl)) ?_; clear hf a; intro a hf
   refine s_v hf (x_fieldAddr fo88_4 (hf.eval rfl)) ?_; clear hf a; intro a hf
   refine s_r hf (x_load sc62 (hf.eval rfl) (by apply hs.cell <;> repeat constructor)) ?_; clear hf a; intro a hf
   refine s_v hf (x_len Tryz.underlying62 (hf.eval rfl)) ?_; clear hf a; intro a hf
   refine s_a hf rfl ?_; clear hf a; intro a hf
   replace hf := hf.now (k := 6) (v' := .int .i64 (szIx s (csz, secs, rest))) rfl (by unfold szIx; congr 1; simp only; omega)
   refine s_nil (then_n ?_)
   exact ⟨_, ⟨rfl, hs⟩, hf.sub ⟨rfl, rfl, rfl, rfl, rfl, trivial⟩⟩
  simp only [zd1, zd2, zd3, zd4, zd5, zd6, zd7] at hi0
  replace hf := hf.now (k := 6) (v' := .int .i64 (szIx s (csz, secs, rest))) rfl (by unfold szIx; congr 1; simp only; omega)
  refine wp_skip (then_n ?_)
  exact ⟨_, ⟨rfl, hs⟩, hf.sub ⟨rfl, rfl, rfl, rfl, rfl, trivial⟩⟩
 clear hf hs a
 rintro M a w ⟨rfl, hs⟩ hf
 refine c_join (N := 146) (L0 := [(0, _), (3, _), (4, _)]) (fun M w => M = [(5, .int .i64 (outN s (csz, secs, rest) : Int))] ∧ St σ w (cb cb0 64 [.int .i64 csz, .slice ac secs.length cc, .int .i64 rest] :: rcell 88 p s ⟨.slice a1 s.now.length c1, .slice a2 s.dur.length c2, .slice a3 ps.length c3, .slice a4 s.sizes.length c4, ps⟩ :: slB 5 (.slice a1 s.now.length c1) s.now :: slB 5 (.slice a2 s.dur.length c2) s.dur :: sl 152 3 (.slice a3 ps.length c3) ps.length (ps.flatMap rpF) :: datA 5 ps :: sl 3 1 (.slice a4 s.sizes.length c4) s.sizes.length (szC s.sizes) :: R)) (hf.sub ⟨rfl, rfl, rfl, trivial⟩) ?_ ?_
 ·refine wp_seq ?_
  refine wp_region_lit ?_
  refine s_m hf rfl ?_; clear hf a; intro a hf
  refine s_v hf (x_bin (hf.eval rfl) (hf.eval rfl) (r_gt _ _ _ _)) ?_; clear hf a; intro a hf
  refine s_nil (then_n ?_)
  refine c_cond hf rfl (fun hi1 => ?_) (fun hi1 => ?_)
  ·simp only [zd1, zd2, zd3, zd4, zd5, zd6, zd7] at hi1
   have hix : 0 < szIx s (csz, secs, rest) := by omega
   have hix2 : szIx s (csz, secs, rest) ≤ s.sizes.length := by unfold szIx; omega
   obtain ⟨a4, rfl⟩ := sl_some (hs.take .k6) (by omega)
   refine wp_region_lit ?_
   refine s_m hf rfl ?_; clear hf a; intro a hf
   refine s_v hf (x_nilCheck (hf.eval rfl)) ?_; clear hf a; intro a hf
   refine s_v hf (x_fieldAddr fo88_4 (hf.eval rfl)) ?_; clear hf a; intro a hf
   refine s_r hf (x_load sc62 (hf.eval rfl) (by apply hs.cell <;> repeat constructor)) ?_; clear hf a; intro a hf
   refine s_m hf rfl ?_; clear hf a; intro a hf
   refine s_v hf (x_bin (hf.eval rfl) (hf.eval rfl) (r_subi _ (by omega) (by omega))) ?_; clear hf a; intro a hf
   replace hf := hf.now (k := 41) (v' := .int .i64 (((szIx s (csz, secs, rest)).toNat - 1 : Nat) : Int)) rfl (by congr 1; omega)
   refine s_v hf (x_indexAddr sl62 (hf.eval rfl) (hf.eval rfl) (by omega) (by omega)) ?_; clear hf a; intro a hf
   refine s_r hf (x_loadC hs sc3 .k6 (hf.eval rfl) (szC_get (i := (szIx s (csz, secs, rest)).toNat - 1) (by omega))) ?_; clear hf a; intro a hf
   refine s_a hf rfl ?_; clear hf a; intro a hf
   replace hf := hf.now (k := 5) (v' := .int .i64 (outN s (csz, secs, rest) : Int)) rfl (by rw [outN_some hix])
   refine s_nil (then_n ?_)
   exact ⟨_, ⟨rfl, hs⟩, hf.sub ⟨rfl, rfl, rfl, rfl, trivial⟩⟩
  simp only [zd1, zd2, zd3, zd4, zd5, zd6, zd7] at hi1
  have hix : ¬ 0 < szIx s (csz, secs, rest) := by omega
  replace hf := hf.now (k := 5) (v' := .int .i64 (outN s (csz, secs, rest) : Int)) rfl (by rw [outN_none hix])
  refine wp_skip (then_n ?_)
  exact ⟨_, ⟨rfl, hs⟩, hf.sub ⟨rfl, rfl, rfl, rfl, trivial⟩⟩
 clear hf hs a
 rintro M a w ⟨rfl, hs⟩ hf
 refine wp_seq (wp_region_lit ?_)
 refine s_m hf rfl ?_; clear hf a; intro a hf
 have hoN := outN_le ho (csz, secs, rest)
 refine s_do hf rfl (y_makeB (m := outN s (csz, secs, rest)) (c := outN s (csz, secs, rest)) hs sl22 (hf.eval rfl) (hf.eval rfl) rfl rfl (Nat.le_refl _) (by omega) ?_); clear hf hs a; intro fb w hs a hf
 refine s_a hf rfl ?_; clear hf a; intro a hf
 refine s_nil (then_n (wp_seq (wp_region_lit ?_)))
 refine s_m hf rfl ?_; clear hf a; intro a hf
 refine s_m hf rfl ?_; clear hf a; intro a hf
 refine s_v hf (x_nilCheck (hf.eval rfl)) ?_; clear hf a; intro a hf
 refine s_v hf (x_fieldAddr fo88_2 (hf.eval rfl)) ?_; clear hf a; intro a hf
 refine s_r hf (x_load sc22 (hf.eval rfl) (by apply hs.cell <;> repeat constructor)) ?_; clear hf a; intro a hf
 refine s_do hf rfl (y_copyB (o := 0) (cur' := spl (List.replicate (outN s (csz, secs, rest)) 0) 0 (s.dur.take (min s.dur.length (outN s (csz, secs, rest))))) hs sl22 (hf.eval rfl) (hf.eval rfl) (fun _ => rfl) (hs.rdB .k4 fun h => slB_rd) rfl .k0 rfl (by simp) ?_); clear hf hs a; intro w hs a hf
 obtain ⟨out0, ho0⟩ : ∃ o, o = spl (List.replicate (outN s (csz, secs, rest)) 0) 0 (s.dur.take (min s.dur.length (outN s (csz, secs, rest)))) := ⟨_, rfl⟩
 rw [← ho0] at hs
 obtain ⟨hd1, hd2⟩ := dur_start s _ ho0
 have hpl : ps.length = s.pcs.length := by have h9 := congrArg List.length hps; rw [List.length_map] at h9; exact h9
 refine s_nil (then_n (wp_seq (wp_region_lit ?_)))
 refine s_a hf rfl ?_; clear hf a; intro a hf
 refine s_nil (then_n (wp_seq (wp_seq (wp_region_lit ?_))))
 refine s_a hf rfl ?_; clear hf a; intro a hf
 refine s_nil (then_n (wp_block ?_))
 refine c_loop (L0 := [(0, _), (3, _), (4, _), (5, _), (7, _)]) (fun M w m => ∃ (i lst : Nat), M = [(8, .int .i64 (lst : Int)), (9, .int .i64 (i : Int))] ∧ ps.length - i = m ∧ i ≤ ps.length ∧ lst ≤ 16777216 ∧ (∀ q ∈ ps.take i, q.1 / 512 ≤ lst) ∧ St σ w (bb fb 5 (out0) :: cb cb0 64 [.int .i64 csz, .slice ac secs.length cc, .int .i64 rest] :: rcell 88 p s ⟨.slice a1 s.now.length c1, .slice a2 s.dur.length c2, .slice a3 ps.length c3, .slice a4 s.sizes.length c4, ps⟩ :: slB 5 (.slice a1 s.now.length c1) s.now :: slB 5 (.slice a2 s.dur.length c2) s.dur :: sl 152 3 (.slice a3 ps.length c3) ps.length (ps.flatMap rpF) :: datA 5 ps :: sl 3 1 (.slice a4 s.sizes.length c4) s.sizes.length (szC s.sizes) :: R)) (M0 := [(8, .int .i64 0), (9, .int .i64 0)]) (⟨0, 0, rfl, rfl, Nat.zero_le _, Nat.zero_le _, by simp, hs⟩) (hf.sub ⟨rfl, rfl, rfl, rfl, rfl, rfl, rfl, trivial⟩) ?_
 clear hf hs a
 rintro M m a w ⟨i, lst, rfl, rfl, hi, hl0, hlm, hs⟩ hf
 refine wp_seq (wp_seq (wp_region_lit ?_))
 refine s_m hf rfl ?_; clear hf a; intro a hf
 refine s_m hf rfl ?_; clear hf a; intro a hf
 refine s_v hf (x_nilCheck (hf.eval rfl)) ?_; clear hf a; intro a hf
 refine s_v hf (x_fieldAddr fo88_3 (hf.eval rfl)) ?_; clear hf a; intro a hf
 refine s_r hf (x_load sc86 (hf.eval rfl) (by apply hs.cell <;> repeat constructor)) ?_; clear hf a; intro a hf
 refine s_v hf (x_len Tryz.underlying86 (hf.eval rfl)) ?_; clear hf a; intro a hf
 refine s_v hf (x_bin (hf.eval rfl) (hf.eval rfl) (r_lt _ _ _ _)) ?_; clear hf a; intro a hf
 refine s_nil (then_n ?_)
 refine c_cond hf rfl (fun hi2 => ?_) (fun hi2 => ?_)
 ·simp only [zd1, zd2, zd3, zd4, zd5, zd6, zd7] at hi2
  have hlt : i < ps.length := by omega
  obtain ⟨ab, rfl⟩ := sl_blk (hs.take .k5) (by omega)
  obtain ⟨hip, hpi⟩ := pcs_get hps hlt
  have hpo := ho.pcs _ (List.getElem_mem hip)
  rw [hpi] at hpo
  have hpo3 : ((ps[i].1 + ps[i].2.2.length : Nat) : Int) ≤ s.room := hpo.2.2
  refine wp_skip (then_n (wp_seq (wp_block (wp_seq (wp_region_lit ?_)))))
  refine s_m hf rfl ?_; clear hf a; intro a hf
  refine s_v hf (x_nilCheck (hf.eval rfl)) ?_; clear hf a; intro a hf
  refine s_v hf (x_fieldAddr fo88_3 (hf.eval rfl)) ?_; clear hf a; intro a hf
  refine s_r hf (x_load sc86 (hf.eval rfl) (by apply hs.cell <;> repeat constructor)) ?_; clear hf a; intro a hf
  refine s_m hf rfl ?_; clear hf a; intro a hf
  refine s_v hf (x_indexAddr sl86 (hf.eval rfl) (hf.eval rfl) (by omega) (by omega)) ?_; clear hf a; intro a hf
  replace hf := hf.now (k := 66) (v' := .pointer (some ⟨ab, 0 + i * 3, none⟩)) rfl (by rw [addr_add]; rfl)
  refine s_v hf (x_fieldAddr fo152_0 (hf.eval rfl)) ?_; clear hf a; intro a hf
  refine s_r hf (x_load sc3 (hf.eval rfl) (rdS_cellAt (f := rpF) (sz := 3) (fun _ => rfl) (hs.rd .k5 fun h hh => sl_rd hh) (k := 0) hlt rfl)) ?_; clear hf a; intro a hf
  refine s_m hf rfl ?_; clear hf a; intro a hf
  refine s_v hf (x_bin (hf.eval rfl) (hf.eval rfl) (r_gt _ _ _ _)) ?_; clear hf a; intro a hf
  refine s_nil (then_n ?_)
  refine c_cond hf rfl (fun hi3 => ?_) (fun hi3 => ?_)
  ·simp only [zd1, zd2, zd3, zd4, zd5, zd6, zd7] at hi3
   refine wp_region_lit ?_
   refine s_m hf rfl ?_; clear hf a; intro a hf
   refine s_v hf (x_nilCheck (hf.eval rfl)) ?_; clear hf a; intro a hf
   refine s_v hf (x_fieldAddr fo88_3 (hf.eval rfl)) ?_; clear hf a; intro a hf
   refine s_r hf (x_load sc86 (hf.eval rfl) (by apply hs.cell <;> repeat constructor)) ?_; clear hf a; intro a hf
   refine s_m hf rfl ?_; clear hf a; intro a hf
   refine s_v hf (x_indexAddr sl86 (hf.eval rfl) (hf.eval rfl) (by omega) (by omega)) ?_; clear hf a; intro a hf
   replace hf := hf.now (k := 76) (v' := .pointer (some ⟨ab, 0 + i * 3, none⟩)) rfl (by rw [addr_add]; rfl)
   refine s_v hf (x_fieldAddr fo152_0 (hf.eval rfl)) ?_; clear hf a; intro a hf
   refine s_r hf (x_load sc3 (hf.eval rfl) (rdS_cellAt (f := rpF) (sz := 3) (fun _ => rfl) (hs.rd .k5 fun h hh => sl_rd hh) (k := 0) hlt rfl)) ?_; clear hf a; intro a hf
   refine s_a hf rfl ?_; clear hf a; intro a hf
   replace hf := hf.now (k := 8) (v' := .int .i64 ((max lst (ps[i].1 / 512) : Nat) : Int)) rfl (by congr 1; omega)
   refine s_nil (blk_n (then_n (wp_region_lit ?_)))
   refine s_m hf rfl ?_; clear hf a; intro a hf
   refine s_v hf (x_bin (hf.eval rfl) (hf.eval rfl) (r_addi _ (by omega) (by omega))) ?_; clear hf a; intro a hf
   refine s_a hf rfl ?_; clear hf a; intro a hf
   refine s_nil ?_
   exact ⟨_, _, ⟨i + 1, max lst (ps[i].1 / 512), rfl, rfl, by omega, by omega, mem_take_get hlt (fun q hq => by have := hlm q hq; omega) (by omega), hs⟩, by omega, hf.sub ⟨rfl, rfl, rfl, rfl, rfl, rfl, rfl, trivial⟩⟩
  simp only [zd1, zd2, zd3, zd4, zd5, zd6, zd7] at hi3
  replace hf := hf.now (k := 8) (v' := .int .i64 ((max lst (ps[i].1 / 512) : Nat) : Int)) rfl (by congr 1; omega)
  refine wp_skip (blk_n (then_n (wp_region_lit ?_)))
  refine s_m hf rfl ?_; clear hf a; intro a hf
  refine s_v hf (x_bin (hf.eval rfl) (hf.eval rfl) (r_addi _ (by omega) (by omega))) ?_; clear hf a; intro a hf
  refine s_a hf rfl ?_; clear hf a; intro a hf
  refine s_nil ?_
  exact ⟨_, _, ⟨i + 1, max lst (ps[i].1 / 512), rfl, rfl, by omega, by omega, mem_take_get hlt (fun q hq => by have := hlm q hq; omega) (by omega), hs⟩, by omega, hf.sub ⟨rfl, rfl, rfl, rfl, rfl, rfl, rfl, trivial⟩⟩
 simp only [zd1, zd2, zd3, zd4, zd5, zd6, zd7] at hi2
 obtain rfl : i = ps.length := by omega
 rw [List.take_length] at hlm
 refine wp_exit (then_x (then_x (blk_x (then_n (wp_seq (wp_region_lit ?_))))))
 refine s_m hf rfl ?_; clear hf a; intro a hf
 refine s_v hf (x_bin (hf.eval rfl) (hf.eval rfl) (r_addi _ (by omega) (by omega))) ?_; clear hf a; intro a hf
 refine s_do hf rfl (y_makeSlice hs sl62 (hf.eval rfl) (hf.eval rfl) (by omega) (by omega) (by omega) (by omega) ?_); clear hf hs a; intro b4 w hs a hf
 rw [show ((lst : Int) + 1).toNat = lst + 1 by omega, cntC_0 s.pcs] at hs
 replace hf := hf.now (k := 81) (v' := .slice (some ⟨b4, 0, none⟩) (lst + 1) (lst + 1)) rfl (by rw [show ((lst : Int) + 1).toNat = lst + 1 by omega])
 refine s_a hf rfl ?_; clear hf a; intro a hf
 refine s_nil (then_n (wp_seq (wp_seq (wp_region_lit ?_))))
 refine s_a hf rfl ?_; clear hf a; intro a hf
 refine s_nil (then_n (wp_block ?_))
 refine c_loop (L0 := [(0, _), (3, _), (4, _), (5, _), (7, _), (8, _), (9, _), (10, _), (52, _), (53, _), (54, _), (55, _), (56, _), (57, _), (58, _), (79, _), (80, _), (81, _)]) (fun M w m => ∃ (i : Nat) (out : List UInt8), M = [(11, .int .i64 (i : Int))] ∧ ps.length - i = m ∧ i ≤ ps.length ∧ Fre s (csz, secs, rest) i out ∧ St σ w (cb b4 3 (cntC s.pcs i (lst + 1)) :: bb fb 5 (out) :: cb cb0 64 [.int .i64 csz, .slice ac secs.length cc, .int .i64 rest] :: rcell 88 p s ⟨.slice a1 s.now.length c1, .slice a2 s.dur.length c2, .slice a3 ps.length c3, .slice a4 s.sizes.length c4, ps⟩ :: slB 5 (.slice a1 s.now.length c1) s.now :: slB 5 (.slice a2 s.dur.length c2) s.dur :: sl 152 3 (.slice a3 ps.length c3) ps.length (ps.flatMap rpF) :: datA 5 ps :: sl 3 1 (.slice a4 s.sizes.length c4) s.sizes.length (szC s.sizes) :: R)) (M0 := [(11, .int .i64 0)]) (⟨0, out0, rfl, rfl, Nat.zero_le _, fre_start hd1 hd2, hs⟩) (hf.sub ⟨rfl, rfl, rfl, rfl, rfl, rfl, rfl, rfl, rfl, rfl, rfl, rfl, rfl, rfl, rfl, rfl, rfl, rfl, rfl, trivial⟩) ?_
 clear hf hs a
 rintro M m a w ⟨i, out, rfl, rfl, hi, hfr, hs⟩ hf
 clear hd1 hd2
 refine wp_seq (wp_seq (wp_region_lit ?_))
 refine s_m hf rfl ?_; clear hf a; intro a hf
 refine s_m hf rfl ?_; clear hf a; intro a hf
 refine s_v hf (x_nilCheck (hf.eval rfl)) ?_; clear hf a; intro a hf
 refine s_v hf (x_fieldAddr fo88_3 (hf.eval rfl)) ?_; clear hf a; intro a hf
 refine s_r hf (x_load sc86 (hf.eval rfl) (by apply hs.cell <;> repeat constructor)) ?_; clear hf a; intro a hf
 refine s_v hf (x_len Tryz.underlying86 (hf.eval rfl)) ?_; clear hf a; intro a hf
 refine s_v hf (x_bin (hf.eval rfl) (hf.eval rfl) (r_lt _ _ _ _)) ?_; clear hf a; intro a hf
 refine s_nil (then_n ?_)
 refine c_cond hf rfl (fun hi4 => ?_) (fun hi4 => ?_)
 ·simp only [zd1, zd2, zd3, zd4, zd5, zd6, zd7] at hi4
  have hlt : i < ps.length := by omega
  obtain ⟨ab, rfl⟩ := sl_blk (hs.take .k6) (by omega)
  obtain ⟨hip, hpi⟩ := pcs_get hps hlt
  have hpo := ho.pcs _ (List.getElem_mem hip)
  rw [hpi] at hpo
  have hpo3 : ((ps[i].1 + ps[i].2.2.length : Nat) : Int) ≤ s.room := hpo.2.2
  have hsec := hlm _ (List.getElem_mem hlt)
  have hpd := hs.datRd .k7 hlt
  obtain ⟨pa, pk, hpv⟩ := hpd.shape
  have hpo1 : s.pcs[i].1 / 512 = ps[i].1 / 512 := by rw [hpi]
  have hcl9 : (secP (s.pcs.take i) (ps[i].1 / 512)).length ≤ s.pcs.length := by unfold secP; exact Nat.le_trans (List.length_filter_le _ _) (by rw [List.length_take]; omega)
  refine wp_skip (then_n (wp_seq (wp_block (wp_seq (wp_region_lit ?_)))))
  refine s_m hf rfl ?_; clear hf a; intro a hf
  refine s_v hf (x_nilCheck (hf.eval rfl)) ?_; clear hf a; intro a hf
  refine s_v hf (x_fieldAddr fo88_3 (hf.eval rfl)) ?_; clear hf a; intro a hf
  refine s_r hf (x_load sc86 (hf.eval rfl) (by apply hs.cell <;> repeat constructor)) ?_; clear hf a; intro a hf
  refine s_m hf rfl ?_; clear hf a; intro a hf
  refine s_v hf (x_indexAddr sl86 (hf.eval rfl) (hf.eval rfl) (by omega) (by omega)) ?_; clear hf a; intro a hf
  refine s_r hf (x_loadS (f := rpF) ag152 (fun _ => rfl) (hs.rd .k6 fun h hh => sl_rd hh) (hf.eval rfl) (by simpa using hlt)) ?_; clear hf a; intro a hf
  refine s_do hf rfl (y_alloc hs Tryz.zeroValue152 ?_); clear hf hs a; intro b7 w hs a hf
  change St _ _ (cb b7 152 [.int .i64 0, .int .i64 0, .slice none 0 0] :: _) at hs
  refine s_do0 hf rfl (y_storeAgg (cs := rpF ps[i]) hs (n := 3) (by kernel_rfl) (hf.eval rfl) (hf.eval rfl) (rpF_one hpd) rfl rfl .k0 ?_); clear hf hs a; intro w hs a hf
  refine s_nil (then_n (wp_seq (wp_region_lit ?_)))
  refine s_r hf (x_loadBlk hs ag64 (hf.eval rfl) rfl .k3) ?_; clear hf a; intro a hf
  refine s_v hf (x_fieldAddr fo152_0 (hf.eval rfl)) ?_; clear hf a; intro a hf
  refine s_r hf (x_load sc3 (hf.eval rfl) (by apply hs.cell <;> repeat constructor)) ?_; clear hf a; intro a hf
  refine s_do hf rfl (y_call (hf.eval rfl) (hf.evals rfl) Tryz.call115 ((kept_spec _ csz ac cc secs rest (ps[i].1 / 512) (hrc _ [_, _, _, _, _, _, _, _, _, _] hs)).mono ?_))
  rintro e w1 ⟨rfl, hk⟩
  replace hs := hs.ext hk
  refine ⟨_, rfl, ?_⟩; clear hf a; intro a hf
  refine s_a hf rfl ?_; clear hf a; intro a hf
  refine s_nil (then_n (wp_seq (wp_seq (wp_region_lit ?_))))
  refine s_m hf rfl ?_; clear hf a; intro a hf
  refine s_v hf (x_fieldAddr fo152_0 (hf.eval rfl)) ?_; clear hf a; intro a hf
  refine s_r hf (x_load sc3 (hf.eval rfl) (by apply hs.cell <;> repeat constructor)) ?_; clear hf a; intro a hf
  refine s_v hf (x_indexAddr sl62 (hf.eval rfl) (hf.eval rfl) (by omega) (by omega)) ?_; clear hf a; intro a hf
  replace hf := hf.now (k := 105) (v' := .pointer (some ⟨b4, ps[i].1 / 512, none⟩)) rfl (by rw [addr_add, Int.toNat_natCast, Nat.mul_one, Nat.zero_add])
  refine s_r hf (x_load sc3 (hf.eval rfl) (hs.cell .k1 (cntC_get s.pcs i (show ps[i].1 / 512 < lst + 1 by omega)))) ?_; clear hf a; intro a hf
  refine s_m hf rfl ?_; clear hf a; intro a hf
  refine s_v hf (x_bin (hf.eval rfl) (hf.eval rfl) (r_lt _ _ _ _)) ?_; clear hf a; intro a hf
  refine s_nil (then_n ?_)
  refine c_cond hf rfl (fun hi5 => ?_) (fun hi5 => ?_)
  ·simp only [zd1, zd2, zd3, zd4, zd5, zd6, zd7] at hi5
   have hfr2 := fre_put ho hip hfr (by rw [hpo1]; exact hi5)
   rw [hpi] at hfr2
   refine wp_seq (wp_region_lit ?_)
   refine s_a hf rfl ?_; clear hf a; intro a hf
   refine s_nil (then_n (wp_block ?_))
   refine c_loop (L0 := [(0, _), (3, _), (4, _), (5, _), (7, _), (8, _), (9, _), (10, _), (11, _), (12, _), (13, _), (52, _), (53, _), (54, _), (55, _), (56, _), (57, _), (58, _), (79, _), (80, _), (81, _), (82, _), (83, _), (84, _), (85, _), (86, _), (87, _), (88, _), (91, _), (92, _), (93, _), (94, _), (95, _), (96, _), (97, _), (98, _), (99, _), (100, _), (101, _), (102, _), (103, _), (104, _), (105, _), (106, _), (107, _), (108, _)]) (fun M w m => ∃ (j : Nat), M = [(14, .int .i64 (j : Int))] ∧ ps[i].2.2.length - j = m ∧ j ≤ ps[i].2.2.length ∧ St σ w (cb b7 152 (rpF ps[i]) :: cb b4 3 (cntC s.pcs i (lst + 1)) :: bb fb 5 (putP out (ps[i].1, ps[i].2.2.take j)) :: cb cb0 64 [.int .i64 csz, .slice ac secs.length cc, .int .i64 rest] :: rcell 88 p s ⟨.slice a1 s.now.length c1, .slice a2 s.dur.length c2, .slice (some ⟨ab, 0, none⟩) ps.length c3, .slice a4 s.sizes.length c4, ps⟩ :: slB 5 (.slice a1 s.now.length c1) s.now :: slB 5 (.slice a2 s.dur.length c2) s.dur :: sl 152 3 (.slice (some ⟨ab, 0, none⟩) ps.length c3) ps.length (ps.flatMap rpF) :: datA 5 ps :: sl 3 1 (.slice a4 s.sizes.length c4) s.sizes.length (szC s.sizes) :: R)) (M0 := [(14, .int .i64 0)]) (⟨0, rfl, rfl, Nat.zero_le _, by rw [putP_zero]; exact hs⟩) (hf.sub ⟨rfl, rfl, rfl, rfl, rfl, rfl, rfl, rfl, rfl, rfl, rfl, rfl, rfl, rfl, rfl, rfl, rfl, rfl, rfl, rfl, rfl, rfl, rfl, rfl, rfl, rfl, rfl, rfl, rfl, rfl, rfl, rfl, rfl, rfl, rfl, rfl, rfl, rfl, rfl, rfl, rfl, rfl, rfl, rfl, rfl, rfl, rfl, trivial⟩) ?_
   clear hf hs a
   rintro M m a w ⟨j, rfl, rfl, hj, hs⟩ hf
   have hol := hfr.1
   have hol2 : (putP out (ps[i].1, ps[i].2.2.take j)).length = out.length := putP_len _ _
   refine wp_seq (wp_seq (wp_region_lit ?_))
   refine s_m hf rfl ?_; clear hf a; intro a hf
   refine s_v hf (x_fieldAddr fo152_2 (hf.eval rfl)) ?_; clear hf a; intro a hf
   refine s_r hf (x_load sc22 (hf.eval rfl) (by apply hs.cell <;> repeat constructor)) ?_; clear hf a; intro a hf
   replace hf := hf.now (k := 111) (v' := .slice pa ps[i].2.2.length pk) rfl (by first | rfl | rw [← hpv] | (rw [← hpv]; rfl))
   refine s_v hf (x_len Tryz.underlying22 (hf.eval rfl)) ?_; clear hf a; intro a hf
   refine s_v hf (x_bin (hf.eval rfl) (hf.eval rfl) (r_lt _ _ _ _)) ?_; clear hf a; intro a hf
   refine s_m hf rfl ?_; clear hf a; intro a hf
   refine s_bool hf (k := 114) rfl (fun hg23_5 hf' => ?_) (fun hg23_5 hf' => ?_)
   ·clear hf
    have hf := hf'
    clear hf'
    simp only [decide_eq_true_eq, decide_eq_false_iff_not] at hg23_5
    refine s_do hf (wanted_of hf rfl rfl rfl) (.value (x_fieldAddr fo152_1 (hf.eval rfl) _) ?_); clear hf a; intro a hf
    refine s_do hf (wanted_of hf rfl rfl rfl) (.value (x_load sc3 (hf.eval rfl) (by apply hs.cell <;> repeat constructor)) ?_); clear hf a; intro a hf
    refine s_do hf (wanted_of hf rfl rfl rfl) (.value (x_move (hf.eval rfl) _) ?_); clear hf a; intro a hf
    refine s_do hf (wanted_of hf rfl rfl rfl) (.value (x_bin (hf.eval rfl) (hf.eval rfl) (r_addi _ (by omega) (by omega)) _) ?_); clear hf a; intro a hf
    refine s_do hf (wanted_of hf rfl rfl rfl) (.value (x_move (hf.eval rfl) _) ?_); clear hf a; intro a hf
    refine s_do hf (wanted_of hf rfl rfl rfl) (.value (x_bin (hf.eval rfl) (hf.eval rfl) (r_lt _ _ _ _) _) ?_); clear hf a; intro a hf
    refine s_v hf (x_pick_t (hf.eval rfl) (hf.eval rfl)) ?_; clear hf a; intro a hf
    refine s_nil (then_n ?_)
    refine c_cond hf rfl (fun hi6 => ?_) (fun hi6 => ?_)
    ·simp only [zd1, zd2, zd3, zd4, zd5, zd6, zd7] at hi6
     have hjl : j < ps[i].2.2.length := by omega
     have hpd2 := hs.datRd .k8 hlt
     rw [hpv] at hpd2
     obtain ⟨pa, rfl⟩ := hpd2.some (by omega)
     refine wp_skip (then_n (wp_seq (wp_block ?_)))
     refine c_draw hs (fun _ => True) [.held, .held, .read, .held, .held, .held, .read, .held, .held, .read, .held, .fin] (by kernel_rfl) (by kernel_rfl) (fun _ _ _ => trivial) ?_
     clear hs; intro w hs hC hw
     have hpd2 := hs.datRd .k8 hlt
     rw [hpv] at hpd2
     refine m_held hf rfl (fun w' _ => x_move (hf.eval rfl) w') ?_; clear hf a; intro a hf
     refine m_held hf rfl (fun w' _ => x_fieldAddr fo152_1 (hf.eval rfl) w') ?_; clear hf a; intro a hf
     refine m_read hf rfl (x_load sc3 (hf.eval rfl) (by apply hs.cell <;> repeat constructor)) ?_; clear hf a; intro a hf
     refine m_held hf rfl (fun w' _ => x_move (hf.eval rfl) w') ?_; clear hf a; intro a hf
     refine m_held hf rfl (fun w' _ => x_bin (hf.eval rfl) (hf.eval rfl) (r_addi _ (by omega) (by omega)) w') ?_; clear hf a; intro a hf
     refine m_held hf rfl (fun w' _ => x_fieldAddr fo152_2 (hf.eval rfl) w') ?_; clear hf a; intro a hf
     refine m_read hf rfl (x_load sc22 (hf.eval rfl) (by apply hs.cell <;> repeat constructor)) ?_; clear hf a; intro a hf
     replace hf := hf.now (k := 130) (v' := .slice (some pa) ps[i].2.2.length pk) rfl (by first | rfl | rw [← hpv] | (rw [← hpv]; rfl))
     refine m_held hf rfl (fun w' _ => x_move (hf.eval rfl) w') ?_; clear hf a; intro a hf
     refine m_held hf rfl (fun w' _ => x_indexAddr sl22 (hf.eval rfl) (hf.eval rfl) (by omega) (by omega) w') ?_; clear hf a; intro a hf
     refine m_read hf rfl (x_loadB (i := (j : Int)) sc5 hpd2 (hf.eval rfl) (by simpa using hjl)) ?_; clear hf a; intro a hf
     refine m_held hf rfl (fun w' _ => x_indexAddr sl22 (hf.eval rfl) (hf.eval rfl) (by omega) (by omega) w') ?_; clear hf a; intro a hf
     replace hf := hf.now (k := 134) (v' := .pointer (some ⟨fb, ps[i].1 + j, none⟩)) rfl (by rw [addr_add]; congr 3; omega)
     refine m_fin0 hf rfl (y_storeB (u := ps[i].2.2[j]) hs sc5 (hf.eval rfl) (hf.eval rfl) rfl .k2 (by omega) ?_); clear hf hs a; intro w hs; intro a hf
     refine blk_n (then_n (wp_region_lit ?_))
     refine s_m hf rfl ?_; clear hf a; intro a hf
     refine s_v hf (x_bin (hf.eval rfl) (hf.eval rfl) (r_addi _ (by omega) (by omega))) ?_; clear hf a; intro a hf
     refine s_a hf rfl ?_; clear hf a; intro a hf
     refine s_nil ?_
     exact ⟨_, _, ⟨j + 1, rfl, rfl, by omega, by rw [← putP_step (by omega) hjl]; exact hs⟩, by omega, hf.sub ⟨rfl, rfl, rfl, rfl, rfl, rfl, rfl, rfl, rfl, rfl, rfl, rfl, rfl, rfl, rfl, rfl, rfl, rfl, rfl, rfl, rfl, rfl, rfl, rfl, rfl, rfl, rfl, rfl, rfl, rfl, rfl, rfl, rfl, rfl, rfl, rfl, rfl, rfl, rfl, rfl, rfl, rfl, rfl, rfl, rfl, rfl, rfl, trivial⟩⟩
    simp only [zd1, zd2, zd3, zd4, zd5, zd6, zd7] at hi6
    rw [putP_stop (by omega)] at hs
    refine wp_exit (then_x (then_x (blk_x (then_n ?_))))
    refine c_draw hs (fun _ => True) [.held, .held, .read, .held, .held, .read, .held, .read, .held, .held, .fin] (by kernel_rfl) (by kernel_rfl) (fun _ _ _ => trivial) ?_
    clear hs; intro w hs hC hw
    refine m_held hf rfl (fun w' _ => x_move (hf.eval rfl) w') ?_; clear hf a; intro a hf
    refine m_held hf rfl (fun w' _ => x_fieldAddr fo152_0 (hf.eval rfl) w') ?_; clear hf a; intro a hf
    refine m_read hf rfl (x_load sc3 (hf.eval rfl) (by apply hs.cell <;> repeat constructor)) ?_; clear hf a; intro a hf
    refine m_held hf rfl (fun w' _ => x_move (hf.eval rfl) w') ?_; clear hf a; intro a hf
    refine m_held hf rfl (fun w' _ => x_fieldAddr fo152_0 (hf.eval rfl) w') ?_; clear hf a; intro a hf
    refine m_read hf rfl (x_load sc3 (hf.eval rfl) (by apply hs.cell <;> repeat constructor)) ?_; clear hf a; intro a hf
    refine m_held hf rfl (fun w' _ => x_indexAddr sl62 (hf.eval rfl) (hf.eval rfl) (by omega) (by omega) w') ?_; clear hf a; intro a hf
    replace hf := hf.now (k := 141) (v' := .pointer (some ⟨b4, ps[i].1 / 512, none⟩)) rfl (by rw [addr_add, Int.toNat_natCast, Nat.mul_one, Nat.zero_add])
    refine m_read hf rfl (x_load sc3 (hf.eval rfl) (hs.cell .k1 (cntC_get s.pcs i (show ps[i].1 / 512 < lst + 1 by omega)))) ?_; clear hf a; intro a hf
    refine m_held hf rfl (fun w' _ => x_bin (hf.eval rfl) (hf.eval rfl) (r_addi _ (by omega) (by omega)) w') ?_; clear hf a; intro a hf
    refine m_held hf rfl (fun w' _ => x_indexAddr sl62 (hf.eval rfl) (hf.eval rfl) (by omega) (by omega) w') ?_; clear hf a; intro a hf
    replace hf := hf.now (k := 144) (v' := .pointer (some ⟨b4, ps[i].1 / 512, none⟩)) rfl (by rw [addr_add, Int.toNat_natCast, Nat.mul_one, Nat.zero_add])
    refine m_fin0 hf rfl (y_store hs sc3 (hf.eval rfl) (hf.eval rfl) rfl .k1 (by rw [cntC_len]; omega) ?_); clear hf hs a; intro w hs; intro a hf
    rw [cntC_set s.pcs hip hpo1.symm (by omega)] at hs
    replace hs := hs.drop
    refine blk_n (then_n (wp_region_lit ?_))
    refine s_m hf rfl ?_; clear hf a; intro a hf
    refine s_v hf (x_bin (hf.eval rfl) (hf.eval rfl) (r_addi _ (by omega) (by omega))) ?_; clear hf a; intro a hf
    refine s_a hf rfl ?_; clear hf a; intro a hf
    refine s_nil ?_
    exact ⟨_, _, ⟨i + 1, _, rfl, rfl, by omega, hfr2, hs⟩, by omega, hf.sub ⟨rfl, rfl, rfl, rfl, rfl, rfl, rfl, rfl, rfl, rfl, rfl, rfl, rfl, rfl, rfl, rfl, rfl, rfl, rfl, trivial⟩⟩
   clear hf
   have hf := hf'
   clear hf'
   simp only [decide_eq_true_eq, decide_eq_false_iff_not] at hg23_5
   refine s_pass hf rfl rfl ?_; clear hf a; intro a hf
   refine s_pass hf rfl rfl ?_; clear hf a; intro a hf
   refine s_pass hf rfl rfl ?_; clear hf a; intro a hf
   refine s_pass hf rfl rfl ?_; clear hf a; intro a hf
   refine s_pass hf rfl rfl ?_; clear hf a; intro a hf
   refine s_pass hf rfl rfl ?_; clear hf a; intro a hf
   refine s_v hf (x_pick_f (hf.eval rfl) (hf.eval rfl)) ?_; clear hf a; intro a hf
   refine s_nil (then_n ?_)
   refine c_cond_f hf rfl rfl ?_
   rw [putP_stop (by omega)] at hs
   refine wp_exit (then_x (then_x (blk_x (then_n ?_))))
   refine c_draw hs (fun _ => True) [.held, .held, .read, .held, .held, .read, .held, .read, .held, .held, .fin] (by kernel_rfl) (by kernel_rfl) (fun _ _ _ => trivial) ?_
   clear hs; intro w hs hC hw
   refine m_held hf rfl (fun w' _ => x_move (hf.eval rfl) w') ?_; clear hf a; intro a hf
   refine m_held hf rfl (fun w' _ => x_fieldAddr fo152_0 (hf.eval rfl) w') ?_; clear hf a; intro a hf
   refine m_read hf rfl (x_load sc3 (hf.eval rfl) (by apply hs.cell <;> repeat constructor)) ?_; clear hf a; intro a hf
   refine m_held hf rfl (fun w' _ => x_move (hf.eval rfl) w') ?_; clear hf a; intro a hf
   refine m_held hf rfl (fun w' _ => x_fieldAddr fo152_0 (hf.eval rfl) w') ?_; clear hf a; intro a hf
   refine m_read hf rfl (x_load sc3 (hf.eval rfl) (by apply hs.cell <;> repeat constructor)) ?_; clear hf a; intro a hf
   refine m_held hf rfl (fun w' _ => x_indexAddr sl62 (hf.eval rfl) (hf.eval rfl) (by omega) (by omega) w') ?_; clear hf a; intro a hf
   replace hf := hf.now (k := 141) (v' := .pointer (some ⟨b4, ps[i].1 / 512, none⟩)) rfl (by rw [addr_add, Int.toNat_natCast, Nat.mul_one, Nat.zero_add])
   refine m_read hf rfl (x_load sc3 (hf.eval rfl) (hs.cell .k1 (cntC_get s.pcs i (show ps[i].1 / 512 < lst + 1 by omega)))) ?_; clear hf a; intro a hf
   refine m_held hf rfl (fun w' _ => x_bin (hf.eval rfl) (hf.eval rfl) (r_addi _ (by omega) (by omega)) w') ?_; clear hf a; intro a hf
   refine m_held hf rfl (fun w' _ => x_indexAddr sl62 (hf.eval rfl) (hf.eval rfl) (by omega) (by omega) w') ?_; clear hf a; intro a hf
   replace hf := hf.now (k := 144) (v' := .pointer (some ⟨b4, ps[i].1 / 512, none⟩)) rfl (by rw [addr_add, Int.toNat_natCast, Nat.mul_one, Nat.zero_add])
   refine m_fin0 hf rfl (y_store hs sc3 (hf.eval rfl) (hf.eval rfl) rfl .k1 (by rw [cntC_len]; omega) ?_); clear hf hs a; intro w hs; intro a hf
   rw [cntC_set s.pcs hip hpo1.symm (by omega)] at hs
   replace hs := hs.drop
   refine blk_n (then_n (wp_region_lit ?_))
   refine s_m hf rfl ?_; clear hf a; intro a hf
   refine s_v hf (x_bin (hf.eval rfl) (hf.eval rfl) (r_addi _ (by omega) (by omega))) ?_; clear hf a; intro a hf
   refine s_a hf rfl ?_; clear hf a; intro a hf
   refine s_nil ?_
   exact ⟨_, _, ⟨i + 1, _, rfl, rfl, by omega, hfr2, hs⟩, by omega, hf.sub ⟨rfl, rfl, rfl, rfl, rfl, rfl, rfl, rfl, rfl, rfl, rfl, rfl, rfl, rfl, rfl, rfl, rfl, rfl, rfl, trivial⟩⟩
  simp only [zd1, zd2, zd3, zd4, zd5, zd6, zd7] at hi5
  have hfr2 := fre_skip hip hfr (by rw [hpo1]; exact hi5)
  refine wp_skip (then_n ?_)
  refine c_draw hs (fun _ => True) [.held, .held, .read, .held, .held, .read, .held, .read, .held, .held, .fin] (by kernel_rfl) (by kernel_rfl) (fun _ _ _ => trivial) ?_
  clear hs; intro w hs hC hw
  refine m_held hf rfl (fun w' _ => x_move (hf.eval rfl) w') ?_; clear hf a; intro a hf
  refine m_held hf rfl (fun w' _ => x_fieldAddr fo152_0 (hf.eval rfl) w') ?_; clear hf a; intro a hf
  refine m_read hf rfl (x_load sc3 (hf.eval rfl) (by apply hs.cell <;> repeat constructor)) ?_; clear hf a; intro a hf
  refine m_held hf rfl (fun w' _ => x_move (hf.eval rfl) w') ?_; clear hf a; intro a hf
  refine m_held hf rfl (fun w' _ => x_fieldAddr fo152_0 (hf.eval rfl) w') ?_; clear hf a; intro a hf
  refine m_read hf rfl (x_load sc3 (hf.eval rfl) (by apply hs.cell <;> repeat constructor)) ?_; clear hf a; intro a hf
  refine m_held hf rfl (fun w' _ => x_indexAddr sl62 (hf.eval rfl) (hf.eval rfl) (by omega) (by omega) w') ?_; clear hf a; intro a hf
  replace hf := hf.now (k := 141) (v' := .pointer (some ⟨b4, ps[i].1 / 512, none⟩)) rfl (by rw [addr_add, Int.toNat_natCast, Nat.mul_one, Nat.zero_add])
  refine m_read hf rfl (x_load sc3 (hf.eval rfl) (hs.cell .k1 (cntC_get s.pcs i (show ps[i].1 / 512 < lst + 1 by omega)))) ?_; clear hf a; intro a hf
  refine m_held hf rfl (fun w' _ => x_bin (hf.eval rfl) (hf.eval rfl) (r_addi _ (by omega) (by omega)) w') ?_; clear hf a; intro a hf
  refine m_held hf rfl (fun w' _ => x_indexAddr sl62 (hf.eval rfl) (hf.eval rfl) (by omega) (by omega) w') ?_; clear hf a; intro a hf
  replace hf := hf.now (k := 144) (v' := .pointer (some ⟨b4, ps[i].1 / 512, none⟩)) rfl (by rw [addr_add, Int.toNat_natCast, Nat.mul_one, Nat.zero_add])
  refine m_fin0 hf rfl (y_store hs sc3 (hf.eval rfl) (hf.eval rfl) rfl .k1 (by rw [cntC_len]; omega) ?_); clear hf hs a; intro w hs; intro a hf
  rw [cntC_set s.pcs hip hpo1.symm (by omega)] at hs
  replace hs := hs.drop
  refine blk_n (then_n (wp_region_lit ?_))
  refine s_m hf rfl ?_; clear hf a; intro a hf
  refine s_v hf (x_bin (hf.eval rfl) (hf.eval rfl) (r_addi _ (by omega) (by omega))) ?_; clear hf a; intro a hf
  refine s_a hf rfl ?_; clear hf a; intro a hf
  refine s_nil ?_
  exact ⟨_, _, ⟨i + 1, _, rfl, rfl, by omega, hfr2, hs⟩, by omega, hf.sub ⟨rfl, rfl, rfl, rfl, rfl, rfl, rfl, rfl, rfl, rfl, rfl, rfl, rfl, rfl, rfl, rfl, rfl, rfl, rfl, trivial⟩⟩
 simp only [zd1, zd2, zd3, zd4, zd5, zd6, zd7] at hi4
 obtain rfl : i = s.pcs.length := by omega
 obtain rfl := fre_end hfr
 refine wp_exit (then_x (then_x (blk_x (then_n (wp_seq (wp_region_lit ?_))))))
 refine s_m hf rfl ?_; clear hf a; intro a hf
 refine s_a hf rfl ?_; clear hf a; intro a hf
 refine s_nil (then_n ?_)
 refine wp_ret ?_
 refine r_1 hf Tryz.results98 rfl ?_
 replace hs := (hs.lose .k0).ofBb (n := (outS s (csz, secs, rest)).length) rfl (by rw [outS_length]; omega)
 replace hs := St.give (L := _) (hs.lose .k1) .k6
 refine ⟨some ⟨fb, 0, none⟩, (outS s (csz, secs, rest)).length, by rw [outS_length], ?_⟩
 exact (refA_close (s := s) (x := ⟨.slice a1 s.now.length c1, .slice a2 s.dur.length c2, .slice a3 ps.length c3, .slice a4 s.sizes.length c4, ps⟩) hps hs).take .k1
theorem rCrash_spec (σ : Sig) (w : World) (R : List Asrt) (p : Nat) (s : DS) (hs : St σ w (refA 88 152 5 3 p s :: R)) (csz : Int) (ac : Option Addr) (cc : Nat) (secs : List Int) (rest : Int) (ho : DOk s) (hrc : RdyS iF 1 σ R (.slice ac secs.length cc) secs) (hsz : s.sizes.length ≤ 1099511600000) (hpc : s.pcs.length ≤ 1099511600000) : Calls Tryz.prog 67 #[.pointer (some ⟨p, 0, none⟩), .agg #[.int .i64 csz, .slice ac secs.length cc, .int .i64 rest]] w fun e w' => ∃ p', e = .returned (.tuple #[.pointer (some ⟨p', 0, none⟩), .int .i64 0]) ∧ St σ w' (refA 88 152 5 3 p' (newS (outS s (csz, secs, rest)) s.room) :: refA 88 152 5 3 p (kilS s) :: R) := by
 have hroom1 := ho.room1
 have hoN := outN_le ho (csz, secs, rest)
 refine c_enter (N := 24) Tryz.func67 rfl Tryz.ntmps67 (by simp) ?_
 intro a hf
 refine wp_seq (wp_region_lit ?_)
 refine s_do hf rfl (y_box hs (hf.eval rfl) ?_); clear hf hs a; intro cb0 w hs a hf
 replace hs : St σ w (cb cb0 64 [.int .i64 csz, .slice ac secs.length cc, .int .i64 rest] :: _) := hs
 refine s_a hf rfl ?_; clear hf a; intro a hf
 refine s_a hf rfl ?_; clear hf a; intro a hf
 refine s_nil (then_n (wp_seq (wp_seq (wp_region_lit ?_))))
 refine s_m hf rfl ?_; clear hf a; intro a hf
 refine s_v hf (x_eqNil Tryz.underlying28 (hf.eval rfl) (hf.eval rfl)) ?_; clear hf a; intro a hf
 replace hf := hf.now (k := 8) (v' := .bool false) rfl rfl
 refine s_nil (then_n ?_)
 refine c_cond_f hf rfl rfl ?_
 refine wp_skip (then_n (wp_seq (wp_region_lit ?_)))
 refine s_m hf rfl ?_; clear hf a; intro a hf
 refine s_r hf (x_loadBlk hs ag64 (hf.eval rfl) rfl .k0) ?_; clear hf a; intro a hf
 replace hs := hs.drop
 refine s_do hf rfl (y_call (hf.eval rfl) (hf.evals rfl) Tryz.call98 ((outcome_spec σ _ R p s hs csz ac cc secs rest ho hrc hsz hpc).mono ?_))
 rintro e w1 ⟨oa, oc, rfl, hs⟩
 refine ⟨_, rfl, ?_⟩; clear hf a; intro a hf
 refine s_a hf rfl ?_; clear hf a; intro a hf
 refine s_nil (then_n (wp_seq (wp_region_lit ?_)))
 replace hs := hs.take .k1
 obtain ⟨⟨v1, v2, v3, v4, ps⟩, hps, hs⟩ := refA_open hs
 dsimp only at hps hs
 obtain ⟨a1, c1, rfl, hc1⟩ := slB_shape (hs.take .k1)
 obtain ⟨a2, c2, rfl, hc2⟩ := slB_shape (hs.take .k2)
 obtain ⟨a3, c3, rfl⟩ := sl_shape (hs.take .k3)
 obtain ⟨a4, c4, rfl⟩ := sl_shape (hs.take .k5)
 refine s_m hf rfl ?_; clear hf a; intro a hf
 refine s_v hf (x_nilCheck (hf.eval rfl)) ?_; clear hf a; intro a hf
 refine s_v hf (x_fieldAddr fo88_7 (hf.eval rfl)) ?_; clear hf a; intro a hf
 refine s_do0 hf rfl (y_store hs sc4 (hf.eval rfl) (hf.eval rfl) rfl (by repeat constructor) (by simp) ?_); clear hf hs a; intro w hs a hf
 refine s_nil (then_n (wp_seq ?_))
 refine c_draw hs (fun w' => w'.cell? ⟨p, 0, none⟩ = some (.int .i64 s.room) ∧ RdB (hp w') (.slice oa (outS s (csz, secs, rest)).length oc) (outS s (csz, secs, rest))) [.held, .held, .held, .held, .held, .held, .eff, .held, .eff, .held, .held] (by kernel_rfl) (by kernel_rfl) (fun w' _ hs => ⟨hs.cell (k := 0) .k0 rfl, hs.rdB .k6 fun h => slB_rd⟩) ?_
 clear hs; intro w hs hC hw
 refine m_held hf rfl (fun w' _ => x_move (hf.eval rfl) w') ?_; clear hf a; intro a hf
 refine m_held hf rfl (fun w' _ => x_nilCheck (hf.eval rfl) w') ?_; clear hf a; intro a hf
 refine m_held hf rfl (fun w' _ => x_fieldAddr fo88_0 (hf.eval rfl) w') ?_; clear hf a; intro a hf
 refine m_held hf rfl (fun w' hc => x_load sc3 (hf.eval rfl) hc.1) ?_; clear hf a; intro a hf
 refine m_held hf rfl (fun w' _ => x_move (hf.eval rfl) w') ?_; clear hf a; intro a hf
 refine m_held hf rfl (fun w' _ => x_move (hf.eval rfl) w') ?_; clear hf a; intro a hf
 refine m_eff hf rfl (y_call (hf.eval rfl) (hf.evals rfl) Tryz.call38 ((rclone_spec _ _ _ (outS s (csz, secs, rest)) hC.2 (by rw [outS_length]; omega)).mono ?_))
 rintro e w1 ⟨e1, fe1, rfl, hj⟩
 replace hs := hs.join hj
 simp only [List.cons_append, List.nil_append] at hs
 refine ⟨_, rfl, ⟨⟨hs.cell (k := 0) .k1 rfl, hs.rdB .k7 fun h => slB_rd⟩, ?_⟩⟩; clear hf a; intro a hf
 refine m_held hf rfl (fun w' hc => x_build (v := .agg #[.int .i64 s.room, .slice oa (outS s (csz, secs, rest)).length oc, .slice e1 (outS s (csz, secs, rest)).length fe1, .slice none 0 0, .slice none 0 0, .int .i64 0, .int .i64 (-1), .bool true]) (hf.parts rfl) (fun w => by kernel_rfl) _) ?_; clear hf a; intro a hf
 refine m_eff hf rfl (y_box hs (hf.eval rfl) ?_); clear hf hs a; intro p2 w hs; refine ⟨⟨hs.cell (k := 0) .k2 rfl, hs.rdB .k8 fun h => slB_rd⟩, ?_⟩; intro a hf
 refine m_held hf rfl (fun w' _ => x_assign (hf.eval rfl) w') ?_; clear hf a; intro a hf
 refine m_held hf rfl (fun w' _ => x_assign (hf.eval rfl) w') ?_; clear hf a; intro a hf
 refine m_nil ?_
 refine then_n ?_
 refine wp_ret ?_
 refine r_2 hf Tryz.results67 rfl rfl ?_
 refine ⟨p2, rfl, ?_⟩
 replace hs := (hs.take .k1).take .k8
 replace hs := hs.take .k2
 replace hs := St.give (L := _) (hs.emp (A := sl 152 3 (.slice none 0 0) 0 []) (fun _ => ⟨rfl, .inl ⟨rfl, rfl⟩⟩)) .k3
 replace hs := St.give (L := _) (hs.emp (A := datA 5 []) (fun _ => trivial)) .k4
 replace hs := St.give (L := _) (hs.emp (A := sl 3 1 (.slice none 0 0) 0 []) (fun _ => ⟨rfl, .inl ⟨rfl, rfl⟩⟩)) .k5
 replace hs := refA_close (s := newS (outS s (csz, secs, rest)) s.room) (x := ⟨.slice oa (outS s (csz, secs, rest)).length oc, .slice e1 (outS s (csz, secs, rest)).length fe1, .slice none 0 0, .slice none 0 0, []⟩) rfl hs
 replace hs := St.give (L := _) hs .k6
 exact (refA_close (s := kilS s) (x := ⟨.slice a1 s.now.length c1, .slice a2 s.dur.length c2, .slice a3 ps.length c3, .slice a4 s.sizes.length c4, ps⟩) hps hs).take .k1
end Go.Proofs.YtehakfbfjpolfaaGreatDoor

namespace Go.Proofs.YtehakfbfjpolfaaGreatDoor
open Go Vw
def fullV (z : Wr) : Value := .slice z.2.1 (z.2.2.2.length + 4) z.2.2.1
def fA (z : Wr) : List Value := [fullV z]
def Gd (h : Heaplet) (z : Wr) : Prop := RdB h (fullV z) (z.2.2.2 ++ [0xC0, 0xC1, 0xC2, 0xC3])
def rowG : List Wr → Asrt
  | [] => fun _ => True
  | z :: r => star (slB 5 (fullV z) (z.2.2.2 ++ [0xC0, 0xC1, 0xC2, 0xC3])) (rowG r)
theorem rowG_rd : ∀ (l : List Wr) (h : Heaplet), rowG l h → ∀ z ∈ l, Gd h z
  | [], _, _, z, hz => absurd hz (by simp)
  | x :: l, h, hh, z, hz => by
    obtain ⟨h1, h2, _, l1, l2, a1, a2⟩ := hh
    rcases List.mem_cons.1 hz with rfl | hz
    · exact RdC.mono l1 (slB_rd a1)
    · exact RdC.mono l2 (rowG_rd l h2 a2 z hz)
theorem seeG {σ : Sig} {w : World} {R : List Asrt} {l : List Wr} (hs : St σ w (rowG l.reverse :: R)) : ∀ z ∈ l, Gd (hp w) z := by
  refine hs.see (p := ∀ z ∈ l, Gd (hp w) z) fun h hh hr z hz => ?_
  exact RdC.mono (fun k o e => hh k o e) (rowG_rd _ h hr z (by simpa using hz))
def dkW (z : Wr) : Int × List UInt8 := (z.1, z.2.2.2)
theorem dk_get {l m : List Wr} (h : l.map dkW = m.map dkW) {i : Nat} (h1 : i < l.length) (h2 : i < m.length) : l[i].1 = m[i].1 ∧ l[i].2.2.2 = m[i].2.2.2 := by
  have e1 : (l.map dkW)[i]? = some (dkW l[i]) := by simp [h1]
  have e2 : (m.map dkW)[i]? = some (dkW m[i]) := by simp [h2]
  rw [h, e2] at e1
  have := Option.some.inj e1
  simp only [dkW, Prod.mk.injEq] at this
  exact ⟨this.1.symm, this.2.symm⟩
theorem Gd.pre {h : Heaplet} {z : Wr} (g : Gd h z) (hcap : z.2.2.2.length + 4 ≤ z.2.2.1) : RdB h (.slice z.2.1 z.2.2.2.length z.2.2.1) z.2.2.2 := by
  have h0 := RdB.sub (i := 0) (j := z.2.2.2.length) g (by simp) (by omega) (by simp)
  have e : subA z.2.1 z.2.2.1 0 1 = z.2.1 := by unfold subA; split <;> simp [Addr.add]
  rw [e] at h0
  simpa using h0
theorem dkW_len {us ws : List Wr} (h : us.map dkW = ws.map dkW) {N : Nat} (hN : ∀ z ∈ ws, z.2.2.2.length ≤ N) : ∀ z ∈ us, z.2.2.2.length ≤ N := fun z hz => by
  have h1 : dkW z ∈ us.map dkW := List.mem_map_of_mem hz
  rw [h] at h1
  obtain ⟨y, hy, e⟩ := List.mem_map.1 h1
  have h2 : (dkW y).2 = (dkW z).2 := congrArg Prod.snd e
  replace h2 : y.2.2.2 = z.2.2.2 := h2
  rw [← h2]; exact hN y hy
theorem dkWY {us ws : List Wr} (h : us.map dkW = ws.map dkW) : us.map dkY = ws.map dkY := h
theorem rowG_rdy {σ : Sig} {R R' : List Asrt} {l : List Wr} (tk : Take (rowG l.reverse) R R') : ∀ z ∈ l, Rdy σ R (.slice z.2.1 z.2.2.2.length z.2.2.1) z.2.2.2 := fun z hz w L hs => by
  have := seeG (hs.take (take_append tk L)) z hz
  exact this.pre (RdB.cap this)
theorem rowG_flip {σ : Sig} {w : World} : ∀ (k m : List Wr) {R : List Asrt}, St σ w (rowG k :: rowG m :: R) → St σ w (rowG (k.reverse ++ m) :: R)
  | [], m, R, hs => hs.lose .k0
  | x :: k, m, R, hs => by
    have h1 : St σ w (slB 5 (fullV x) (x.2.2.2 ++ [0xC0, 0xC1, 0xC2, 0xC3]) :: rowG k :: rowG m :: R) := St.star hs
    have h2 : St σ w (rowG (x :: m) :: rowG k :: R) := St.unstar ((h1.take (A := rowG m) .k2).take (A := slB 5 (fullV x) (x.2.2.2 ++ [0xC0, 0xC1, 0xC2, 0xC3])) .k1)
    have h3 := rowG_flip k (x :: m) (h2.take (A := rowG k) .k1)
    rw [List.reverse_cons, List.append_assoc]; exact h3
theorem rowG_fwd {σ : Sig} {w : World} {l : List Wr} {R : List Asrt} (hs : St σ w (rowG l.reverse :: R)) : St σ w (rowG l :: R) := by
  have h := rowG_flip l.reverse [] ((hs.emp (A := rowG []) (fun _ => trivial)).take (A := rowG l.reverse) .k1)
  rwa [List.reverse_reverse, List.append_nil] at h
theorem rowG_cut {σ : Sig} {w : World} {l : List Wr} {R : List Asrt} {i : Nat} (hi : i < l.length) (hs : St σ w (rowG (l.drop i) :: R)) : St σ w (slB 5 (fullV l[i]) (l[i].2.2.2 ++ [0xC0, 0xC1, 0xC2, 0xC3]) :: rowG (l.drop (i + 1)) :: R) := by
  rw [List.drop_eq_getElem_cons hi] at hs
  exact St.star hs
theorem slB_blk {σ : Sig} {w : World} {R : List Asrt} {T n c : Nat} {a : Option Addr} {l : List UInt8} (hs : St σ w (slB T (.slice a n c) l :: R)) (hl : l ≠ []) : ∃ b, a = some ⟨b, 0, none⟩ := by
  refine hs.see (p := ∃ b, a = some ⟨b, 0, none⟩) fun h hh hb => ?_
  obtain ⟨_, hb⟩ := hb
  rcases hb with ⟨_, hb⟩ | ⟨b, cap, cur, e, _⟩
  · exact absurd (List.eq_nil_of_length_eq_zero hb) hl
  · injection e with e1; exact ⟨b, e1⟩
theorem upd_ok {s : DS} (h : DOk s) (seq size : Int) (ws : List Wr) : DOk (updR s seq size ws).2 := by
  unfold updR; split
  · exact h
  · exact runS_ok _ h
theorem upd_b {s : DS} (ho : DOk s) {k : Nat} (h : DB s k) (seq size : Int) (ws : List Wr) : DB (updR s seq size ws).2 (k + (20 + ws.length)) := by
  unfold updR; split
  · exact h.up (by omega)
  · exact (runS_b _ ho h).up (by rw [opsU_len, opsA_len]; split <;> omega)
theorem framedWrites_own (w0 : World) (aw : Option Addr) (cw : Nat) (ws : List Wr) (hrw : RdS wF 2 (hp w0) (.slice aw ws.length cw) ws) (hlw : ws.length ≤ 1048576) (hgd : ∀ z ∈ ws, RdB (hp w0) (.slice z.2.1 z.2.2.2.length z.2.2.1) z.2.2.2 ∧ z.2.2.2.length ≤ 1048576) : Calls Tryz.prog 23 #[.slice aw ws.length cw] w0 fun e w' => ∃ (a : Option Addr) (c : Nat) (a2 : Option Addr) (c2 : Nat) (us : List Wr), e = .returned (.tuple #[.slice a us.length c, .slice a2 us.length c2]) ∧ us.length = ws.length ∧ us.map dkW = ws.map dkW ∧ St ⟨w0, None_⟩ w' [sl 54 2 (.slice a us.length c) us.length (us.flatMap wF), sl 22 1 (.slice a2 us.length c2) us.length (us.flatMap fA), rowG us.reverse] := by
 have hs := (((St.start w0 None_).emp (A := rowG []) (fun h => trivial)).emp (A := sl 22 1 (.slice none 0 0) 0 []) (fun h => ⟨rfl, .inl ⟨rfl, rfl⟩⟩)).emp (A := sl 54 2 (.slice none 0 0) 0 []) (fun h => ⟨rfl, .inl ⟨rfl, rfl⟩⟩)
 refine c_enter (N := 43) Tryz.func23 rfl Tryz.ntmps23 (by simp) ?_
 intro a hf
 refine wp_seq (wp_region_lit ?_)
 refine s_a hf rfl ?_; clear hf a; intro a hf
 refine s_a hf rfl ?_; clear hf a; intro a hf
 refine s_nil (then_n (wp_seq (wp_region_lit ?_)))
 refine s_a hf rfl ?_; clear hf a; intro a hf
 refine s_nil (then_n (wp_seq (wp_region_lit ?_)))
 refine s_a hf rfl ?_; clear hf a; intro a hf
 refine s_nil (then_n (wp_seq (wp_seq (wp_region_lit ?_))))
 refine s_a hf rfl ?_; clear hf a; intro a hf
 refine s_nil (then_n (wp_block ?_))
 refine c_loop (L0 := [(0, _), (2, _), (3, _)]) (fun M w m => ∃ (i : Nat) (v v2 : Value) (us : List Wr), M = [(4, v), (5, v2), (6, .int .i64 (i : Int))] ∧ ws.length - i = m ∧ i ≤ ws.length ∧ us.length = i ∧ us.map dkW = (ws.take i).map dkW ∧ St ⟨w0, None_⟩ w [sl 54 2 v us.length (us.flatMap wF), sl 22 1 v2 us.length (us.flatMap fA), rowG us.reverse]) (M0 := [(4, .slice none 0 0), (5, .slice none 0 0), (6, .int .i64 0)]) (⟨0, _, _, [], rfl, rfl, Nat.zero_le _, rfl, rfl, hs⟩) (hf.sub ⟨rfl, rfl, rfl, rfl, rfl, rfl, trivial⟩) ?_
 clear hf hs a
 rintro M m a w ⟨i, v, v2, us, rfl, rfl, hi, hul, huk, hs⟩ hf
 refine wp_seq (wp_seq (wp_region_lit ?_))
 refine s_m hf rfl ?_; clear hf a; intro a hf
 refine s_m hf rfl ?_; clear hf a; intro a hf
 refine s_v hf (x_len Tryz.underlying23 (hf.eval rfl)) ?_; clear hf a; intro a hf
 refine s_v hf (x_bin (hf.eval rfl) (hf.eval rfl) (r_lt _ _ _ _)) ?_; clear hf a; intro a hf
 refine s_nil (then_n ?_)
 refine c_cond hf rfl (fun hi0 => ?_) (fun hi0 => ?_)
 ·simp only [zd1, zd2, zd3, zd4, zd5, zd6, zd7] at hi0
  have hlt : i < ws.length := by omega
  obtain ⟨aw, rfl⟩ := hrw.some (by omega)
  obtain ⟨ab, ao2, rfl⟩ := rdS_plain (sz := 2) (fun _ => rfl) (by decide) hrw (by omega)
  have hg := hgd _ (List.getElem_mem hlt)
  refine wp_skip (then_n (wp_seq (wp_block (wp_seq (wp_region_lit ?_)))))
  refine s_m hf rfl ?_; clear hf a; intro a hf
  refine s_m hf rfl ?_; clear hf a; intro a hf
  refine s_v hf (x_indexAddr sl23 (hf.eval rfl) (hf.eval rfl) (by omega) (by omega)) ?_; clear hf a; intro a hf
  replace hf := hf.now (k := 16) (v' := .pointer (some ⟨ab, ao2 + i * 2, none⟩)) rfl (by rw [addr_add]; rfl)
  refine s_v hf (x_fieldAddr fo54_1 (hf.eval rfl)) ?_; clear hf a; intro a hf
  refine s_r hf (x_load sc22 (hf.eval rfl) (rdS_cellAt (f := wF) (sz := 2) (fun _ => rfl) (hs.old hrw) (k := 1) hlt rfl)) ?_; clear hf a; intro a hf
  refine s_do hf rfl (y_call (hf.eval rfl) (hf.evals rfl) Tryz.call65 ((framed_spec _ _ _ ws[i].2.2.2 (hs.oldB hg.1) (by omega)).mono ?_))
  rintro e w1 ⟨b9, c9, rfl, hc9, hj⟩
  replace hs := hs.join hj
  simp only [List.cons_append, List.nil_append] at hs
  refine ⟨_, rfl, ?_⟩; clear hf a; intro a hf
  refine s_a hf rfl ?_; clear hf a; intro a hf
  refine s_nil (then_n (wp_seq ?_))
  refine c_draw hs (fun w' => Kept w0 w' None_) [.held, .held, .held, .held, .held, .held, .held, .held, .held, .held, .held, .held, .held, .held, .held, .eff, .eff, .held] (by kernel_rfl) (by kernel_rfl) (fun w' _ hs => hs.kept) ?_
  clear hs; intro w hs hC hw
  refine m_held hf rfl (fun w' _ => x_move (hf.eval rfl) w') ?_; clear hf a; intro a hf
  refine m_held hf rfl (fun w' _ => x_move (hf.eval rfl) w') ?_; clear hf a; intro a hf
  refine m_held hf rfl (fun w' _ => x_move (hf.eval rfl) w') ?_; clear hf a; intro a hf
  refine m_held hf rfl (fun w' _ => x_indexAddr sl23 (hf.eval rfl) (hf.eval rfl) (by omega) (by omega) w') ?_; clear hf a; intro a hf
  replace hf := hf.now (k := 23) (v' := .pointer (some ⟨ab, ao2 + i * 2, none⟩)) rfl (by rw [addr_add]; rfl)
  refine m_held hf rfl (fun w' _ => x_fieldAddr fo54_0 (hf.eval rfl) w') ?_; clear hf a; intro a hf
  refine m_held hf rfl (fun w' hc => x_load sc3 (hf.eval rfl) (rdS_cellAt (f := wF) (sz := 2) (fun _ => rfl) (RdC.mono hc.hle hrw) (k := 0) hlt rfl)) ?_; clear hf a; intro a hf
  refine m_held hf rfl (fun w' _ => x_move (hf.eval rfl) w') ?_; clear hf a; intro a hf
  refine m_held hf rfl (fun w' _ => x_move (hf.eval rfl) w') ?_; clear hf a; intro a hf
  refine m_held hf rfl (fun w' _ => x_move (hf.eval rfl) w') ?_; clear hf a; intro a hf
  refine m_held hf rfl (fun w' _ => x_indexAddr sl23 (hf.eval rfl) (hf.eval rfl) (by omega) (by omega) w') ?_; clear hf a; intro a hf
  replace hf := hf.now (k := 29) (v' := .pointer (some ⟨ab, ao2 + i * 2, none⟩)) rfl (by rw [addr_add]; rfl)
  refine m_held hf rfl (fun w' _ => x_fieldAddr fo54_1 (hf.eval rfl) w') ?_; clear hf a; intro a hf
  refine m_held hf rfl (fun w' hc => x_load sc22 (hf.eval rfl) (rdS_cellAt (f := wF) (sz := 2) (fun _ => rfl) (RdC.mono hc.hle hrw) (k := 1) hlt rfl)) ?_; clear hf a; intro a hf
  refine m_held hf rfl (fun w' _ => x_len Tryz.underlying22 (hf.eval rfl) w') ?_; clear hf a; intro a hf
  refine m_held hf rfl (fun w' _ => x_slice_hi sl22 (hf.eval rfl) (hf.eval rfl)  (by omega) (by omega) w') ?_; clear hf a; intro a hf
  replace hf := hf.now (k := 33) (v' := .slice (some ⟨b9, 0, none⟩) ws[i].2.2.2.length c9) rfl (rfl)
  refine m_held hf rfl (fun w' hc => x_build (v := .agg #[.int .i64 ws[i].1, .slice (some ⟨b9, 0, none⟩) ws[i].2.2.2.length c9]) (hf.parts rfl) (fun w => by kernel_rfl) _) ?_; clear hf a; intro a hf
  refine m_eff hf rfl (y_lit (xs := [.tmp 34]) hs sl23 (hf.evals rfl) rfl (by simp [Value.cells]) (by decide) ?_); clear hf hs a; intro b2 w hs; refine ⟨hs.kept, ?_⟩; intro a hf
  refine m_eff hf rfl (y_append (n := us.length) (m := 1) (ys := [.int .i64 ws[i].1, .slice (some ⟨b9, 0, none⟩) ws[i].2.2.2.length c9]) hs sl23 (hf.eval rfl) (hf.eval rfl) .k2 (hs.rd .k0 fun h hb => rd_rows hb rfl) (by simp [Value.oneCell']) (by omega) (by rw [maxLen_eq]; omega) ?_); clear hf hs a; intro v5 w hs hv; refine ⟨hs.kept, ?_⟩; intro a hf
  replace hs := hs.lose .k1
  refine m_held hf rfl (fun w' _ => x_assign (hf.eval rfl) w') ?_; clear hf a; intro a hf
  refine m_nil ?_
  refine then_n (wp_region_lit ?_)
  refine s_m hf rfl ?_; clear hf a; intro a hf
  refine s_m hf rfl ?_; clear hf a; intro a hf
  refine s_do hf rfl (y_lit (xs := [.tmp 38]) hs sl47 (hf.evals rfl) rfl (by simp [Value.cells]) (by decide) ?_); clear hf hs a; intro b2 w hs a hf
  refine s_do hf rfl (y_append (n := us.length) (m := 1) (ys := [.slice (some ⟨b9, 0, none⟩) (ws[i].2.2.2.length + 4) c9]) hs sl47 (hf.eval rfl) (hf.eval rfl) .k3 (hs.rd .k0 fun h hb => rd_row hb rfl) (by simp [Value.oneCell']) (by omega) (by rw [maxLen_eq]; omega) ?_); clear hf hs a; intro v6 w hs hv a hf
  replace hs := hs.lose .k1
  have hs5 : St ⟨w0, None_⟩ w [sl 54 2 v5 (us ++ [((ws[i].1, some (⟨b9, 0, none⟩ : Addr), c9, ws[i].2.2.2) : Wr)]).length ((us ++ [((ws[i].1, some (⟨b9, 0, none⟩ : Addr), c9, ws[i].2.2.2) : Wr)]).flatMap wF), sl 22 1 v6 (us ++ [((ws[i].1, some (⟨b9, 0, none⟩ : Addr), c9, ws[i].2.2.2) : Wr)]).length ((us ++ [((ws[i].1, some (⟨b9, 0, none⟩ : Addr), c9, ws[i].2.2.2) : Wr)]).flatMap fA), rowG (us ++ [((ws[i].1, some (⟨b9, 0, none⟩ : Addr), c9, ws[i].2.2.2) : Wr)]).reverse] := by
    rw [List.reverse_concat, List.length_append, List.flatMap_append, List.flatMap_append]
    exact ((((hs.take .k3).take .k3).unstar).take .k1).take .k2
  refine s_a hf rfl ?_; clear hf a; intro a hf
  refine s_nil (blk_n (then_n (wp_region_lit ?_)))
  refine s_m hf rfl ?_; clear hf a; intro a hf
  refine s_v hf (x_bin (hf.eval rfl) (hf.eval rfl) (r_addi _ (by omega) (by omega))) ?_; clear hf a; intro a hf
  refine s_a hf rfl ?_; clear hf a; intro a hf
  refine s_nil ?_
  exact ⟨_, _, ⟨i + 1, _, _, us ++ [((ws[i].1, some (⟨b9, 0, none⟩ : Addr), c9, ws[i].2.2.2) : Wr)], rfl, rfl, by omega, by simp; omega, by rw [List.take_succ_eq_append_getElem hlt, List.map_append, List.map_append, huk]; rfl, hs5⟩, by omega, hf.sub ⟨rfl, rfl, rfl, rfl, rfl, rfl, trivial⟩⟩
 simp only [zd1, zd2, zd3, zd4, zd5, zd6, zd7] at hi0
 refine wp_exit (then_x (then_x (blk_x (then_n (wp_seq (wp_region_lit ?_))))))
 refine s_m hf rfl ?_; clear hf a; intro a hf
 refine s_m hf rfl ?_; clear hf a; intro a hf
 refine s_a hf rfl ?_; clear hf a; intro a hf
 refine s_a hf rfl ?_; clear hf a; intro a hf
 refine s_nil (then_n ?_)
 refine wp_ret ?_
 refine r_2 hf Tryz.results23 rfl rfl ?_
 have hi9 : i = ws.length := by omega
 obtain ⟨a5, c5, rfl⟩ := sl_shape hs
 obtain ⟨a6, c6, rfl⟩ := sl_shape (hs.take .k1)
 exact ⟨a5, c5, a6, c6, us, rfl, by omega, by rw [huk, hi9, List.take_length], hs⟩
theorem sameWrites_spec (w0 : World) (aw : Option Addr) (cw : Nat) (ws : List Wr) (hrw : RdS wF 2 (hp w0) (.slice aw ws.length cw) ws) (hlw : ws.length ≤ 1048576) (hgd : ∀ z ∈ ws, RdB (hp w0) (.slice z.2.1 z.2.2.2.length z.2.2.1) z.2.2.2 ∧ z.2.2.2.length ≤ 1048576) (au : Option Addr) (cu : Nat) (us : List Wr) (hru : RdS wF 2 (hp w0) (.slice au us.length cu) us) (hul : us.length = ws.length) (huk : us.map dkW = ws.map dkW) (hgu : ∀ z ∈ us, RdB (hp w0) (.slice z.2.1 z.2.2.2.length z.2.2.1) z.2.2.2) : Calls Tryz.prog 24 #[.slice au us.length cu, .slice aw ws.length cw] w0 fun e w' => e = .returned (.bool true) ∧ Kept w0 w' None_ := by
 have hs := St.start w0 None_
 refine c_enter (N := 42) Tryz.func24 rfl Tryz.ntmps24 (by simp) ?_
 intro a hf
 refine wp_seq (wp_region_lit ?_)
 refine s_a hf rfl ?_; clear hf a; intro a hf
 refine s_nil (then_n (wp_seq (wp_seq (wp_region_lit ?_))))
 refine s_m hf rfl ?_; clear hf a; intro a hf
 refine s_v hf (x_len Tryz.underlying23 (hf.eval rfl)) ?_; clear hf a; intro a hf
 refine s_m hf rfl ?_; clear hf a; intro a hf
 refine s_v hf (x_len Tryz.underlying23 (hf.eval rfl)) ?_; clear hf a; intro a hf
 refine s_v hf (x_bin (hf.eval rfl) (hf.eval rfl) (r_ne _ _ _ _)) ?_; clear hf a; intro a hf
 refine s_nil (then_n ?_)
 refine c_cond_f hf rfl (by simp; omega) ?_
 refine wp_skip (then_n (wp_seq (wp_seq (wp_region_lit ?_))))
 refine s_a hf rfl ?_; clear hf a; intro a hf
 refine s_nil (then_n (wp_block ?_))
 refine c_loop (L0 := [(0, _), (1, _)]) (fun M w m => ∃ i : Nat, M = [(5, .int .i64 (i : Int))] ∧ ws.length - i = m ∧ i ≤ ws.length ∧ St ⟨w0, None_⟩ w []) (M0 := [(5, .int .i64 0)]) (⟨0, rfl, rfl, Nat.zero_le _, hs⟩) (hf.sub ⟨rfl, rfl, rfl, trivial⟩) ?_
 clear hf hs a
 rintro M m a w ⟨i, rfl, rfl, hi, hs⟩ hf
 refine wp_seq (wp_seq (wp_region_lit ?_))
 refine s_m hf rfl ?_; clear hf a; intro a hf
 refine s_m hf rfl ?_; clear hf a; intro a hf
 refine s_v hf (x_len Tryz.underlying23 (hf.eval rfl)) ?_; clear hf a; intro a hf
 refine s_v hf (x_bin (hf.eval rfl) (hf.eval rfl) (r_lt _ _ _ _)) ?_; clear hf a; intro a hf
 refine s_nil (then_n ?_)
 refine c_cond hf rfl (fun hi1 => ?_) (fun hi1 => ?_)
 ·simp only [zd1, zd2, zd3, zd4, zd5, zd6, zd7] at hi1
  have hlt : i < ws.length := by omega
  have hlu : i < us.length := by omega
  obtain ⟨aw, rfl⟩ := hrw.some (by omega)
  obtain ⟨ab, ao2, rfl⟩ := rdS_plain (sz := 2) (fun _ => rfl) (by decide) hrw (by omega)
  obtain ⟨au, rfl⟩ := hru.some (by omega)
  obtain ⟨ub, uo, rfl⟩ := rdS_plain (sz := 2) (fun _ => rfl) (by decide) hru (by omega)
  obtain ⟨hq1, hq2⟩ := dk_get huk hlu hlt
  have hgw := hgd _ (List.getElem_mem hlt)
  refine wp_skip (then_n (wp_seq (wp_block (wp_seq ?_))))
  refine c_draw hs (fun w' => Kept w0 w' None_) [.held, .held, .held, .held, .held, .held, .held, .held, .held, .held, .held, .held, .held, .held, .held, .held, .held, .held, .held, .held, .held, .held, .eff, .held, .held] (by kernel_rfl) (by kernel_rfl) (fun w' _ hs => hs.kept) ?_
  clear hs; intro w hs hC hw
  refine m_held hf rfl (fun w' _ => x_move (hf.eval rfl) w') ?_; clear hf a; intro a hf
  refine m_held hf rfl (fun w' _ => x_move (hf.eval rfl) w') ?_; clear hf a; intro a hf
  refine m_held hf rfl (fun w' _ => x_indexAddr sl23 (hf.eval rfl) (hf.eval rfl) (by omega) (by omega) w') ?_; clear hf a; intro a hf
  replace hf := hf.now (k := 19) (v' := .pointer (some ⟨ub, uo + i * 2, none⟩)) rfl (by rw [addr_add]; rfl)
  refine m_held hf rfl (fun w' _ => x_fieldAddr fo54_0 (hf.eval rfl) w') ?_; clear hf a; intro a hf
  refine m_held hf rfl (fun w' hc => x_load sc3 (hf.eval rfl) (rdS_cellAt (f := wF) (sz := 2) (fun _ => rfl) (RdC.mono hc.hle hru) (k := 0) hlu rfl)) ?_; clear hf a; intro a hf
  refine m_held hf rfl (fun w' _ => x_move (hf.eval rfl) w') ?_; clear hf a; intro a hf
  refine m_held hf rfl (fun w' _ => x_move (hf.eval rfl) w') ?_; clear hf a; intro a hf
  refine m_held hf rfl (fun w' _ => x_indexAddr sl23 (hf.eval rfl) (hf.eval rfl) (by omega) (by omega) w') ?_; clear hf a; intro a hf
  replace hf := hf.now (k := 24) (v' := .pointer (some ⟨ab, ao2 + i * 2, none⟩)) rfl (by rw [addr_add]; rfl)
  refine m_held hf rfl (fun w' _ => x_fieldAddr fo54_0 (hf.eval rfl) w') ?_; clear hf a; intro a hf
  refine m_held hf rfl (fun w' hc => x_load sc3 (hf.eval rfl) (rdS_cellAt (f := wF) (sz := 2) (fun _ => rfl) (RdC.mono hc.hle hrw) (k := 0) hlt rfl)) ?_; clear hf a; intro a hf
  refine m_held hf rfl (fun w' _ => x_bin (hf.eval rfl) (hf.eval rfl) (r_ne _ _ _ _) w') ?_; clear hf a; intro a hf
  refine m_held hf rfl (fun w' _ => x_move (hf.eval rfl) w') ?_; clear hf a; intro a hf
  replace hf := hf.now (k := 28) (v' := .bool false) rfl (congrArg Value.bool (by simp [hq1]))
  refine m_held hf (wanted_of hf rfl rfl rfl) (fun w' _ => x_move (hf.eval rfl) w') ?_; clear hf a; intro a hf
  refine m_held hf (wanted_of hf rfl rfl rfl) (fun w' _ => x_move (hf.eval rfl) w') ?_; clear hf a; intro a hf
  refine m_held hf (wanted_of hf rfl rfl rfl) (fun w' _ => x_indexAddr sl23 (hf.eval rfl) (hf.eval rfl) (by omega) (by omega) w') ?_; clear hf a; intro a hf
  replace hf := hf.now (k := 31) (v' := .pointer (some ⟨ub, uo + i * 2, none⟩)) rfl (by rw [addr_add]; rfl)
  refine m_held hf (wanted_of hf rfl rfl rfl) (fun w' _ => x_fieldAddr fo54_1 (hf.eval rfl) w') ?_; clear hf a; intro a hf
  refine m_held hf (wanted_of hf rfl rfl rfl) (fun w' hc => x_load sc22 (hf.eval rfl) (rdS_cellAt (f := wF) (sz := 2) (fun _ => rfl) (RdC.mono hc.hle hru) (k := 1) hlu rfl)) ?_; clear hf a; intro a hf
  refine m_held hf (wanted_of hf rfl rfl rfl) (fun w' _ => x_move (hf.eval rfl) w') ?_; clear hf a; intro a hf
  refine m_held hf (wanted_of hf rfl rfl rfl) (fun w' _ => x_move (hf.eval rfl) w') ?_; clear hf a; intro a hf
  refine m_held hf (wanted_of hf rfl rfl rfl) (fun w' _ => x_indexAddr sl23 (hf.eval rfl) (hf.eval rfl) (by omega) (by omega) w') ?_; clear hf a; intro a hf
  replace hf := hf.now (k := 36) (v' := .pointer (some ⟨ab, ao2 + i * 2, none⟩)) rfl (by rw [addr_add]; rfl)
  refine m_held hf (wanted_of hf rfl rfl rfl) (fun w' _ => x_fieldAddr fo54_1 (hf.eval rfl) w') ?_; clear hf a; intro a hf
  refine m_held hf (wanted_of hf rfl rfl rfl) (fun w' hc => x_load sc22 (hf.eval rfl) (rdS_cellAt (f := wF) (sz := 2) (fun _ => rfl) (RdC.mono hc.hle hrw) (k := 1) hlt rfl)) ?_; clear hf a; intro a hf
  refine m_eff hf (wanted_of hf rfl rfl rfl) (y_call (hf.eval rfl) (hf.evals rfl) Tryz.call20 ((same_spec _ _ _ us[i].2.2.2 (hs.oldB (hgu _ (List.getElem_mem hlu))) _ _ ws[i].2.2.2 (hs.oldB hgw.1) (by rw [hq2]; omega)).mono ?_))
  rintro e w1 ⟨rfl, hk⟩
  replace hs := hs.ext hk
  refine ⟨_, rfl, ⟨hs.kept, ?_⟩⟩; clear hf a; intro a hf
  refine m_held hf (wanted_of hf rfl rfl rfl) (fun w' _ => x_not (hf.eval rfl) w') ?_; clear hf a; intro a hf
  refine m_held hf rfl (fun w' _ => x_pick_f (hf.eval rfl) (hf.eval rfl) w') ?_; clear hf a; intro a hf
  refine m_nil ?_
  refine then_n ?_
  refine c_cond_f hf rfl (by simp [hq2]) ?_
  refine wp_skip (blk_n (then_n (wp_region_lit ?_)))
  refine s_m hf rfl ?_; clear hf a; intro a hf
  refine s_v hf (x_bin (hf.eval rfl) (hf.eval rfl) (r_addi _ (by omega) (by omega))) ?_; clear hf a; intro a hf
  refine s_a hf rfl ?_; clear hf a; intro a hf
  refine s_nil ?_
  exact ⟨_, _, ⟨i + 1, rfl, rfl, by omega, hs⟩, by omega, hf.sub ⟨rfl, rfl, rfl, trivial⟩⟩
 simp only [zd1, zd2, zd3, zd4, zd5, zd6, zd7] at hi1
 refine wp_exit (then_x (then_x (blk_x (then_n (wp_seq (wp_region_lit ?_))))))
 refine s_a hf rfl ?_; clear hf a; intro a hf
 refine s_nil (then_n ?_)
 refine wp_ret ?_
 refine r_1 hf Tryz.results24 rfl ?_
 exact ⟨rfl, hs.kept⟩
theorem wholeAll_spec (w0 : World) (aw : Option Addr) (cw : Nat) (ws : List Wr) (hrw : RdS wF 2 (hp w0) (.slice aw ws.length cw) ws) (hlw : ws.length ≤ 1048576) (hgd : ∀ z ∈ ws, RdB (hp w0) (.slice z.2.1 z.2.2.2.length z.2.2.1) z.2.2.2 ∧ z.2.2.2.length ≤ 1048576) (au : Option Addr) (cu : Nat) (us : List Wr) (hru : RdS fA 1 (hp w0) (.slice au us.length cu) us) (hul : us.length = ws.length) (huk : us.map dkW = ws.map dkW) (hG : ∀ z ∈ us, Gd (hp w0) z) : Calls Tryz.prog 25 #[.slice au us.length cu, .slice aw ws.length cw] w0 fun e w' => e = .returned (.bool true) ∧ Kept w0 w' None_ := by
 have hs := St.start w0 None_
 refine c_enter (N := 25) Tryz.func25 rfl Tryz.ntmps25 (by simp) ?_
 intro a hf
 refine wp_seq (wp_region_lit ?_)
 refine s_a hf rfl ?_; clear hf a; intro a hf
 refine s_nil (then_n (wp_seq (wp_seq (wp_region_lit ?_))))
 refine s_a hf rfl ?_; clear hf a; intro a hf
 refine s_nil (then_n (wp_block ?_))
 refine c_loop (L0 := [(0, _), (1, _)]) (fun M w m => ∃ i : Nat, M = [(5, .int .i64 (i : Int))] ∧ ws.length - i = m ∧ i ≤ ws.length ∧ St ⟨w0, None_⟩ w []) (M0 := [(5, .int .i64 0)]) (⟨0, rfl, rfl, Nat.zero_le _, hs⟩) (hf.sub ⟨rfl, rfl, rfl, trivial⟩) ?_
 clear hf hs a
 rintro M m a w ⟨i, rfl, rfl, hi, hs⟩ hf
 refine wp_seq (wp_seq (wp_region_lit ?_))
 refine s_m hf rfl ?_; clear hf a; intro a hf
 refine s_m hf rfl ?_; clear hf a; intro a hf
 refine s_v hf (x_len Tryz.underlying23 (hf.eval rfl)) ?_; clear hf a; intro a hf
 refine s_v hf (x_bin (hf.eval rfl) (hf.eval rfl) (r_lt _ _ _ _)) ?_; clear hf a; intro a hf
 refine s_nil (then_n ?_)
 refine c_cond hf rfl (fun hi0 => ?_) (fun hi0 => ?_)
 ·simp only [zd1, zd2, zd3, zd4, zd5, zd6, zd7] at hi0
  have hlt : i < ws.length := by omega
  have hlu : i < us.length := by omega
  obtain ⟨aw, rfl⟩ := hrw.some (by omega)
  obtain ⟨ab, ao2, rfl⟩ := rdS_plain (sz := 2) (fun _ => rfl) (by decide) hrw (by omega)
  obtain ⟨au, rfl⟩ := hru.some (by omega)
  obtain ⟨ub, uo, rfl⟩ := rdS_plain (sz := 1) (fun _ => rfl) (by decide) hru (by omega)
  obtain ⟨hq1, hq2⟩ := dk_get huk hlu hlt
  have hgw := hgd _ (List.getElem_mem hlt)
  have hG1 := hG _ (List.getElem_mem hlu)
  have hG2 : ∃ a8, us[i].2.1 = some a8 := by
    unfold Gd fullV at hG1
    rcases hG1.2 with ⟨c9, e9, hn9⟩ | ⟨a9, c9, e9, _⟩
    · simp at hn9
    · injection e9 with e9; exact ⟨a9, e9⟩
  obtain ⟨a8, ha8⟩ := hG2
  have hG3 : RdB (hp w0) (.slice (some a8) (ws[i].2.2.2.length + 4) us[i].2.2.1) (ws[i].2.2.2 ++ [0xC0, 0xC1, 0xC2, 0xC3]) := by
    unfold Gd fullV at hG1
    rw [ha8, hq2] at hG1; exact hG1
  refine wp_skip (then_n (wp_seq (wp_block (wp_seq ?_))))
  refine c_draw hs (fun w' => Kept w0 w' None_) [.held, .held, .held, .held, .held, .held, .held, .held, .held, .eff, .held] (by kernel_rfl) (by kernel_rfl) (fun w' _ hs => hs.kept) ?_
  clear hs; intro w hs hC hw
  refine m_held hf rfl (fun w' _ => x_move (hf.eval rfl) w') ?_; clear hf a; intro a hf
  refine m_held hf rfl (fun w' _ => x_move (hf.eval rfl) w') ?_; clear hf a; intro a hf
  refine m_held hf rfl (fun w' _ => x_indexAddr sl47 (hf.eval rfl) (hf.eval rfl) (by omega) (by omega) w') ?_; clear hf a; intro a hf
  replace hf := hf.now (k := 15) (v' := .pointer (some ⟨ub, uo + i * 1, none⟩)) rfl (by rw [addr_add]; rfl)
  refine m_held hf rfl (fun w' hc => x_load sc22 (hf.eval rfl) (rdS_cellAt (f := fA) (sz := 1) (fun _ => rfl) (RdC.mono hc.hle hru) (k := 0) hlu rfl)) ?_; clear hf a; intro a hf
  replace hf := hf.now (k := 16) (v' := .slice (some a8) (ws[i].2.2.2.length + 4) us[i].2.2.1) rfl (by unfold fullV; rw [ha8, hq2])
  refine m_held hf rfl (fun w' _ => x_move (hf.eval rfl) w') ?_; clear hf a; intro a hf
  refine m_held hf rfl (fun w' _ => x_move (hf.eval rfl) w') ?_; clear hf a; intro a hf
  refine m_held hf rfl (fun w' _ => x_indexAddr sl23 (hf.eval rfl) (hf.eval rfl) (by omega) (by omega) w') ?_; clear hf a; intro a hf
  replace hf := hf.now (k := 19) (v' := .pointer (some ⟨ab, ao2 + i * 2, none⟩)) rfl (by rw [addr_add]; rfl)
  refine m_held hf rfl (fun w' _ => x_fieldAddr fo54_1 (hf.eval rfl) w') ?_; clear hf a; intro a hf
  refine m_held hf rfl (fun w' hc => x_load sc22 (hf.eval rfl) (rdS_cellAt (f := wF) (sz := 2) (fun _ => rfl) (RdC.mono hc.hle hrw) (k := 1) hlt rfl)) ?_; clear hf a; intro a hf
  refine m_eff hf rfl (y_call (hf.eval rfl) (hf.evals rfl) Tryz.call66 ((whole_spec _ _ _ _ _ _ ws[i].2.2.2 (hs.oldB hgw.1) rfl (hs.oldB hG3) (by omega)).mono ?_))
  rintro e w1 ⟨rfl, hk⟩
  replace hs := hs.ext hk
  refine ⟨_, rfl, ⟨hs.kept, ?_⟩⟩; clear hf a; intro a hf
  refine m_held hf rfl (fun w' _ => x_assign (hf.eval rfl) w') ?_; clear hf a; intro a hf
  refine m_nil ?_
  refine then_n (wp_seq (wp_region_lit ?_))
  refine s_m hf rfl ?_; clear hf a; intro a hf
  refine s_v hf (x_not (hf.eval rfl)) ?_; clear hf a; intro a hf
  refine s_nil (then_n ?_)
  refine c_cond_f hf rfl rfl ?_
  refine wp_skip (blk_n (then_n (wp_region_lit ?_)))
  refine s_m hf rfl ?_; clear hf a; intro a hf
  refine s_v hf (x_bin (hf.eval rfl) (hf.eval rfl) (r_addi _ (by omega) (by omega))) ?_; clear hf a; intro a hf
  refine s_a hf rfl ?_; clear hf a; intro a hf
  refine s_nil ?_
  exact ⟨_, _, ⟨i + 1, rfl, rfl, by omega, hs⟩, by omega, hf.sub ⟨rfl, rfl, rfl, trivial⟩⟩
 simp only [zd1, zd2, zd3, zd4, zd5, zd6, zd7] at hi0
 refine wp_exit (then_x (then_x (blk_x (then_n (wp_seq (wp_region_lit ?_))))))
 refine s_a hf rfl ?_; clear hf a; intro a hf
 refine s_nil (then_n ?_)
 refine wp_ret ?_
 refine r_1 hf Tryz.results25 rfl ?_
 exact ⟨rfl, hs.kept⟩
theorem spoil_spec (σ : Sig) (w : World) (R : List Asrt) (b n c : Nat) (l : List UInt8) (hn : n ≤ l.length) (hln : l.length ≤ 1099511627776) (hs : St σ w (slB 5 (.slice (some ⟨b, 0, none⟩) l.length c) l :: R)) : Calls Tryz.prog 26 #[.slice (some ⟨b, 0, none⟩) n c] w fun e w' => e = .returned (.tuple #[]) ∧ St σ w' R := by
 obtain ⟨cur, q1, q2, q3, q4, hs⟩ := slB_open hs rfl
 have hcu0 : ∀ j, j < n → ∃ x : Int, cur[j]? = some (.int .u8 x) := fun j hj => by
   have h1 : (cur.take l.length)[j]? = (l.map u8v)[j]? := by rw [q4]
   rw [List.getElem?_take_of_lt (by omega), List.getElem?_map] at h1
   rw [h1, List.getElem?_eq_getElem (show j < l.length by omega)]
   exact ⟨_, rfl⟩
 refine c_enter (N := 17) Tryz.func26 rfl Tryz.ntmps26 (by simp) ?_
 intro a hf
 refine wp_seq (wp_region_lit ?_)
 refine s_a hf rfl ?_; clear hf a; intro a hf
 refine s_nil (then_n (wp_block ?_))
 refine c_loop (L0 := [(0, _)]) (fun M w m => ∃ (i : Nat) (cur : List Value), M = [(2, .int .i64 (i : Int))] ∧ n - i = m ∧ i ≤ n ∧ n ≤ cur.length ∧ (∀ j, j < n → ∃ x : Int, cur[j]? = some (.int .u8 x)) ∧ St σ w (cb b 5 cur :: R)) (M0 := [(2, .int .i64 0)]) (⟨0, cur, rfl, rfl, Nat.zero_le _, by omega, hcu0, hs⟩) (hf.sub ⟨rfl, rfl, trivial⟩) ?_
 clear hf hs a
 rintro M m a w ⟨i, cur, rfl, rfl, hi, hcl, hcu, hs⟩ hf
 refine wp_seq (wp_seq (wp_region_lit ?_))
 refine s_m hf rfl ?_; clear hf a; intro a hf
 refine s_m hf rfl ?_; clear hf a; intro a hf
 refine s_v hf (x_len Tryz.underlying22 (hf.eval rfl)) ?_; clear hf a; intro a hf
 refine s_v hf (x_bin (hf.eval rfl) (hf.eval rfl) (r_lt _ _ _ _)) ?_; clear hf a; intro a hf
 refine s_nil (then_n ?_)
 refine c_cond hf rfl (fun hi0 => ?_) (fun hi0 => ?_)
 ·first | simp only [zd1, zd2, zd3, zd4, ne_eq, Classical.not_not] at hi0 | skip
  have hlt : i < n := by omega
  obtain ⟨x, hx⟩ := hcu i hlt
  refine wp_skip (then_n (wp_seq (wp_block (wp_region_lit ?_))))
  refine s_m hf rfl ?_; clear hf a; intro a hf
  refine s_m hf rfl ?_; clear hf a; intro a hf
  refine s_m hf rfl ?_; clear hf a; intro a hf
  refine s_m hf rfl ?_; clear hf a; intro a hf
  refine s_v hf (x_indexAddr sl22 (hf.eval rfl) (hf.eval rfl) (by omega) (by omega)) ?_; clear hf a; intro a hf
  replace hf := hf.now (k := 13) (v' := .pointer (some ⟨b, i, none⟩)) rfl (by rw [at_addN])
  refine s_r hf (x_load sc5 (hf.eval rfl) (hs.cell (k := i) .k0 hx)) ?_; clear hf a; intro a hf
  refine s_v hf (x_bin (hf.eval rfl) (hf.eval rfl) (r_add _ _ _ _)) ?_; clear hf a; intro a hf
  refine s_v hf (x_indexAddr sl22 (hf.eval rfl) (hf.eval rfl) (by omega) (by omega)) ?_; clear hf a; intro a hf
  replace hf := hf.now (k := 16) (v' := .pointer (some ⟨b, i, none⟩)) rfl (by rw [at_addN])
  refine s_do0 hf rfl (y_store hs sc5 (hf.eval rfl) (hf.eval rfl) rfl .k0 (by omega) ?_); clear hf hs a; intro w hs a hf
  refine s_nil (blk_n (then_n (wp_region_lit ?_)))
  refine s_m hf rfl ?_; clear hf a; intro a hf
  refine s_v hf (x_bin (hf.eval rfl) (hf.eval rfl) (r_addi _ (by omega) (by omega))) ?_; clear hf a; intro a hf
  refine s_a hf rfl ?_; clear hf a; intro a hf
  refine s_nil ?_
  exact ⟨_, _, ⟨i + 1, _, rfl, rfl, by omega, by rw [List.length_set]; exact hcl, fun j hj => (by by_cases h9 : i = j; (subst h9; exact ⟨_, List.getElem?_set_self (by omega)⟩); (rw [List.getElem?_set_ne h9]; exact hcu j hj)), hs⟩, by omega, hf.sub ⟨rfl, rfl, trivial⟩⟩
 first | simp only [zd1, zd2, zd3, zd4, ne_eq, Classical.not_not] at hi0 | skip
 refine wp_exit (then_x (then_x (blk_x ?_)))
 refine r_0n hf Tryz.results26 ?_
 exact ⟨rfl, hs.lose .k0⟩
theorem rfuse_nil (w : World) (n : Int) : Calls Tryz.prog 10 #[.pointer none, .int .i64 n] w fun e w' => e = .returned (.tuple #[]) ∧ w' = w := by
 refine c_enter (N := 22) Tryz.func10 rfl Tryz.ntmps10 (by simp) ?_
 intro a hf
 refine wp_seq (wp_seq (wp_region_lit ?_))
 refine s_m hf rfl ?_; clear hf a; intro a hf
 refine s_v hf (x_eqNil Tryz.underlying28 (hf.eval rfl) (hf.eval rfl)) ?_; clear hf a; intro a hf
 replace hf := hf.now (k := 5) (v' := .bool true) rfl rfl
 refine s_m hf rfl ?_; clear hf a; intro a hf
 refine s_pass hf rfl rfl ?_; clear hf a; intro a hf
 refine s_pass hf rfl rfl ?_; clear hf a; intro a hf
 refine s_pass hf rfl rfl ?_; clear hf a; intro a hf
 refine s_pass hf rfl rfl ?_; clear hf a; intro a hf
 refine s_pass hf rfl rfl ?_; clear hf a; intro a hf
 refine s_v hf (x_pick_t (hf.eval rfl) (hf.eval rfl)) ?_; clear hf a; intro a hf
 refine s_nil (then_n ?_)
 refine c_cond_t hf rfl rfl ?_
 refine wp_ret ?_
 refine then_r ?_
 refine r_0 hf Tryz.results10 ?_
 exact ⟨rfl, rfl⟩
theorem rcalls_nil (w : World) : Calls Tryz.prog 19 #[.pointer none] w fun e w' => e = .returned (.int .i64 0) ∧ w' = w := by
 refine c_enter (N := 9) Tryz.func19 rfl Tryz.ntmps19 (by simp) ?_
 intro a hf
 refine wp_seq (wp_region_lit ?_)
 refine s_a hf rfl ?_; clear hf a; intro a hf
 refine s_nil (then_n (wp_seq (wp_seq (wp_region_lit ?_))))
 refine s_m hf rfl ?_; clear hf a; intro a hf
 refine s_v hf (x_eqNil Tryz.underlying28 (hf.eval rfl) (hf.eval rfl)) ?_; clear hf a; intro a hf
 replace hf := hf.now (k := 4) (v' := .bool true) rfl rfl
 refine s_nil (then_n ?_)
 refine c_cond_t hf rfl rfl ?_
 refine wp_seq (wp_region_lit ?_)
 refine s_a hf rfl ?_; clear hf a; intro a hf
 refine s_nil (then_n ?_)
 refine wp_ret ?_
 refine then_r ?_
 refine r_1 hf Tryz.results19 rfl ?_
 exact ⟨rfl, rfl⟩
theorem ralive_nil (w : World) : Calls Tryz.prog 61 #[.pointer none] w fun e w' => e = .returned (.bool false) ∧ w' = w := by
 refine c_enter (N := 11) Tryz.func61 rfl Tryz.ntmps61 (by simp) ?_
 intro a hf
 refine wp_seq (wp_region_lit ?_)
 refine s_a hf rfl ?_; clear hf a; intro a hf
 refine s_nil (then_n (wp_seq (wp_region_lit ?_)))
 refine s_m hf rfl ?_; clear hf a; intro a hf
 refine s_v hf (x_neNil Tryz.underlying28 (hf.eval rfl) (hf.eval rfl)) ?_; clear hf a; intro a hf
 replace hf := hf.now (k := 4) (v' := .bool false) rfl rfl
 refine s_m hf rfl ?_; clear hf a; intro a hf
 refine s_pass hf rfl rfl ?_; clear hf a; intro a hf
 refine s_pass hf rfl rfl ?_; clear hf a; intro a hf
 refine s_pass hf rfl rfl ?_; clear hf a; intro a hf
 refine s_pass hf rfl rfl ?_; clear hf a; intro a hf
 refine s_v hf (x_pick_f (hf.eval rfl) (hf.eval rfl)) ?_; clear hf a; intro a hf
 refine s_a hf rfl ?_; clear hf a; intro a hf
 refine s_nil (then_n ?_)
 refine wp_ret ?_
 refine r_1 hf Tryz.results61 rfl ?_
 exact ⟨rfl, rfl⟩
theorem rimage_nil (w : World) : Calls Tryz.prog 22 #[.pointer none] w fun e w' => e = .returned (.slice none 0 0) ∧ w' = w := by
 refine c_enter (N := 10) Tryz.func22 rfl Tryz.ntmps22 (by simp) ?_
 intro a hf
 refine wp_seq (wp_region_lit ?_)
 refine s_a hf rfl ?_; clear hf a; intro a hf
 refine s_nil (then_n (wp_seq (wp_seq (wp_region_lit ?_))))
 refine s_m hf rfl ?_; clear hf a; intro a hf
 refine s_v hf (x_eqNil Tryz.underlying28 (hf.eval rfl) (hf.eval rfl)) ?_; clear hf a; intro a hf
 replace hf := hf.now (k := 4) (v' := .bool true) rfl rfl
 refine s_nil (then_n ?_)
 refine c_cond_t hf rfl rfl ?_
 refine wp_seq (wp_region_lit ?_)
 refine s_a hf rfl ?_; clear hf a; intro a hf
 refine s_nil (then_n ?_)
 refine wp_ret ?_
 refine then_r ?_
 refine r_1 hf Tryz.results22 rfl ?_
 exact ⟨rfl, rfl⟩
theorem rcrash_nil (w0 : World) (v : Value) : Calls Tryz.prog 67 #[.pointer none, v] w0 fun e w' => e = .returned (.tuple #[.pointer none, .int .i64 1]) ∧ Kept w0 w' None_ := by
 have hs := St.start w0 None_
 refine c_enter (N := 24) Tryz.func67 rfl Tryz.ntmps67 (by simp) ?_
 intro a hf
 refine wp_seq (wp_region_lit ?_)
 refine s_do hf rfl (y_box hs (hf.eval rfl) ?_); clear hf hs a; intro b w hs a hf
 refine s_a hf rfl ?_; clear hf a; intro a hf
 refine s_a hf rfl ?_; clear hf a; intro a hf
 refine s_nil (then_n (wp_seq (wp_seq (wp_region_lit ?_))))
 refine s_m hf rfl ?_; clear hf a; intro a hf
 refine s_v hf (x_eqNil Tryz.underlying28 (hf.eval rfl) (hf.eval rfl)) ?_; clear hf a; intro a hf
 replace hf := hf.now (k := 8) (v' := .bool true) rfl rfl
 refine s_nil (then_n ?_)
 refine c_cond_t hf rfl rfl ?_
 refine wp_seq (wp_region_lit ?_)
 refine s_a hf rfl ?_; clear hf a; intro a hf
 refine s_a hf rfl ?_; clear hf a; intro a hf
 refine s_nil (then_n ?_)
 refine wp_ret ?_
 refine then_r ?_
 refine r_2 hf Tryz.results67 rfl rfl ?_
 exact ⟨rfl, hs.kept⟩
theorem rdB_nil (h : Heaplet) : RdB h (.slice none (([] : List UInt8)).length 0) [] := ⟨rfl, .inl ⟨0, rfl, rfl⟩⟩
abbrev ChQ := Int × (Option Addr × Nat × List Int) × Int
def chF (c : ChQ) : List Value := [.int .i64 c.1, .slice c.2.1.1 c.2.1.2.2.length c.2.1.2.1, .int .i64 c.2.2]
structure ChG (h : Heaplet) (c : ChQ) : Prop where
  rd : RdS iF 1 h (.slice c.2.1.1 c.2.1.2.2.length c.2.1.2.1) c.2.1.2.2
  len : c.2.1.2.2.length ≤ 1048576
theorem alike_spec (w0 w : World) (R : List Asrt) (p q : Nat) (s : DS) (hs : St ⟨w0, None_⟩ w (diskA 85 127 5 3 p s :: refA 88 152 5 3 q s :: R)) (ho : DOk s) (k : Nat) (hb : DB s k) (hk : k ≤ 33000000) (ac : Option Addr) (cc : Nat) (cs : List ChQ) (hrc : RdS chF 3 (hp w0) (.slice ac cs.length cc) cs) (hgc : ∀ z ∈ cs, ChG (hp w0) z) (hlc : cs.length ≤ 1048576) : Calls Tryz.prog 27 #[.pointer (some ⟨p, 0, none⟩), .pointer (some ⟨q, 0, none⟩), .slice ac cs.length cc] w fun e w' => e = .returned (.bool true) ∧ Kept w0 w' None_ := by
 refine c_enter (N := 62) Tryz.func27 rfl Tryz.ntmps27 (by simp) ?_
 intro a hf
 refine wp_seq (wp_region_lit ?_)
 refine s_a hf rfl ?_; clear hf a; intro a hf
 refine s_nil (then_n (wp_seq (wp_seq (wp_region_lit ?_))))
 refine s_m hf rfl ?_; clear hf a; intro a hf
 replace hs := hs.take (A := diskA 85 127 5 3 p s) (by repeat constructor)
 refine s_do hf rfl (y_call (hf.eval rfl) (hf.evals rfl) Tryz.call18 ((dCalls_spec _ _ _ p s hs).mono ?_))
 rintro e w1 ⟨rfl, hw9⟩
 rw [hw9]
 clear hw9 w1
 refine ⟨_, rfl, ?_⟩; clear hf a; intro a hf
 refine s_m hf rfl ?_; clear hf a; intro a hf
 replace hs := hs.take (A := refA 88 152 5 3 q s) (by repeat constructor)
 refine s_do hf rfl (y_call (hf.eval rfl) (hf.evals rfl) Tryz.call19 ((rCalls_spec _ _ _ q s hs).mono ?_))
 rintro e w1 ⟨rfl, hw9⟩
 rw [hw9]
 clear hw9 w1
 refine ⟨_, rfl, ?_⟩; clear hf a; intro a hf
 refine s_v hf (x_bin (hf.eval rfl) (hf.eval rfl) (r_ne _ _ _ _)) ?_; clear hf a; intro a hf
 refine s_m hf rfl ?_; clear hf a; intro a hf
 replace hf := hf.now (k := 17) (v' := .bool false) rfl (congrArg Value.bool (by first | rfl | simp))
 refine s_do hf (wanted_of hf rfl rfl rfl) (.value (x_move (hf.eval rfl) _) ?_); clear hf a; intro a hf
 replace hs := hs.take (A := diskA 85 127 5 3 p s) (by repeat constructor)
 refine s_do hf (wanted_of hf rfl rfl rfl) (y_call (hf.eval rfl) (hf.evals rfl) Tryz.call59 ((dAlive_spec _ _ _ p s hs).mono ?_))
 rintro e w1 ⟨rfl, hw9⟩
 rw [hw9]
 clear hw9 w1
 refine ⟨_, rfl, ?_⟩; clear hf a; intro a hf
 refine s_do hf (wanted_of hf rfl rfl rfl) (.value (x_move (hf.eval rfl) _) ?_); clear hf a; intro a hf
 replace hs := hs.take (A := refA 88 152 5 3 q s) (by repeat constructor)
 refine s_do hf (wanted_of hf rfl rfl rfl) (y_call (hf.eval rfl) (hf.evals rfl) Tryz.call61 ((rAlive_spec _ _ _ q s hs).mono ?_))
 rintro e w1 ⟨rfl, hw9⟩
 rw [hw9]
 clear hw9 w1
 refine ⟨_, rfl, ?_⟩; clear hf a; intro a hf
 refine s_do hf (wanted_of hf rfl rfl rfl) (.value (x_boolNe Tryz.underlying4 (hf.eval rfl) (hf.eval rfl) _) ?_); clear hf a; intro a hf
 refine s_v hf (x_pick_f (hf.eval rfl) (hf.eval rfl)) ?_; clear hf a; intro a hf
 refine s_m hf rfl ?_; clear hf a; intro a hf
 replace hf := hf.now (k := 24) (v' := .bool false) rfl (congrArg Value.bool (by first | rfl | simp))
 refine s_do hf (wanted_of hf rfl rfl rfl) (.value (x_move (hf.eval rfl) _) ?_); clear hf a; intro a hf
 have hn1 := ho.now
 have hn2 := ho.room1
 replace hs := hs.take (A := diskA 85 127 5 3 p s) (by repeat constructor)
 refine s_do hf (wanted_of hf rfl rfl rfl) (y_call (hf.eval rfl) (hf.evals rfl) Tryz.call21 ((dImage_spec _ _ _ p s hs (by omega)).mono ?_))
 rintro e w1 ⟨e1, f1, rfl, hs⟩
 refine ⟨_, rfl, ?_⟩; clear hf a; intro a hf
 refine s_do hf (wanted_of hf rfl rfl rfl) (.value (x_move (hf.eval rfl) _) ?_); clear hf a; intro a hf
 replace hs := hs.take (A := refA 88 152 5 3 q s) (by repeat constructor)
 refine s_do hf (wanted_of hf rfl rfl rfl) (y_call (hf.eval rfl) (hf.evals rfl) Tryz.call22 ((rImage_spec _ _ _ q s hs (by omega)).mono ?_))
 rintro e w1 ⟨e2, f2, rfl, hs⟩
 refine ⟨_, rfl, ?_⟩; clear hf a; intro a hf
 replace hs := hs.take (A := slB 5 (.slice e2 s.now.length f2) s.now) (by repeat constructor)
 replace hs := hs.take (A := slB 5 (.slice e1 s.now.length f1) s.now) (by repeat constructor)
 refine s_do hf (wanted_of hf rfl rfl rfl) (y_call (hf.eval rfl) (hf.evals rfl) Tryz.call20 ((same_spec _ _ _ s.now (hs.rdB .k0 fun h => slB_rd) _ _ s.now (hs.rdB .k1 fun h => slB_rd) (by omega)).mono ?_))
 rintro e w1 ⟨rfl, hk9⟩
 replace hs := hs.ext hk9
 refine ⟨_, rfl, ?_⟩; clear hf a; intro a hf
 refine s_do hf (wanted_of hf rfl rfl rfl) (.value (x_not (hf.eval rfl) _) ?_); clear hf a; intro a hf
 refine s_v hf (x_pick_f (hf.eval rfl) (hf.eval rfl)) ?_; clear hf a; intro a hf
 refine s_nil (then_n ?_)
 refine c_cond_f hf rfl (by first | rfl | simp) ?_
 refine wp_skip (then_n (wp_seq (wp_seq (wp_region_lit ?_))))
 replace hs := hs.take (A := refA 88 152 5 3 q s) (by repeat constructor)
 replace hs := hs.take (A := diskA 85 127 5 3 p s) (by repeat constructor)
 replace hs := St.cut [_, _] [_, _] hs
 refine s_a hf rfl ?_; clear hf a; intro a hf
 refine s_nil (then_n (wp_block ?_))
 refine c_loop (L0 := [(0, _), (1, _), (2, _)]) (fun M w m => ∃ (i : Nat) (t : DS), M = [(7, .int .i64 (i : Int))] ∧ cs.length - i = m ∧ i ≤ cs.length ∧ DOk t ∧ DB t k ∧ St ⟨w0, None_⟩ w (diskA 85 127 5 3 p t :: refA 88 152 5 3 q t :: R)) (M0 := [(7, .int .i64 0)]) (⟨0, s, rfl, rfl, Nat.zero_le _, ho, hb, hs⟩) (hf.sub ⟨rfl, rfl, rfl, rfl, trivial⟩) ?_
 clear hf hs a
 rintro M m a w ⟨i, t, rfl, rfl, hi, hto, htb, hs⟩ hf
 refine wp_seq (wp_seq (wp_region_lit ?_))
 refine s_m hf rfl ?_; clear hf a; intro a hf
 refine s_m hf rfl ?_; clear hf a; intro a hf
 refine s_v hf (x_len Tryz.underlying46 (hf.eval rfl)) ?_; clear hf a; intro a hf
 refine s_v hf (x_bin (hf.eval rfl) (hf.eval rfl) (r_lt _ _ _ _)) ?_; clear hf a; intro a hf
 refine s_nil (then_n ?_)
 refine c_cond hf rfl (fun hi1 => ?_) (fun hi1 => ?_)
 ·simp only [zd1, zd2, zd3, zd4, zd5, zd6, zd7] at hi1
  have hlt : i < cs.length := by omega
  obtain ⟨ac, rfl⟩ := hrc.some (by omega)
  have hg := hgc _ (List.getElem_mem hlt)
  have ht1 := htb.sizes
  have ht2 := htb.pcs
  have hol := outN_le hto (cs[i].1, cs[i].2.1.2.2, cs[i].2.2)
  rw [← outS_length] at hol
  have hr1 := hto.room1
  refine wp_skip (then_n (wp_seq (wp_block (wp_seq (wp_region_lit ?_)))))
  refine s_m hf rfl ?_; clear hf a; intro a hf
  refine s_m hf rfl ?_; clear hf a; intro a hf
  refine s_m hf rfl ?_; clear hf a; intro a hf
  refine s_v hf (x_indexAddr sl46 (hf.eval rfl) (hf.eval rfl) (by omega) (by omega)) ?_; clear hf a; intro a hf
  refine s_r hf (x_loadS (f := chF) ag64 (fun _ => rfl) (hs.old hrc) (hf.eval rfl) (by simpa using hlt)) ?_; clear hf a; intro a hf
  replace hf := hf.now (k := 43) (v' := .agg #[.int .i64 cs[i].1, .slice cs[i].2.1.1 cs[i].2.1.2.2.length cs[i].2.1.2.1, .int .i64 cs[i].2.2]) rfl (rfl)
  replace hs := hs.take (A := diskA 85 127 5 3 p t) (by repeat constructor)
  refine s_do hf rfl (y_call (hf.eval rfl) (hf.evals rfl) Tryz.call33 ((dCrash_spec _ _ _ p t hs cs[i].1 cs[i].2.1.1 cs[i].2.1.2.1 cs[i].2.1.2.2 cs[i].2.2 hto (RdyS.old hg.rd) (by omega) (by omega)).mono ?_))
  rintro e w1 ⟨p2, rfl, hs⟩
  refine ⟨_, rfl, ?_⟩; clear hf a; intro a hf
  refine s_m hf rfl ?_; clear hf a; intro a hf
  refine s_v hf (x_extract (hf.eval rfl) rfl) ?_; clear hf a; intro a hf
  refine s_v hf (x_extract (hf.eval rfl) rfl) ?_; clear hf a; intro a hf
  refine s_a hf rfl ?_; clear hf a; intro a hf
  refine s_a hf rfl ?_; clear hf a; intro a hf
  refine s_nil (then_n (wp_seq (wp_region_lit ?_)))
  refine s_m hf rfl ?_; clear hf a; intro a hf
  refine s_m hf rfl ?_; clear hf a; intro a hf
  refine s_m hf rfl ?_; clear hf a; intro a hf
  refine s_v hf (x_indexAddr sl46 (hf.eval rfl) (hf.eval rfl) (by omega) (by omega)) ?_; clear hf a; intro a hf
  refine s_r hf (x_loadS (f := chF) ag64 (fun _ => rfl) (hs.old hrc) (hf.eval rfl) (by simpa using hlt)) ?_; clear hf a; intro a hf
  replace hf := hf.now (k := 52) (v' := .agg #[.int .i64 cs[i].1, .slice cs[i].2.1.1 cs[i].2.1.2.2.length cs[i].2.1.2.1, .int .i64 cs[i].2.2]) rfl (rfl)
  replace hs := hs.take (A := refA 88 152 5 3 q t) (by repeat constructor)
  refine s_do hf rfl (y_call (hf.eval rfl) (hf.evals rfl) Tryz.call67 ((rCrash_spec _ _ _ q t hs cs[i].1 cs[i].2.1.1 cs[i].2.1.2.1 cs[i].2.1.2.2 cs[i].2.2 hto (RdyS.old hg.rd) (by omega) (by omega)).mono ?_))
  rintro e w1 ⟨q2, rfl, hs⟩
  refine ⟨_, rfl, ?_⟩; clear hf a; intro a hf
  refine s_m hf rfl ?_; clear hf a; intro a hf
  refine s_v hf (x_extract (hf.eval rfl) rfl) ?_; clear hf a; intro a hf
  refine s_v hf (x_extract (hf.eval rfl) rfl) ?_; clear hf a; intro a hf
  refine s_a hf rfl ?_; clear hf a; intro a hf
  refine s_a hf rfl ?_; clear hf a; intro a hf
  refine s_nil (then_n (wp_seq (wp_region_lit ?_)))
  refine s_m hf rfl ?_; clear hf a; intro a hf
  replace hs := hs.take (A := diskA 85 127 5 3 p2 (newS (outS t (cs[i].1, cs[i].2.1.2.2, cs[i].2.2)) t.room)) (by repeat constructor)
  refine s_do hf rfl (y_call (hf.eval rfl) (hf.evals rfl) Tryz.call21 ((dImage_spec _ _ _ p2 _ hs (by show (outS t (cs[i].1, cs[i].2.1.2.2, cs[i].2.2)).length ≤ _; omega)).mono ?_))
  rintro e w1 ⟨e1, fe1, rfl, hs⟩
  replace hs : St _ _ (slB 5 (.slice e1 (outS t (cs[i].1, cs[i].2.1.2.2, cs[i].2.2)).length fe1) (outS t (cs[i].1, cs[i].2.1.2.2, cs[i].2.2)) :: _) := hs
  refine ⟨_, rfl, ?_⟩; clear hf a; intro a hf
  refine s_m hf rfl ?_; clear hf a; intro a hf
  replace hs := hs.take (A := refA 88 152 5 3 q2 (newS (outS t (cs[i].1, cs[i].2.1.2.2, cs[i].2.2)) t.room)) (by repeat constructor)
  refine s_do hf rfl (y_call (hf.eval rfl) (hf.evals rfl) Tryz.call22 ((rImage_spec _ _ _ q2 _ hs (by show (outS t (cs[i].1, cs[i].2.1.2.2, cs[i].2.2)).length ≤ _; omega)).mono ?_))
  rintro e w1 ⟨e2, fe2, rfl, hs⟩
  replace hs : St _ _ (slB 5 (.slice e2 (outS t (cs[i].1, cs[i].2.1.2.2, cs[i].2.2)).length fe2) (outS t (cs[i].1, cs[i].2.1.2.2, cs[i].2.2)) :: _) := hs
  refine ⟨_, rfl, ?_⟩; clear hf a; intro a hf
  replace hs := hs.take (A := slB 5 (.slice e2 (outS t (cs[i].1, cs[i].2.1.2.2, cs[i].2.2)).length fe2) (outS t (cs[i].1, cs[i].2.1.2.2, cs[i].2.2))) (by repeat constructor)
  replace hs := hs.take (A := slB 5 (.slice e1 (outS t (cs[i].1, cs[i].2.1.2.2, cs[i].2.2)).length fe1) (outS t (cs[i].1, cs[i].2.1.2.2, cs[i].2.2))) (by repeat constructor)
  refine s_do hf rfl (y_call (hf.eval rfl) (hf.evals rfl) Tryz.call20 ((same_spec _ _ _ (outS t (cs[i].1, cs[i].2.1.2.2, cs[i].2.2)) (hs.rdB .k0 fun h => slB_rd) _ _ (outS t (cs[i].1, cs[i].2.1.2.2, cs[i].2.2)) (hs.rdB .k1 fun h => slB_rd) (by omega)).mono ?_))
  rintro e w1 ⟨rfl, hk9⟩
  replace hs := hs.ext hk9
  refine ⟨_, rfl, ?_⟩; clear hf a; intro a hf
  refine s_v hf (x_not (hf.eval rfl)) ?_; clear hf a; intro a hf
  refine s_nil (then_n ?_)
  refine c_cond_f hf rfl (by first | rfl | simp) ?_
  refine wp_skip (blk_n (then_n (wp_region_lit ?_)))
  replace hs := hs.take (A := refA 88 152 5 3 q (kilS t)) (by repeat constructor)
  replace hs := hs.take (A := diskA 85 127 5 3 p (kilS t)) (by repeat constructor)
  replace hs := St.cut [_, _] [_, _, _, _] hs
  refine s_m hf rfl ?_; clear hf a; intro a hf
  refine s_v hf (x_bin (hf.eval rfl) (hf.eval rfl) (r_addi _ (by omega) (by omega))) ?_; clear hf a; intro a hf
  refine s_a hf rfl ?_; clear hf a; intro a hf
  refine s_nil ?_
  exact ⟨_, _, ⟨i + 1, kilS t, rfl, rfl, by omega, kilS_ok hto, kilS_b htb, hs⟩, by omega, hf.sub ⟨rfl, rfl, rfl, rfl, trivial⟩⟩
 simp only [zd1, zd2, zd3, zd4, zd5, zd6, zd7] at hi1
 refine wp_exit (then_x (then_x (blk_x (then_n (wp_seq (wp_region_lit ?_))))))
 refine s_a hf rfl ?_; clear hf a; intro a hf
 refine s_nil (then_n ?_)
 refine wp_ret ?_
 refine r_1 hf Tryz.results27 rfl ?_
 exact ⟨rfl, hs.kept⟩
theorem alike_nil (w0 : World) (ac : Option Addr) (cc : Nat) (cs : List ChQ) (hrc : RdS chF 3 (hp w0) (.slice ac cs.length cc) cs) (hgc : ∀ z ∈ cs, ChG (hp w0) z) (hlc : cs.length ≤ 1048576) : Calls Tryz.prog 27 #[.pointer none, .pointer none, .slice ac cs.length cc] w0 fun e w' => e = .returned (.bool true) ∧ Kept w0 w' None_ := by
 have hs := St.start w0 None_
 refine c_enter (N := 62) Tryz.func27 rfl Tryz.ntmps27 (by simp) ?_
 intro a hf
 refine wp_seq (wp_region_lit ?_)
 refine s_a hf rfl ?_; clear hf a; intro a hf
 refine s_nil (then_n (wp_seq (wp_seq (wp_region_lit ?_))))
 refine s_m hf rfl ?_; clear hf a; intro a hf
 refine s_do hf rfl (y_call (hf.eval rfl) (hf.evals rfl) Tryz.call18 ((calls_nil _).mono ?_))
 rintro e w1 ⟨rfl, hw9⟩
 rw [hw9]
 clear hw9 w1
 refine ⟨_, rfl, ?_⟩; clear hf a; intro a hf
 refine s_m hf rfl ?_; clear hf a; intro a hf
 refine s_do hf rfl (y_call (hf.eval rfl) (hf.evals rfl) Tryz.call19 ((rcalls_nil _).mono ?_))
 rintro e w1 ⟨rfl, hw9⟩
 rw [hw9]
 clear hw9 w1
 refine ⟨_, rfl, ?_⟩; clear hf a; intro a hf
 refine s_v hf (x_bin (hf.eval rfl) (hf.eval rfl) (r_ne _ _ _ _)) ?_; clear hf a; intro a hf
 refine s_m hf rfl ?_; clear hf a; intro a hf
 replace hf := hf.now (k := 17) (v' := .bool false) rfl (congrArg Value.bool (by first | rfl | simp))
 refine s_do hf (wanted_of hf rfl rfl rfl) (.value (x_move (hf.eval rfl) _) ?_); clear hf a; intro a hf
 refine s_do hf (wanted_of hf rfl rfl rfl) (y_call (hf.eval rfl) (hf.evals rfl) Tryz.call59 ((alive_nil _).mono ?_))
 rintro e w1 ⟨rfl, hw9⟩
 rw [hw9]
 clear hw9 w1
 refine ⟨_, rfl, ?_⟩; clear hf a; intro a hf
 refine s_do hf (wanted_of hf rfl rfl rfl) (.value (x_move (hf.eval rfl) _) ?_); clear hf a; intro a hf
 refine s_do hf (wanted_of hf rfl rfl rfl) (y_call (hf.eval rfl) (hf.evals rfl) Tryz.call61 ((ralive_nil _).mono ?_))
 rintro e w1 ⟨rfl, hw9⟩
 rw [hw9]
 clear hw9 w1
 refine ⟨_, rfl, ?_⟩; clear hf a; intro a hf
 refine s_do hf (wanted_of hf rfl rfl rfl) (.value (x_boolNe Tryz.underlying4 (hf.eval rfl) (hf.eval rfl) _) ?_); clear hf a; intro a hf
 refine s_v hf (x_pick_f (hf.eval rfl) (hf.eval rfl)) ?_; clear hf a; intro a hf
 refine s_m hf rfl ?_; clear hf a; intro a hf
 replace hf := hf.now (k := 24) (v' := .bool false) rfl (congrArg Value.bool (by first | rfl | simp))
 refine s_do hf (wanted_of hf rfl rfl rfl) (.value (x_move (hf.eval rfl) _) ?_); clear hf a; intro a hf
 refine s_do hf (wanted_of hf rfl rfl rfl) (y_call (hf.eval rfl) (hf.evals rfl) Tryz.call21 ((image_nil _).mono ?_))
 rintro e w1 ⟨rfl, hw9⟩
 rw [hw9]
 clear hw9 w1
 refine ⟨_, rfl, ?_⟩; clear hf a; intro a hf
 refine s_do hf (wanted_of hf rfl rfl rfl) (.value (x_move (hf.eval rfl) _) ?_); clear hf a; intro a hf
 refine s_do hf (wanted_of hf rfl rfl rfl) (y_call (hf.eval rfl) (hf.evals rfl) Tryz.call22 ((rimage_nil _).mono ?_))
 rintro e w1 ⟨rfl, hw9⟩
 rw [hw9]
 clear hw9 w1
 refine ⟨_, rfl, ?_⟩; clear hf a; intro a hf
 refine s_do hf (wanted_of hf rfl rfl rfl) (y_call (hf.eval rfl) (hf.evals rfl) Tryz.call20 ((same_spec _ none 0 [] (rdB_nil _) none 0 [] (rdB_nil _) (by simp)).mono ?_))
 rintro e w1 ⟨rfl, hk9⟩
 replace hs := hs.ext hk9
 refine ⟨_, rfl, ?_⟩; clear hf a; intro a hf
 refine s_do hf (wanted_of hf rfl rfl rfl) (.value (x_not (hf.eval rfl) _) ?_); clear hf a; intro a hf
 refine s_v hf (x_pick_f (hf.eval rfl) (hf.eval rfl)) ?_; clear hf a; intro a hf
 refine s_nil (then_n ?_)
 refine c_cond_f hf rfl (by first | rfl | simp) ?_
 refine wp_skip (then_n (wp_seq (wp_seq (wp_region_lit ?_))))
 refine s_a hf rfl ?_; clear hf a; intro a hf
 refine s_nil (then_n (wp_block ?_))
 refine c_loop (L0 := [(0, _), (1, _), (2, _)]) (fun M w m => ∃ (i : Nat), M = [(7, .int .i64 (i : Int))] ∧ cs.length - i = m ∧ i ≤ cs.length ∧ St ⟨w0, None_⟩ w []) (M0 := [(7, .int .i64 0)]) (⟨0, rfl, rfl, Nat.zero_le _, hs⟩) (hf.sub ⟨rfl, rfl, rfl, rfl, trivial⟩) ?_
 clear hf hs a
 rintro M m a w ⟨i, rfl, rfl, hi, hs⟩ hf
 refine wp_seq (wp_seq (wp_region_lit ?_))
 refine s_m hf rfl ?_; clear hf a; intro a hf
 refine s_m hf rfl ?_; clear hf a; intro a hf
 refine s_v hf (x_len Tryz.underlying46 (hf.eval rfl)) ?_; clear hf a; intro a hf
 refine s_v hf (x_bin (hf.eval rfl) (hf.eval rfl) (r_lt _ _ _ _)) ?_; clear hf a; intro a hf
 refine s_nil (then_n ?_)
 refine c_cond hf rfl (fun hi1 => ?_) (fun hi1 => ?_)
 ·simp only [zd1, zd2, zd3, zd4, zd5, zd6, zd7] at hi1
  have hlt : i < cs.length := by omega
  obtain ⟨ac, rfl⟩ := hrc.some (by omega)
  refine wp_skip (then_n (wp_seq (wp_block (wp_seq (wp_region_lit ?_)))))
  refine s_m hf rfl ?_; clear hf a; intro a hf
  refine s_m hf rfl ?_; clear hf a; intro a hf
  refine s_m hf rfl ?_; clear hf a; intro a hf
  refine s_v hf (x_indexAddr sl46 (hf.eval rfl) (hf.eval rfl) (by omega) (by omega)) ?_; clear hf a; intro a hf
  refine s_r hf (x_loadS (f := chF) ag64 (fun _ => rfl) (hs.old hrc) (hf.eval rfl) (by simpa using hlt)) ?_; clear hf a; intro a hf
  replace hf := hf.now (k := 43) (v' := .agg #[.int .i64 cs[i].1, .slice cs[i].2.1.1 cs[i].2.1.2.2.length cs[i].2.1.2.1, .int .i64 cs[i].2.2]) rfl (rfl)
  refine s_do hf rfl (y_call (hf.eval rfl) (hf.evals rfl) Tryz.call33 ((crash_nil _ _).mono ?_))
  rintro e w1 ⟨rfl, hk9⟩
  replace hs := hs.ext hk9
  refine ⟨_, rfl, ?_⟩; clear hf a; intro a hf
  refine s_m hf rfl ?_; clear hf a; intro a hf
  refine s_v hf (x_extract (hf.eval rfl) rfl) ?_; clear hf a; intro a hf
  refine s_v hf (x_extract (hf.eval rfl) rfl) ?_; clear hf a; intro a hf
  refine s_a hf rfl ?_; clear hf a; intro a hf
  refine s_a hf rfl ?_; clear hf a; intro a hf
  refine s_nil (then_n (wp_seq (wp_region_lit ?_)))
  refine s_m hf rfl ?_; clear hf a; intro a hf
  refine s_m hf rfl ?_; clear hf a; intro a hf
  refine s_m hf rfl ?_; clear hf a; intro a hf
  refine s_v hf (x_indexAddr sl46 (hf.eval rfl) (hf.eval rfl) (by omega) (by omega)) ?_; clear hf a; intro a hf
  refine s_r hf (x_loadS (f := chF) ag64 (fun _ => rfl) (hs.old hrc) (hf.eval rfl) (by simpa using hlt)) ?_; clear hf a; intro a hf
  replace hf := hf.now (k := 52) (v' := .agg #[.int .i64 cs[i].1, .slice cs[i].2.1.1 cs[i].2.1.2.2.length cs[i].2.1.2.1, .int .i64 cs[i].2.2]) rfl (rfl)
  refine s_do hf rfl (y_call (hf.eval rfl) (hf.evals rfl) Tryz.call67 ((rcrash_nil _ _).mono ?_))
  rintro e w1 ⟨rfl, hk9⟩
  replace hs := hs.ext hk9
  refine ⟨_, rfl, ?_⟩; clear hf a; intro a hf
  refine s_m hf rfl ?_; clear hf a; intro a hf
  refine s_v hf (x_extract (hf.eval rfl) rfl) ?_; clear hf a; intro a hf
  refine s_v hf (x_extract (hf.eval rfl) rfl) ?_; clear hf a; intro a hf
  refine s_a hf rfl ?_; clear hf a; intro a hf
  refine s_a hf rfl ?_; clear hf a; intro a hf
  refine s_nil (then_n (wp_seq (wp_region_lit ?_)))
  refine s_m hf rfl ?_; clear hf a; intro a hf
  refine s_do hf rfl (y_call (hf.eval rfl) (hf.evals rfl) Tryz.call21 ((image_nil _).mono ?_))
  rintro e w1 ⟨rfl, hw9⟩
  rw [hw9]
  clear hw9 w1
  refine ⟨_, rfl, ?_⟩; clear hf a; intro a hf
  refine s_m hf rfl ?_; clear hf a; intro a hf
  refine s_do hf rfl (y_call (hf.eval rfl) (hf.evals rfl) Tryz.call22 ((rimage_nil _).mono ?_))
  rintro e w1 ⟨rfl, hw9⟩
  rw [hw9]
  clear hw9 w1
  refine ⟨_, rfl, ?_⟩; clear hf a; intro a hf
  refine s_do hf rfl (y_call (hf.eval rfl) (hf.evals rfl) Tryz.call20 ((same_spec _ none 0 [] (rdB_nil _) none 0 [] (rdB_nil _) (by simp)).mono ?_))
  rintro e w1 ⟨rfl, hk9⟩
  replace hs := hs.ext hk9
  refine ⟨_, rfl, ?_⟩; clear hf a; intro a hf
  refine s_v hf (x_not (hf.eval rfl)) ?_; clear hf a; intro a hf
  refine s_nil (then_n ?_)
  refine c_cond_f hf rfl (by first | rfl | simp) ?_
  refine wp_skip (blk_n (then_n (wp_region_lit ?_)))
  refine s_m hf rfl ?_; clear hf a; intro a hf
  refine s_v hf (x_bin (hf.eval rfl) (hf.eval rfl) (r_addi _ (by omega) (by omega))) ?_; clear hf a; intro a hf
  refine s_a hf rfl ?_; clear hf a; intro a hf
  refine s_nil ?_
  exact ⟨_, _, ⟨i + 1, rfl, rfl, by omega, hs⟩, by omega, hf.sub ⟨rfl, rfl, rfl, rfl, trivial⟩⟩
 simp only [zd1, zd2, zd3, zd4, zd5, zd6, zd7] at hi1
 refine wp_exit (then_x (then_x (blk_x (then_n (wp_seq (wp_region_lit ?_))))))
 refine s_a hf rfl ?_; clear hf a; intro a hf
 refine s_nil (then_n ?_)
 refine wp_ret ?_
 refine r_1 hf Tryz.results27 rfl ?_
 exact ⟨rfl, hs.kept⟩
theorem begin_nil (w0 : World) (seq size : Int) (v : Value) : Calls Tryz.prog 41 #[.pointer none, .int .i64 seq, .int .i64 size, v] w0 fun e w' => e = .returned (.tuple #[.pointer none, .int .i64 1]) ∧ Kept w0 w' None_ := by
 have hs := St.start w0 None_
 refine c_enter (N := 112) Tryz.func41 rfl Tryz.ntmps41 (by simp) ?_
 intro a hf
 refine wp_seq (wp_region_lit ?_)
 refine s_a hf rfl ?_; clear hf a; intro a hf
 refine s_a hf rfl ?_; clear hf a; intro a hf
 refine s_nil (then_n (wp_seq (wp_seq (wp_region_lit ?_))))
 refine s_m hf rfl ?_; clear hf a; intro a hf
 refine s_v hf (x_eqNil Tryz.underlying24 (hf.eval rfl) (hf.eval rfl)) ?_; clear hf a; intro a hf
 replace hf := hf.now (k := 16) (v' := .bool true) rfl rfl
 refine s_m hf rfl ?_; clear hf a; intro a hf
 refine s_pass hf rfl rfl ?_; clear hf a; intro a hf
 refine s_pass hf rfl rfl ?_; clear hf a; intro a hf
 refine s_v hf (x_pick_t (hf.eval rfl) (hf.eval rfl)) ?_; clear hf a; intro a hf
 refine s_m hf rfl ?_; clear hf a; intro a hf
 refine s_pass hf rfl rfl ?_; clear hf a; intro a hf
 refine s_pass hf rfl rfl ?_; clear hf a; intro a hf
 refine s_v hf (x_pick_t (hf.eval rfl) (hf.eval rfl)) ?_; clear hf a; intro a hf
 refine s_m hf rfl ?_; clear hf a; intro a hf
 refine s_pass hf rfl rfl ?_; clear hf a; intro a hf
 refine s_pass hf rfl rfl ?_; clear hf a; intro a hf
 refine s_pass hf rfl rfl ?_; clear hf a; intro a hf
 refine s_v hf (x_pick_t (hf.eval rfl) (hf.eval rfl)) ?_; clear hf a; intro a hf
 refine s_nil (then_n ?_)
 refine c_cond_t hf rfl rfl ?_
 refine wp_seq (wp_region_lit ?_)
 refine s_a hf rfl ?_; clear hf a; intro a hf
 refine s_a hf rfl ?_; clear hf a; intro a hf
 refine s_nil (then_n ?_)
 refine wp_ret ?_
 refine then_r ?_
 refine r_2 hf Tryz.results41 rfl rfl ?_
 exact ⟨rfl, hs.kept⟩
theorem update_nil (w0 : World) (seq size : Int) (v : Value) : Calls Tryz.prog 13 #[.pointer none, .int .i64 seq, .int .i64 size, v] w0 fun e w' => e = .returned (.int .i64 1) ∧ Kept w0 w' None_ := by
 have hs := St.start w0 None_
 refine c_enter (N := 36) Tryz.func13 rfl Tryz.ntmps13 (by simp) ?_
 intro a hf
 refine wp_seq (wp_region_lit ?_)
 refine s_a hf rfl ?_; clear hf a; intro a hf
 refine s_nil (then_n (wp_seq (wp_region_lit ?_)))
 refine s_m hf rfl ?_; clear hf a; intro a hf
 refine s_m hf rfl ?_; clear hf a; intro a hf
 refine s_m hf rfl ?_; clear hf a; intro a hf
 refine s_m hf rfl ?_; clear hf a; intro a hf
 refine s_do hf rfl (y_call (hf.eval rfl) (hf.evals rfl) Tryz.call41 ((begin_nil _ seq size v).mono ?_))
 rintro e w1 ⟨rfl, hk⟩
 replace hs := hs.ext hk
 refine ⟨_, rfl, ?_⟩; clear hf a; intro a hf
 refine s_m hf rfl ?_; clear hf a; intro a hf
 refine s_v hf (x_extract (hf.eval rfl) rfl) ?_; clear hf a; intro a hf
 refine s_v hf (x_extract (hf.eval rfl) rfl) ?_; clear hf a; intro a hf
 refine s_a hf rfl ?_; clear hf a; intro a hf
 refine s_a hf rfl ?_; clear hf a; intro a hf
 refine s_nil (then_n (wp_seq (wp_seq (wp_region_lit ?_))))
 refine s_m hf rfl ?_; clear hf a; intro a hf
 refine s_v hf (x_bin (hf.eval rfl) (hf.eval rfl) (r_ne _ _ _ _)) ?_; clear hf a; intro a hf
 refine s_nil (then_n ?_)
 refine c_cond_t hf rfl (by simp) ?_
 refine wp_seq (wp_region_lit ?_)
 refine s_m hf rfl ?_; clear hf a; intro a hf
 refine s_a hf rfl ?_; clear hf a; intro a hf
 refine s_nil (then_n ?_)
 refine wp_ret ?_
 refine then_r ?_
 refine r_1 hf Tryz.results13 rfl ?_
 exact ⟨rfl, hs.kept⟩
theorem rrefused_nil (w0 : World) (seq size : Int) (v : Value) : Calls Tryz.prog 49 #[.pointer none, .int .i64 seq, .int .i64 size, v] w0 fun e w' => e = .returned (.int .i64 1) ∧ Kept w0 w' None_ := by
 have hs := St.start w0 None_
 refine c_enter (N := 63) Tryz.func49 rfl Tryz.ntmps49 (by simp) ?_
 intro a hf
 refine wp_seq (wp_region_lit ?_)
 refine s_a hf rfl ?_; clear hf a; intro a hf
 refine s_nil (then_n (wp_seq (wp_seq (wp_region_lit ?_))))
 refine s_m hf rfl ?_; clear hf a; intro a hf
 refine s_v hf (x_eqNil Tryz.underlying28 (hf.eval rfl) (hf.eval rfl)) ?_; clear hf a; intro a hf
 replace hf := hf.now (k := 16) (v' := .bool true) rfl rfl
 refine s_m hf rfl ?_; clear hf a; intro a hf
 refine s_pass hf rfl rfl ?_; clear hf a; intro a hf
 refine s_pass hf rfl rfl ?_; clear hf a; intro a hf
 refine s_pass hf rfl rfl ?_; clear hf a; intro a hf
 refine s_v hf (x_pick_t (hf.eval rfl) (hf.eval rfl)) ?_; clear hf a; intro a hf
 refine s_m hf rfl ?_; clear hf a; intro a hf
 refine s_pass hf rfl rfl ?_; clear hf a; intro a hf
 refine s_pass hf rfl rfl ?_; clear hf a; intro a hf
 refine s_pass hf rfl rfl ?_; clear hf a; intro a hf
 refine s_v hf (x_pick_t (hf.eval rfl) (hf.eval rfl)) ?_; clear hf a; intro a hf
 refine s_nil (then_n ?_)
 refine c_cond_t hf rfl rfl ?_
 refine wp_seq (wp_region_lit ?_)
 refine s_a hf rfl ?_; clear hf a; intro a hf
 refine s_nil (then_n ?_)
 refine wp_ret ?_
 refine then_r ?_
 refine r_1 hf Tryz.results49 rfl ?_
 exact ⟨rfl, hs.kept⟩
theorem rupdate_nil (w0 : World) (seq size : Int) (v : Value) : Calls Tryz.prog 14 #[.pointer none, .int .i64 seq, .int .i64 size, v] w0 fun e w' => e = .returned (.int .i64 1) ∧ Kept w0 w' None_ := by
 have hs := St.start w0 None_
 refine c_enter (N := 146) Tryz.func14 rfl Tryz.ntmps14 (by simp) ?_
 intro a hf
 refine wp_seq (wp_region_lit ?_)
 refine s_a hf rfl ?_; clear hf a; intro a hf
 refine s_nil (then_n (wp_seq (wp_region_lit ?_)))
 refine s_m hf rfl ?_; clear hf a; intro a hf
 refine s_m hf rfl ?_; clear hf a; intro a hf
 refine s_m hf rfl ?_; clear hf a; intro a hf
 refine s_m hf rfl ?_; clear hf a; intro a hf
 refine s_do hf rfl (y_call (hf.eval rfl) (hf.evals rfl) Tryz.call49 ((rrefused_nil _ seq size v).mono ?_))
 rintro e w1 ⟨rfl, hk⟩
 replace hs := hs.ext hk
 refine ⟨_, rfl, ?_⟩; clear hf a; intro a hf
 refine s_a hf rfl ?_; clear hf a; intro a hf
 refine s_nil (then_n (wp_seq (wp_seq (wp_region_lit ?_))))
 refine s_m hf rfl ?_; clear hf a; intro a hf
 refine s_v hf (x_bin (hf.eval rfl) (hf.eval rfl) (r_ne _ _ _ _)) ?_; clear hf a; intro a hf
 refine s_nil (then_n ?_)
 refine c_cond_t hf rfl (by simp) ?_
 refine wp_seq (wp_region_lit ?_)
 refine s_m hf rfl ?_; clear hf a; intro a hf
 refine s_a hf rfl ?_; clear hf a; intro a hf
 refine s_nil (then_n ?_)
 refine wp_ret ?_
 refine then_r ?_
 refine r_1 hf Tryz.results14 rfl ?_
 exact ⟨rfl, hs.kept⟩
attribute [local irreducible] Vw.sl Vw.lkV Vw.runS Vw.opsU Vw.opsR Vw.aplR Vw.aplE Vw.updR recV recS Vw.filU Vw.savL rowG Vw.refE
theorem updates_ok (w0 : World) (hT : Tab 0 (hp w0)) (a1 : Option Addr) (c1 : Nat) (image : List UInt8) (hr1 : RdB (hp w0) (.slice a1 image.length c1) image) (hl1 : image.length ≤ 140737488351232) (cap : Int) (seq size : Int) (aw : Option Addr) (cw : Nat) (ws : List Wr) (hrw : RdS wF 2 (hp w0) (.slice aw ws.length cw) ws) (hlw : ws.length ≤ 1048576) (hgd : ∀ z ∈ ws, RdB (hp w0) (.slice z.2.1 z.2.2.2.length z.2.2.1) z.2.2.2 ∧ z.2.2.2.length ≤ 1048576) (fuse : Int) (hfu : fuse ≤ 9223372036854775807) (ac : Option Addr) (cc : Nat) (cs : List ChQ) (hrc : RdS chF 3 (hp w0) (.slice ac cs.length cc) cs) (hgc : ∀ z ∈ cs, ChG (hp w0) z) (hlc : cs.length ≤ 1048576) (hc1 : 0 ≤ cap) (hc2 : cap ≤ 16777216) (hc3 : image.length ≤ cap) : Calls Tryz.prog 4 #[.slice a1 image.length c1, .int .i64 cap, .int .i64 seq, .int .i64 size, .slice aw ws.length cw, .int .i64 fuse, .slice ac cs.length cc] w0 fun e w' => e = .returned (.bool true) ∧ Kept w0 w' None_ := by
 have hs := St.start w0 None_
 have ho0 := newS_ok hc1 hc2 hc3
 have ho1 := fuS_ok ho0 hfu
 have hb1 := fuS_b (newS_b image cap 0) fuse
 have hto := upd_ok ho1 seq size ws
 have htb := upd_b ho1 hb1 seq size ws
 refine c_enter (N := 89) Tryz.func4 rfl Tryz.ntmps4 (by simp) ?_
 intro a hf
 refine wp_seq (wp_region_lit ?_)
 refine s_a hf rfl ?_; clear hf a; intro a hf
 refine s_nil (then_n (wp_seq (wp_region_lit ?_)))
 refine s_m hf rfl ?_; clear hf a; intro a hf
 refine s_m hf rfl ?_; clear hf a; intro a hf
 refine s_do hf rfl (y_call (hf.eval rfl) (hf.evals rfl) Tryz.call7 ((dNew_in _ _ _ image (hs.oldB hr1) hl1 cap hc1 hc2 hc3).mono ?_))
 rintro e w1 ⟨p, rfl, hj⟩
 replace hs := hs.join hj
 simp only [List.cons_append, List.nil_append] at hs
 refine ⟨_, rfl, ?_⟩; clear hf a; intro a hf
 refine s_m hf rfl ?_; clear hf a; intro a hf
 refine s_v hf (x_extract (hf.eval rfl) rfl) ?_; clear hf a; intro a hf
 refine s_v hf (x_extract (hf.eval rfl) rfl) ?_; clear hf a; intro a hf
 refine s_a hf rfl ?_; clear hf a; intro a hf
 refine s_a hf rfl ?_; clear hf a; intro a hf
 refine s_nil (then_n (wp_seq (wp_region_lit ?_)))
 refine s_m hf rfl ?_; clear hf a; intro a hf
 refine s_m hf rfl ?_; clear hf a; intro a hf
 refine s_do hf rfl (y_call (hf.eval rfl) (hf.evals rfl) Tryz.call8 ((rNew_in _ _ _ image (hs.oldB hr1) hl1 cap hc1 hc2 hc3).mono ?_))
 rintro e w1 ⟨q, rfl, hj⟩
 replace hs := hs.join hj
 simp only [List.cons_append, List.nil_append] at hs
 refine ⟨_, rfl, ?_⟩; clear hf a; intro a hf
 refine s_m hf rfl ?_; clear hf a; intro a hf
 refine s_v hf (x_extract (hf.eval rfl) rfl) ?_; clear hf a; intro a hf
 refine s_v hf (x_extract (hf.eval rfl) rfl) ?_; clear hf a; intro a hf
 refine s_a hf rfl ?_; clear hf a; intro a hf
 refine s_a hf rfl ?_; clear hf a; intro a hf
 refine s_nil (then_n (wp_seq (wp_region_lit ?_)))
 refine s_m hf rfl ?_; clear hf a; intro a hf
 refine s_m hf rfl ?_; clear hf a; intro a hf
 replace hs := hs.take (A := diskA 85 127 5 3 p (newS image cap)) (by repeat constructor)
 refine s_do hf rfl (y_call (hf.eval rfl) (hf.evals rfl) Tryz.call9 ((dFuse_spec _ _ _ p _ hs fuse).mono ?_))
 rintro e w1 ⟨rfl, hs⟩
 refine ⟨_, rfl, ?_⟩; clear hf a; intro a hf
 refine s_nil (then_n (wp_seq (wp_region_lit ?_)))
 refine s_m hf rfl ?_; clear hf a; intro a hf
 refine s_m hf rfl ?_; clear hf a; intro a hf
 replace hs := hs.take (A := refA 88 152 5 3 q (newS image cap)) (by repeat constructor)
 refine s_do hf rfl (y_call (hf.eval rfl) (hf.evals rfl) Tryz.call10 ((rFuse_spec _ _ _ q _ hs fuse).mono ?_))
 rintro e w1 ⟨rfl, hs⟩
 refine ⟨_, rfl, ?_⟩; clear hf a; intro a hf
 refine s_nil (then_n (wp_seq (wp_region_lit ?_)))
 refine s_m hf rfl ?_; clear hf a; intro a hf
 refine s_do hf rfl (y_call (hf.eval rfl) (hf.evals rfl) Tryz.call23 ((framedWrites_own _ aw cw ws (hs.old hrw) hlw (fun z hz => ⟨hs.oldB (hgd z hz).1, (hgd z hz).2⟩)).mono ?_))
 rintro e w1 ⟨a5, c5, a6, c6, us, rfl, hul, huk, hj⟩
 replace hs := hs.join hj
 simp only [List.cons_append, List.nil_append] at hs
 refine ⟨_, rfl, ?_⟩; clear hf a; intro a hf
 refine s_m hf rfl ?_; clear hf a; intro a hf
 refine s_v hf (x_extract (hf.eval rfl) rfl) ?_; clear hf a; intro a hf
 refine s_v hf (x_extract (hf.eval rfl) rfl) ?_; clear hf a; intro a hf
 refine s_a hf rfl ?_; clear hf a; intro a hf
 refine s_a hf rfl ?_; clear hf a; intro a hf
 refine s_nil (then_n (wp_seq (wp_region_lit ?_)))
 refine s_m hf rfl ?_; clear hf a; intro a hf
 refine s_m hf rfl ?_; clear hf a; intro a hf
 refine s_m hf rfl ?_; clear hf a; intro a hf
 refine s_m hf rfl ?_; clear hf a; intro a hf
 replace hs := hs.take (A := rowG us.reverse) (by repeat constructor)
 replace hs := hs.take (A := sl 54 2 (.slice a5 us.length c5) us.length (us.flatMap wF)) (by repeat constructor)
 replace hs := hs.take (A := diskA 85 127 5 3 p (fuS (newS image cap) fuse)) (by repeat constructor)
 refine s_do hf rfl (y_call (hf.eval rfl) (hf.evals rfl) Tryz.call13 ((jupdate_spec w0 _ _ p (fuS (newS image cap) fuse) hT hs ho1 0 hb1 (by omega) seq size a5 c5 us (RdyS.own .k0) (by omega) (fun z hz => ⟨rowG_rdy .k1 z hz, dkW_len huk (fun y hy => (hgd y hy).2) z hz⟩)).mono ?_))
 rintro e w1 ⟨rfl, hs⟩
 rw [(dkY_U (dkWY huk) (fuS (newS image cap) fuse) seq size).2.2.2.2] at hs ⊢
 refine ⟨_, rfl, ?_⟩; clear hf a; intro a hf
 refine s_a hf rfl ?_; clear hf a; intro a hf
 refine s_nil (then_n (wp_seq (wp_region_lit ?_)))
 refine s_m hf rfl ?_; clear hf a; intro a hf
 refine s_m hf rfl ?_; clear hf a; intro a hf
 refine s_m hf rfl ?_; clear hf a; intro a hf
 refine s_m hf rfl ?_; clear hf a; intro a hf
 replace hs := hs.take (A := refA 88 152 5 3 q (fuS (newS image cap) fuse)) (by repeat constructor)
 refine s_do hf rfl (y_call (hf.eval rfl) (hf.evals rfl) Tryz.call14 ((rupdate_spec w0 _ _ q (fuS (newS image cap) fuse) hs ho1 0 hb1 (by omega) seq size aw cw ws hrw hlw hgd).mono ?_))
 rintro e w1 ⟨rfl, hs⟩
 obtain ⟨t, ht⟩ : ∃ t, t = (updR (fuS (newS image cap) fuse) seq size ws).2 := ⟨_, rfl⟩
 rw [← ht] at hs hto htb
 refine ⟨_, rfl, ?_⟩; clear hf a; intro a hf
 refine s_a hf rfl ?_; clear hf a; intro a hf
 refine s_nil (then_n (wp_seq (wp_seq (wp_region_lit ?_))))
 refine s_m hf rfl ?_; clear hf a; intro a hf
 refine s_do hf rfl (y_call (hf.eval rfl) (hf.evals rfl) Tryz.call17 ((num_spec _ _).mono ?_))
 rintro e w1 ⟨rfl, hw9⟩
 rw [hw9]
 clear hw9 w1
 refine ⟨_, rfl, ?_⟩; clear hf a; intro a hf
 refine s_m hf rfl ?_; clear hf a; intro a hf
 refine s_v hf (x_bin (hf.eval rfl) (hf.eval rfl) (r_ne _ _ _ _)) ?_; clear hf a; intro a hf
 refine s_m hf rfl ?_; clear hf a; intro a hf
 replace hf := hf.now (k := 61) (v' := .bool false) rfl (congrArg Value.bool (by first | rfl | simp))
 refine s_do hf (wanted_of hf rfl rfl rfl) (.value (x_move (hf.eval rfl) _) ?_); clear hf a; intro a hf
 refine s_do hf (wanted_of hf rfl rfl rfl) (.value (x_move (hf.eval rfl) _) ?_); clear hf a; intro a hf
 have hru : RdS wF 2 (hp _) (.slice a5 us.length c5) us := hs.rd (A := sl 54 2 (.slice a5 us.length c5) us.length (us.flatMap wF)) (by repeat constructor) (fun h hh => sl_rd hh)
 have hra : RdS fA 1 (hp _) (.slice a6 us.length c6) us := hs.rd (A := sl 22 1 (.slice a6 us.length c6) us.length (us.flatMap fA)) (by repeat constructor) (fun h hh => sl_rd hh)
 have hG := seeG (hs.take (A := rowG us.reverse) (by repeat constructor))
 refine s_do hf (wanted_of hf rfl rfl rfl) (y_call (hf.eval rfl) (hf.evals rfl) Tryz.call24 ((sameWrites_spec _ _ _ ws (hs.old hrw) hlw (fun z hz => ⟨hs.oldB (hgd z hz).1, (hgd z hz).2⟩) _ _ us hru hul huk (fun z hz => (hG z hz).pre (RdB.cap (hG z hz)))).mono ?_))
 rintro e w1 ⟨rfl, hk9⟩
 replace hs := hs.ext hk9
 refine ⟨_, rfl, ?_⟩; clear hf a; intro a hf
 refine s_do hf (wanted_of hf rfl rfl rfl) (.value (x_not (hf.eval rfl) _) ?_); clear hf a; intro a hf
 refine s_v hf (x_pick_f (hf.eval rfl) (hf.eval rfl)) ?_; clear hf a; intro a hf
 refine s_m hf rfl ?_; clear hf a; intro a hf
 replace hf := hf.now (k := 67) (v' := .bool false) rfl (congrArg Value.bool (by first | rfl | simp))
 refine s_do hf (wanted_of hf rfl rfl rfl) (.value (x_move (hf.eval rfl) _) ?_); clear hf a; intro a hf
 refine s_do hf (wanted_of hf rfl rfl rfl) (.value (x_move (hf.eval rfl) _) ?_); clear hf a; intro a hf
 have hru : RdS wF 2 (hp _) (.slice a5 us.length c5) us := hs.rd (A := sl 54 2 (.slice a5 us.length c5) us.length (us.flatMap wF)) (by repeat constructor) (fun h hh => sl_rd hh)
 have hra : RdS fA 1 (hp _) (.slice a6 us.length c6) us := hs.rd (A := sl 22 1 (.slice a6 us.length c6) us.length (us.flatMap fA)) (by repeat constructor) (fun h hh => sl_rd hh)
 have hG := seeG (hs.take (A := rowG us.reverse) (by repeat constructor))
 refine s_do hf (wanted_of hf rfl rfl rfl) (y_call (hf.eval rfl) (hf.evals rfl) Tryz.call25 ((wholeAll_spec _ _ _ ws (hs.old hrw) hlw (fun z hz => ⟨hs.oldB (hgd z hz).1, (hgd z hz).2⟩) _ _ us hra hul huk hG).mono ?_))
 rintro e w1 ⟨rfl, hk9⟩
 replace hs := hs.ext hk9
 refine ⟨_, rfl, ?_⟩; clear hf a; intro a hf
 refine s_do hf (wanted_of hf rfl rfl rfl) (.value (x_not (hf.eval rfl) _) ?_); clear hf a; intro a hf
 refine s_v hf (x_pick_f (hf.eval rfl) (hf.eval rfl)) ?_; clear hf a; intro a hf
 refine s_nil (then_n ?_)
 refine c_cond_f hf rfl (by simp) ?_
 refine wp_skip (then_n (wp_seq (wp_seq (wp_region_lit ?_))))
 refine s_a hf rfl ?_; clear hf a; intro a hf
 refine s_nil (then_n (wp_block ?_))
 replace hs := hs.take (A := refA 88 152 5 3 q t) (by repeat constructor)
 replace hs := hs.take (A := diskA 85 127 5 3 p t) (by repeat constructor)
 replace hs := hs.take (A := sl 54 2 (.slice a5 us.length c5) us.length (us.flatMap wF)) (by repeat constructor)
 replace hs := hs.take (A := rowG us.reverse) (by repeat constructor)
 replace hs := rowG_fwd (St.keep [_, _, _, _] _ hs)
 refine c_loop (L0 := [(6, _), (14, _), (15, _), (17, _), (19, _)]) (fun M w m => ∃ (i : Nat), M = [(23, .int .i64 (i : Int))] ∧ us.length - i = m ∧ i ≤ us.length ∧ St ⟨w0, None_⟩ w [rowG (us.drop i), sl 54 2 (.slice a5 us.length c5) us.length (us.flatMap wF), diskA 85 127 5 3 p t, refA 88 152 5 3 q t]) (M0 := [(23, .int .i64 0)]) (⟨0, rfl, rfl, Nat.zero_le _, by rw [List.drop_zero]; exact hs⟩) (hf.sub ⟨rfl, rfl, rfl, rfl, rfl, rfl, trivial⟩) ?_
 clear hf hs a
 rintro M m a w ⟨i, rfl, rfl, hi, hs⟩ hf
 refine wp_seq (wp_seq (wp_region_lit ?_))
 refine s_m hf rfl ?_; clear hf a; intro a hf
 refine s_m hf rfl ?_; clear hf a; intro a hf
 refine s_v hf (x_len Tryz.underlying23 (hf.eval rfl)) ?_; clear hf a; intro a hf
 refine s_v hf (x_bin (hf.eval rfl) (hf.eval rfl) (r_lt _ _ _ _)) ?_; clear hf a; intro a hf
 refine s_nil (then_n ?_)
 refine c_cond hf rfl (fun hi1 => ?_) (fun hi1 => ?_)
 ·first | simp only [zd1, zd2, zd3, zd4, ne_eq, Classical.not_not] at hi1 | skip
  have hlt : i < us.length := by omega
  have hru : RdS wF 2 (hp _) (.slice a5 us.length c5) us := hs.rd (A := sl 54 2 (.slice a5 us.length c5) us.length (us.flatMap wF)) (by repeat constructor) (fun h hh => sl_rd hh)
  obtain ⟨a5, rfl⟩ := hru.some (by omega)
  have hls9 := dkW_len huk (fun y hy => (hgd y hy).2) _ (List.getElem_mem hlt)
  replace hs := rowG_cut hlt hs
  obtain ⟨b9, hb9⟩ := slB_blk hs (by simp)
  refine wp_skip (then_n (wp_seq (wp_block (wp_region_lit ?_))))
  refine s_m hf rfl ?_; clear hf a; intro a hf
  refine s_m hf rfl ?_; clear hf a; intro a hf
  refine s_v hf (x_indexAddr sl23 (hf.eval rfl) (hf.eval rfl) (by omega) (by omega)) ?_; clear hf a; intro a hf
  refine s_v hf (x_fieldAddrG fo54_1 (hf.eval rfl)) ?_; clear hf a; intro a hf
  refine s_r hf (x_loadF (k := 1) (i := i) (f := wF) (l := us) (u := .slice us[i].2.1 us[i].2.2.2.length us[i].2.2.1) sc22 (by intro _; rfl) hru (hf.eval rfl) hlt rfl) ?_; clear hf a; intro a hf
  replace hf := hf.now (k := 83) (v' := .slice (some ⟨b9, 0, none⟩) us[i].2.2.2.length us[i].2.2.1) rfl (by rw [hb9])
  unfold fullV at hs
  rw [hb9, show us[i].2.2.2.length + 4 = (us[i].2.2.2 ++ ([0xC0, 0xC1, 0xC2, 0xC3] : List UInt8)).length by simp] at hs
  refine s_do hf rfl (y_call (hf.eval rfl) (hf.evals rfl) Tryz.call26 ((spoil_spec _ _ _ b9 us[i].2.2.2.length us[i].2.2.1 (us[i].2.2.2 ++ [0xC0, 0xC1, 0xC2, 0xC3]) (by simp) (by simp; omega) hs).mono ?_))
  rintro e w1 ⟨rfl, hs⟩
  refine ⟨_, rfl, ?_⟩; clear hf a; intro a hf
  refine s_nil (blk_n (then_n (wp_region_lit ?_)))
  refine s_m hf rfl ?_; clear hf a; intro a hf
  refine s_v hf (x_bin (hf.eval rfl) (hf.eval rfl) (r_addi _ (by omega) (by omega))) ?_; clear hf a; intro a hf
  refine s_a hf rfl ?_; clear hf a; intro a hf
  refine s_nil ?_
  exact ⟨_, _, ⟨i + 1, rfl, rfl, by omega, hs⟩, by omega, hf.sub ⟨rfl, rfl, rfl, rfl, rfl, rfl, trivial⟩⟩
 first | simp only [zd1, zd2, zd3, zd4, ne_eq, Classical.not_not] at hi1 | skip
 refine wp_exit (then_x (then_x (blk_x (then_n (wp_seq (wp_region_lit ?_))))))
 refine s_m hf rfl ?_; clear hf a; intro a hf
 refine s_m hf rfl ?_; clear hf a; intro a hf
 refine s_m hf rfl ?_; clear hf a; intro a hf
 replace hs := hs.take (A := refA 88 152 5 3 q t) (by repeat constructor)
 replace hs := hs.take (A := diskA 85 127 5 3 p t) (by repeat constructor)
 refine s_do hf rfl (y_call (hf.eval rfl) (hf.evals rfl) Tryz.call27 ((alike_spec w0 _ _ p q t hs hto _ htb (by omega) ac cc cs hrc hgc hlc).mono ?_))
 rintro e w1 ⟨rfl, hk9⟩
 have hs9 : Kept w0 w1 None_ := hk9
 replace hs : St ⟨w0, None_⟩ w1 [] := ⟨hk9, fun _ => none, by simp, trivial⟩
 refine ⟨_, rfl, ?_⟩; clear hf a; intro a hf
 refine s_a hf rfl ?_; clear hf a; intro a hf
 refine s_nil (then_n ?_)
 refine wp_ret ?_
 refine r_1 hf Tryz.results4 rfl ?_
 exact ⟨rfl, hs.kept⟩
theorem updates_b1 (w0 : World) (hT : Tab 0 (hp w0)) (a1 : Option Addr) (c1 : Nat) (image : List UInt8) (hr1 : RdB (hp w0) (.slice a1 image.length c1) image) (hl1 : image.length ≤ 140737488351232) (cap : Int) (seq size : Int) (aw : Option Addr) (cw : Nat) (ws : List Wr) (hrw : RdS wF 2 (hp w0) (.slice aw ws.length cw) ws) (hlw : ws.length ≤ 1048576) (hgd : ∀ z ∈ ws, RdB (hp w0) (.slice z.2.1 z.2.2.2.length z.2.2.1) z.2.2.2 ∧ z.2.2.2.length ≤ 1048576) (fuse : Int) (hfu : fuse ≤ 9223372036854775807) (ac : Option Addr) (cc : Nat) (cs : List ChQ) (hrc : RdS chF 3 (hp w0) (.slice ac cs.length cc) cs) (hgc : ∀ z ∈ cs, ChG (hp w0) z) (hlc : cs.length ≤ 1048576) (hc : cap < 0 ∨ 16777216 < cap): Calls Tryz.prog 4 #[.slice a1 image.length c1, .int .i64 cap, .int .i64 seq, .int .i64 size, .slice aw ws.length cw, .int .i64 fuse, .slice ac cs.length cc] w0 fun e w' => e = .returned (.bool true) ∧ Kept w0 w' None_ := by
 have hs := St.start w0 None_
 refine c_enter (N := 89) Tryz.func4 rfl Tryz.ntmps4 (by simp) ?_
 intro a hf
 refine wp_seq (wp_region_lit ?_)
 refine s_a hf rfl ?_; clear hf a; intro a hf
 refine s_nil (then_n (wp_seq (wp_region_lit ?_)))
 refine s_m hf rfl ?_; clear hf a; intro a hf
 refine s_m hf rfl ?_; clear hf a; intro a hf
 refine s_do hf rfl (y_call (hf.eval rfl) (hf.evals rfl) Tryz.call7 ((dNew_b1 _ _ _ image (hs.oldB hr1) hl1 cap hc).mono ?_))
 rintro e w1 ⟨rfl, hk9⟩
 replace hs := hs.ext hk9
 refine ⟨_, rfl, ?_⟩; clear hf a; intro a hf
 refine s_m hf rfl ?_; clear hf a; intro a hf
 refine s_v hf (x_extract (hf.eval rfl) rfl) ?_; clear hf a; intro a hf
 refine s_v hf (x_extract (hf.eval rfl) rfl) ?_; clear hf a; intro a hf
 refine s_a hf rfl ?_; clear hf a; intro a hf
 refine s_a hf rfl ?_; clear hf a; intro a hf
 refine s_nil (then_n (wp_seq (wp_region_lit ?_)))
 refine s_m hf rfl ?_; clear hf a; intro a hf
 refine s_m hf rfl ?_; clear hf a; intro a hf
 refine s_do hf rfl (y_call (hf.eval rfl) (hf.evals rfl) Tryz.call8 ((rNew_b1 _ _ _ image (hs.oldB hr1) hl1 cap hc).mono ?_))
 rintro e w1 ⟨rfl, hk9⟩
 replace hs := hs.ext hk9
 refine ⟨_, rfl, ?_⟩; clear hf a; intro a hf
 refine s_m hf rfl ?_; clear hf a; intro a hf
 refine s_v hf (x_extract (hf.eval rfl) rfl) ?_; clear hf a; intro a hf
 refine s_v hf (x_extract (hf.eval rfl) rfl) ?_; clear hf a; intro a hf
 refine s_a hf rfl ?_; clear hf a; intro a hf
 refine s_a hf rfl ?_; clear hf a; intro a hf
 refine s_nil (then_n (wp_seq (wp_region_lit ?_)))
 refine s_m hf rfl ?_; clear hf a; intro a hf
 refine s_m hf rfl ?_; clear hf a; intro a hf
 refine s_do hf rfl (y_call (hf.eval rfl) (hf.evals rfl) Tryz.call9 ((fuse_nil _ fuse).mono ?_))
 rintro e w1 ⟨rfl, hw9⟩
 rw [hw9]
 clear hw9 w1
 refine ⟨_, rfl, ?_⟩; clear hf a; intro a hf
 refine s_nil (then_n (wp_seq (wp_region_lit ?_)))
 refine s_m hf rfl ?_; clear hf a; intro a hf
 refine s_m hf rfl ?_; clear hf a; intro a hf
 refine s_do hf rfl (y_call (hf.eval rfl) (hf.evals rfl) Tryz.call10 ((rfuse_nil _ fuse).mono ?_))
 rintro e w1 ⟨rfl, hw9⟩
 rw [hw9]
 clear hw9 w1
 refine ⟨_, rfl, ?_⟩; clear hf a; intro a hf
 refine s_nil (then_n (wp_seq (wp_region_lit ?_)))
 refine s_m hf rfl ?_; clear hf a; intro a hf
 refine s_do hf rfl (y_call (hf.eval rfl) (hf.evals rfl) Tryz.call23 ((framedWrites_own _ aw cw ws (hs.old hrw) hlw (fun z hz => ⟨hs.oldB (hgd z hz).1, (hgd z hz).2⟩)).mono ?_))
 rintro e w1 ⟨a5, c5, a6, c6, us, rfl, hul, huk, hj⟩
 replace hs := hs.join hj
 simp only [List.cons_append, List.nil_append] at hs
 refine ⟨_, rfl, ?_⟩; clear hf a; intro a hf
 refine s_m hf rfl ?_; clear hf a; intro a hf
 refine s_v hf (x_extract (hf.eval rfl) rfl) ?_; clear hf a; intro a hf
 refine s_v hf (x_extract (hf.eval rfl) rfl) ?_; clear hf a; intro a hf
 refine s_a hf rfl ?_; clear hf a; intro a hf
 refine s_a hf rfl ?_; clear hf a; intro a hf
 refine s_nil (then_n (wp_seq (wp_region_lit ?_)))
 refine s_m hf rfl ?_; clear hf a; intro a hf
 refine s_m hf rfl ?_; clear hf a; intro a hf
 refine s_m hf rfl ?_; clear hf a; intro a hf
 refine s_m hf rfl ?_; clear hf a; intro a hf
 refine s_do hf rfl (y_call (hf.eval rfl) (hf.evals rfl) Tryz.call13 ((update_nil _ seq size _).mono ?_))
 rintro e w1 ⟨rfl, hk9⟩
 replace hs := hs.ext hk9
 refine ⟨_, rfl, ?_⟩; clear hf a; intro a hf
 refine s_a hf rfl ?_; clear hf a; intro a hf
 refine s_nil (then_n (wp_seq (wp_region_lit ?_)))
 refine s_m hf rfl ?_; clear hf a; intro a hf
 refine s_m hf rfl ?_; clear hf a; intro a hf
 refine s_m hf rfl ?_; clear hf a; intro a hf
 refine s_m hf rfl ?_; clear hf a; intro a hf
 refine s_do hf rfl (y_call (hf.eval rfl) (hf.evals rfl) Tryz.call14 ((rupdate_nil _ seq size _).mono ?_))
 rintro e w1 ⟨rfl, hk9⟩
 replace hs := hs.ext hk9
 refine ⟨_, rfl, ?_⟩; clear hf a; intro a hf
 refine s_a hf rfl ?_; clear hf a; intro a hf
 refine s_nil (then_n (wp_seq (wp_seq (wp_region_lit ?_))))
 refine s_m hf rfl ?_; clear hf a; intro a hf
 refine s_do hf rfl (y_call (hf.eval rfl) (hf.evals rfl) Tryz.call17 ((num_spec _ _).mono ?_))
 rintro e w1 ⟨rfl, hw9⟩
 rw [hw9]
 clear hw9 w1
 refine ⟨_, rfl, ?_⟩; clear hf a; intro a hf
 refine s_m hf rfl ?_; clear hf a; intro a hf
 refine s_v hf (x_bin (hf.eval rfl) (hf.eval rfl) (r_ne _ _ _ _)) ?_; clear hf a; intro a hf
 refine s_m hf rfl ?_; clear hf a; intro a hf
 replace hf := hf.now (k := 61) (v' := .bool false) rfl (congrArg Value.bool (by first | rfl | simp))
 refine s_do hf (wanted_of hf rfl rfl rfl) (.value (x_move (hf.eval rfl) _) ?_); clear hf a; intro a hf
 refine s_do hf (wanted_of hf rfl rfl rfl) (.value (x_move (hf.eval rfl) _) ?_); clear hf a; intro a hf
 have hru : RdS wF 2 (hp _) (.slice a5 us.length c5) us := hs.rd (A := sl 54 2 (.slice a5 us.length c5) us.length (us.flatMap wF)) (by repeat constructor) (fun h hh => sl_rd hh)
 have hra : RdS fA 1 (hp _) (.slice a6 us.length c6) us := hs.rd (A := sl 22 1 (.slice a6 us.length c6) us.length (us.flatMap fA)) (by repeat constructor) (fun h hh => sl_rd hh)
 have hG := seeG (hs.take (A := rowG us.reverse) (by repeat constructor))
 refine s_do hf (wanted_of hf rfl rfl rfl) (y_call (hf.eval rfl) (hf.evals rfl) Tryz.call24 ((sameWrites_spec _ _ _ ws (hs.old hrw) hlw (fun z hz => ⟨hs.oldB (hgd z hz).1, (hgd z hz).2⟩) _ _ us hru hul huk (fun z hz => (hG z hz).pre (RdB.cap (hG z hz)))).mono ?_))
 rintro e w1 ⟨rfl, hk9⟩
 replace hs := hs.ext hk9
 refine ⟨_, rfl, ?_⟩; clear hf a; intro a hf
 refine s_do hf (wanted_of hf rfl rfl rfl) (.value (x_not (hf.eval rfl) _) ?_); clear hf a; intro a hf
 refine s_v hf (x_pick_f (hf.eval rfl) (hf.eval rfl)) ?_; clear hf a; intro a hf
 refine s_m hf rfl ?_; clear hf a; intro a hf
 replace hf := hf.now (k := 67) (v' := .bool false) rfl (congrArg Value.bool (by first | rfl | simp))
 refine s_do hf (wanted_of hf rfl rfl rfl) (.value (x_move (hf.eval rfl) _) ?_); clear hf a; intro a hf
 refine s_do hf (wanted_of hf rfl rfl rfl) (.value (x_move (hf.eval rfl) _) ?_); clear hf a; intro a hf
 have hru : RdS wF 2 (hp _) (.slice a5 us.length c5) us := hs.rd (A := sl 54 2 (.slice a5 us.length c5) us.length (us.flatMap wF)) (by repeat constructor) (fun h hh => sl_rd hh)
 have hra : RdS fA 1 (hp _) (.slice a6 us.length c6) us := hs.rd (A := sl 22 1 (.slice a6 us.length c6) us.length (us.flatMap fA)) (by repeat constructor) (fun h hh => sl_rd hh)
 have hG := seeG (hs.take (A := rowG us.reverse) (by repeat constructor))
 refine s_do hf (wanted_of hf rfl rfl rfl) (y_call (hf.eval rfl) (hf.evals rfl) Tryz.call25 ((wholeAll_spec _ _ _ ws (hs.old hrw) hlw (fun z hz => ⟨hs.oldB (hgd z hz).1, (hgd z hz).2⟩) _ _ us hra hul huk hG).mono ?_))
 rintro e w1 ⟨rfl, hk9⟩
 replace hs := hs.ext hk9
 refine ⟨_, rfl, ?_⟩; clear hf a; intro a hf
 refine s_do hf (wanted_of hf rfl rfl rfl) (.value (x_not (hf.eval rfl) _) ?_); clear hf a; intro a hf
 refine s_v hf (x_pick_f (hf.eval rfl) (hf.eval rfl)) ?_; clear hf a; intro a hf
 refine s_nil (then_n ?_)
 refine c_cond_f hf rfl (by simp) ?_
 refine wp_skip (then_n (wp_seq (wp_seq (wp_region_lit ?_))))
 refine s_a hf rfl ?_; clear hf a; intro a hf
 refine s_nil (then_n (wp_block ?_))
 replace hs := hs.take (A := sl 54 2 (.slice a5 us.length c5) us.length (us.flatMap wF)) (by repeat constructor)
 replace hs := hs.take (A := rowG us.reverse) (by repeat constructor)
 replace hs := rowG_fwd (St.keep [_, _] _ hs)
 refine c_loop (L0 := [(6, _), (14, _), (15, _), (17, _), (19, _)]) (fun M w m => ∃ (i : Nat), M = [(23, .int .i64 (i : Int))] ∧ us.length - i = m ∧ i ≤ us.length ∧ St ⟨w0, None_⟩ w [rowG (us.drop i), sl 54 2 (.slice a5 us.length c5) us.length (us.flatMap wF)]) (M0 := [(23, .int .i64 0)]) (⟨0, rfl, rfl, Nat.zero_le _, by rw [List.drop_zero]; exact hs⟩) (hf.sub ⟨rfl, rfl, rfl, rfl, rfl, rfl, trivial⟩) ?_
 clear hf hs a
 rintro M m a w ⟨i, rfl, rfl, hi, hs⟩ hf
 refine wp_seq (wp_seq (wp_region_lit ?_))
 refine s_m hf rfl ?_; clear hf a; intro a hf
 refine s_m hf rfl ?_; clear hf a; intro a hf
 refine s_v hf (x_len Tryz.underlying23 (hf.eval rfl)) ?_; clear hf a; intro a hf
 refine s_v hf (x_bin (hf.eval rfl) (hf.eval rfl) (r_lt _ _ _ _)) ?_; clear hf a; intro a hf
 refine s_nil (then_n ?_)
 refine c_cond hf rfl (fun hi1 => ?_) (fun hi1 => ?_)
 ·first | simp only [zd1, zd2, zd3, zd4, ne_eq, Classical.not_not] at hi1 | skip
  have hlt : i < us.length := by omega
  have hru : RdS wF 2 (hp _) (.slice a5 us.length c5) us := hs.rd (A := sl 54 2 (.slice a5 us.length c5) us.length (us.flatMap wF)) (by repeat constructor) (fun h hh => sl_rd hh)
  obtain ⟨a5, rfl⟩ := hru.some (by omega)
  have hls9 := dkW_len huk (fun y hy => (hgd y hy).2) _ (List.getElem_mem hlt)
  replace hs := rowG_cut hlt hs
  obtain ⟨b9, hb9⟩ := slB_blk hs (by simp)
  refine wp_skip (then_n (wp_seq (wp_block (wp_region_lit ?_))))
  refine s_m hf rfl ?_; clear hf a; intro a hf
  refine s_m hf rfl ?_; clear hf a; intro a hf
  refine s_v hf (x_indexAddr sl23 (hf.eval rfl) (hf.eval rfl) (by omega) (by omega)) ?_; clear hf a; intro a hf
  refine s_v hf (x_fieldAddrG fo54_1 (hf.eval rfl)) ?_; clear hf a; intro a hf
  refine s_r hf (x_loadF (k := 1) (i := i) (f := wF) (l := us) (u := .slice us[i].2.1 us[i].2.2.2.length us[i].2.2.1) sc22 (by intro _; rfl) hru (hf.eval rfl) hlt rfl) ?_; clear hf a; intro a hf
  replace hf := hf.now (k := 83) (v' := .slice (some ⟨b9, 0, none⟩) us[i].2.2.2.length us[i].2.2.1) rfl (by rw [hb9])
  unfold fullV at hs
  rw [hb9, show us[i].2.2.2.length + 4 = (us[i].2.2.2 ++ ([0xC0, 0xC1, 0xC2, 0xC3] : List UInt8)).length by simp] at hs
  refine s_do hf rfl (y_call (hf.eval rfl) (hf.evals rfl) Tryz.call26 ((spoil_spec _ _ _ b9 us[i].2.2.2.length us[i].2.2.1 (us[i].2.2.2 ++ [0xC0, 0xC1, 0xC2, 0xC3]) (by simp) (by simp; omega) hs).mono ?_))
  rintro e w1 ⟨rfl, hs⟩
  refine ⟨_, rfl, ?_⟩; clear hf a; intro a hf
  refine s_nil (blk_n (then_n (wp_region_lit ?_)))
  refine s_m hf rfl ?_; clear hf a; intro a hf
  refine s_v hf (x_bin (hf.eval rfl) (hf.eval rfl) (r_addi _ (by omega) (by omega))) ?_; clear hf a; intro a hf
  refine s_a hf rfl ?_; clear hf a; intro a hf
  refine s_nil ?_
  exact ⟨_, _, ⟨i + 1, rfl, rfl, by omega, hs⟩, by omega, hf.sub ⟨rfl, rfl, rfl, rfl, rfl, rfl, trivial⟩⟩
 first | simp only [zd1, zd2, zd3, zd4, ne_eq, Classical.not_not] at hi1 | skip
 refine wp_exit (then_x (then_x (blk_x (then_n (wp_seq (wp_region_lit ?_))))))
 refine s_m hf rfl ?_; clear hf a; intro a hf
 refine s_m hf rfl ?_; clear hf a; intro a hf
 refine s_m hf rfl ?_; clear hf a; intro a hf
 refine s_do hf rfl (y_call (hf.eval rfl) (hf.evals rfl) Tryz.call27 ((alike_nil _ ac cc cs (hs.old hrc) (fun z hz => ⟨hs.old (hgc z hz).rd, (hgc z hz).len⟩) hlc).mono ?_))
 rintro e w1 ⟨rfl, hk9⟩
 replace hs := hs.ext hk9
 refine ⟨_, rfl, ?_⟩; clear hf a; intro a hf
 refine s_a hf rfl ?_; clear hf a; intro a hf
 refine s_nil (then_n ?_)
 refine wp_ret ?_
 refine r_1 hf Tryz.results4 rfl ?_
 exact ⟨rfl, hs.kept⟩
theorem updates_b2 (w0 : World) (hT : Tab 0 (hp w0)) (a1 : Option Addr) (c1 : Nat) (image : List UInt8) (hr1 : RdB (hp w0) (.slice a1 image.length c1) image) (hl1 : image.length ≤ 140737488351232) (cap : Int) (seq size : Int) (aw : Option Addr) (cw : Nat) (ws : List Wr) (hrw : RdS wF 2 (hp w0) (.slice aw ws.length cw) ws) (hlw : ws.length ≤ 1048576) (hgd : ∀ z ∈ ws, RdB (hp w0) (.slice z.2.1 z.2.2.2.length z.2.2.1) z.2.2.2 ∧ z.2.2.2.length ≤ 1048576) (fuse : Int) (hfu : fuse ≤ 9223372036854775807) (ac : Option Addr) (cc : Nat) (cs : List ChQ) (hrc : RdS chF 3 (hp w0) (.slice ac cs.length cc) cs) (hgc : ∀ z ∈ cs, ChG (hp w0) z) (hlc : cs.length ≤ 1048576) (hc1 : 0 ≤ cap) (hc2 : cap ≤ 16777216) (hc3 : cap < image.length): Calls Tryz.prog 4 #[.slice a1 image.length c1, .int .i64 cap, .int .i64 seq, .int .i64 size, .slice aw ws.length cw, .int .i64 fuse, .slice ac cs.length cc] w0 fun e w' => e = .returned (.bool true) ∧ Kept w0 w' None_ := by
 have hs := St.start w0 None_
 refine c_enter (N := 89) Tryz.func4 rfl Tryz.ntmps4 (by simp) ?_
 intro a hf
 refine wp_seq (wp_region_lit ?_)
 refine s_a hf rfl ?_; clear hf a; intro a hf
 refine s_nil (then_n (wp_seq (wp_region_lit ?_)))
 refine s_m hf rfl ?_; clear hf a; intro a hf
 refine s_m hf rfl ?_; clear hf a; intro a hf
 refine s_do hf rfl (y_call (hf.eval rfl) (hf.evals rfl) Tryz.call7 ((dNew_b2 _ _ _ image (hs.oldB hr1) hl1 cap hc1 hc2 hc3).mono ?_))
 rintro e w1 ⟨rfl, hk9⟩
 replace hs := hs.ext hk9
 refine ⟨_, rfl, ?_⟩; clear hf a; intro a hf
 refine s_m hf rfl ?_; clear hf a; intro a hf
 refine s_v hf (x_extract (hf.eval rfl) rfl) ?_; clear hf a; intro a hf
 refine s_v hf (x_extract (hf.eval rfl) rfl) ?_; clear hf a; intro a hf
 refine s_a hf rfl ?_; clear hf a; intro a hf
 refine s_a hf rfl ?_; clear hf a; intro a hf
 refine s_nil (then_n (wp_seq (wp_region_lit ?_)))
 refine s_m hf rfl ?_; clear hf a; intro a hf
 refine s_m hf rfl ?_; clear hf a; intro a hf
 refine s_do hf rfl (y_call (hf.eval rfl) (hf.evals rfl) Tryz.call8 ((rNew_b2 _ _ _ image (hs.oldB hr1) hl1 cap hc1 hc2 hc3).mono ?_))
 rintro e w1 ⟨rfl, hk9⟩
 replace hs := hs.ext hk9
 refine ⟨_, rfl, ?_⟩; clear hf a; intro a hf
 refine s_m hf rfl ?_; clear hf a; intro a hf
 refine s_v hf (x_extract (hf.eval rfl) rfl) ?_; clear hf a; intro a hf
 refine s_v hf (x_extract (hf.eval rfl) rfl) ?_; clear hf a; intro a hf
 refine s_a hf rfl ?_; clear hf a; intro a hf
 refine s_a hf rfl ?_; clear hf a; intro a hf
 refine s_nil (then_n (wp_seq (wp_region_lit ?_)))
 refine s_m hf rfl ?_; clear hf a; intro a hf
 refine s_m hf rfl ?_; clear hf a; intro a hf
 refine s_do hf rfl (y_call (hf.eval rfl) (hf.evals rfl) Tryz.call9 ((fuse_nil _ fuse).mono ?_))
 rintro e w1 ⟨rfl, hw9⟩
 rw [hw9]
 clear hw9 w1
 refine ⟨_, rfl, ?_⟩; clear hf a; intro a hf
 refine s_nil (then_n (wp_seq (wp_region_lit ?_)))
 refine s_m hf rfl ?_; clear hf a; intro a hf
 refine s_m hf rfl ?_; clear hf a; intro a hf
 refine s_do hf rfl (y_call (hf.eval rfl) (hf.evals rfl) Tryz.call10 ((rfuse_nil _ fuse).mono ?_))
 rintro e w1 ⟨rfl, hw9⟩
 rw [hw9]
 clear hw9 w1
 refine ⟨_, rfl, ?_⟩; clear hf a; intro a hf
 refine s_nil (then_n (wp_seq (wp_region_lit ?_)))
 refine s_m hf rfl ?_; clear hf a; intro a hf
 refine s_do hf rfl (y_call (hf.eval rfl) (hf.evals rfl) Tryz.call23 ((framedWrites_own _ aw cw ws (hs.old hrw) hlw (fun z hz => ⟨hs.oldB (hgd z hz).1, (hgd z hz).2⟩)).mono ?_))
 rintro e w1 ⟨a5, c5, a6, c6, us, rfl, hul, huk, hj⟩
 replace hs := hs.join hj
 simp only [List.cons_append, List.nil_append] at hs
 refine ⟨_, rfl, ?_⟩; clear hf a; intro a hf
 refine s_m hf rfl ?_; clear hf a; intro a hf
 refine s_v hf (x_extract (hf.eval rfl) rfl) ?_; clear hf a; intro a hf
 refine s_v hf (x_extract (hf.eval rfl) rfl) ?_; clear hf a; intro a hf
 refine s_a hf rfl ?_; clear hf a; intro a hf
 refine s_a hf rfl ?_; clear hf a; intro a hf
 refine s_nil (then_n (wp_seq (wp_region_lit ?_)))
 refine s_m hf rfl ?_; clear hf a; intro a hf
 refine s_m hf rfl ?_; clear hf a; intro a hf
 refine s_m hf rfl ?_; clear hf a; intro a hf
 refine s_m hf rfl ?_; clear hf a; intro a hf
 refine s_do hf rfl (y_call (hf.eval rfl) (hf.evals rfl) Tryz.call13 ((update_nil _ seq size _).mono ?_))
 rintro e w1 ⟨rfl, hk9⟩
 replace hs := hs.ext hk9
 refine ⟨_, rfl, ?_⟩; clear hf a; intro a hf
 refine s_a hf rfl ?_; clear hf a; intro a hf
 refine s_nil (then_n (wp_seq (wp_region_lit ?_)))
 refine s_m hf rfl ?_; clear hf a; intro a hf
 refine s_m hf rfl ?_; clear hf a; intro a hf
 refine s_m hf rfl ?_; clear hf a; intro a hf
 refine s_m hf rfl ?_; clear hf a; intro a hf
 refine s_do hf rfl (y_call (hf.eval rfl) (hf.evals rfl) Tryz.call14 ((rupdate_nil _ seq size _).mono ?_))
 rintro e w1 ⟨rfl, hk9⟩
 replace hs := hs.ext hk9
 refine ⟨_, rfl, ?_⟩; clear hf a; intro a hf
 refine s_a hf rfl ?_; clear hf a; intro a hf
 refine s_nil (then_n (wp_seq (wp_seq (wp_region_lit ?_))))
 refine s_m hf rfl ?_; clear hf a; intro a hf
 refine s_do hf rfl (y_call (hf.eval rfl) (hf.evals rfl) Tryz.call17 ((num_spec _ _).mono ?_))
 rintro e w1 ⟨rfl, hw9⟩
 rw [hw9]
 clear hw9 w1
 refine ⟨_, rfl, ?_⟩; clear hf a; intro a hf
 refine s_m hf rfl ?_; clear hf a; intro a hf
 refine s_v hf (x_bin (hf.eval rfl) (hf.eval rfl) (r_ne _ _ _ _)) ?_; clear hf a; intro a hf
 refine s_m hf rfl ?_; clear hf a; intro a hf
 replace hf := hf.now (k := 61) (v' := .bool false) rfl (congrArg Value.bool (by first | rfl | simp))
 refine s_do hf (wanted_of hf rfl rfl rfl) (.value (x_move (hf.eval rfl) _) ?_); clear hf a; intro a hf
 refine s_do hf (wanted_of hf rfl rfl rfl) (.value (x_move (hf.eval rfl) _) ?_); clear hf a; intro a hf
 have hru : RdS wF 2 (hp _) (.slice a5 us.length c5) us := hs.rd (A := sl 54 2 (.slice a5 us.length c5) us.length (us.flatMap wF)) (by repeat constructor) (fun h hh => sl_rd hh)
 have hra : RdS fA 1 (hp _) (.slice a6 us.length c6) us := hs.rd (A := sl 22 1 (.slice a6 us.length c6) us.length (us.flatMap fA)) (by repeat constructor) (fun h hh => sl_rd hh)
 have hG := seeG (hs.take (A := rowG us.reverse) (by repeat constructor))
 refine s_do hf (wanted_of hf rfl rfl rfl) (y_call (hf.eval rfl) (hf.evals rfl) Tryz.call24 ((sameWrites_spec _ _ _ ws (hs.old hrw) hlw (fun z hz => ⟨hs.oldB (hgd z hz).1, (hgd z hz).2⟩) _ _ us hru hul huk (fun z hz => (hG z hz).pre (RdB.cap (hG z hz)))).mono ?_))
 rintro e w1 ⟨rfl, hk9⟩
 replace hs := hs.ext hk9
 refine ⟨_, rfl, ?_⟩; clear hf a; intro a hf
 refine s_do hf (wanted_of hf rfl rfl rfl) (.value (x_not (hf.eval rfl) _) ?_); clear hf a; intro a hf
 refine s_v hf (x_pick_f (hf.eval rfl) (hf.eval rfl)) ?_; clear hf a; intro a hf
 refine s_m hf rfl ?_; clear hf a; intro a hf
 replace hf := hf.now (k := 67) (v' := .bool false) rfl (congrArg Value.bool (by first | rfl | simp))
 refine s_do hf (wanted_of hf rfl rfl rfl) (.value (x_move (hf.eval rfl) _) ?_); clear hf a; intro a hf
 refine s_do hf (wanted_of hf rfl rfl rfl) (.value (x_move (hf.eval rfl) _) ?_); clear hf a; intro a hf
 have hru : RdS wF 2 (hp _) (.slice a5 us.length c5) us := hs.rd (A := sl 54 2 (.slice a5 us.length c5) us.length (us.flatMap wF)) (by repeat constructor) (fun h hh => sl_rd hh)
 have hra : RdS fA 1 (hp _) (.slice a6 us.length c6) us := hs.rd (A := sl 22 1 (.slice a6 us.length c6) us.length (us.flatMap fA)) (by repeat constructor) (fun h hh => sl_rd hh)
 have hG := seeG (hs.take (A := rowG us.reverse) (by repeat constructor))
 refine s_do hf (wanted_of hf rfl rfl rfl) (y_call (hf.eval rfl) (hf.evals rfl) Tryz.call25 ((wholeAll_spec _ _ _ ws (hs.old hrw) hlw (fun z hz => ⟨hs.oldB (hgd z hz).1, (hgd z hz).2⟩) _ _ us hra hul huk hG).mono ?_))
 rintro e w1 ⟨rfl, hk9⟩
 replace hs := hs.ext hk9
 refine ⟨_, rfl, ?_⟩; clear hf a; intro a hf
 refine s_do hf (wanted_of hf rfl rfl rfl) (.value (x_not (hf.eval rfl) _) ?_); clear hf a; intro a hf
 refine s_v hf (x_pick_f (hf.eval rfl) (hf.eval rfl)) ?_; clear hf a; intro a hf
 refine s_nil (then_n ?_)
 refine c_cond_f hf rfl (by simp) ?_
 refine wp_skip (then_n (wp_seq (wp_seq (wp_region_lit ?_))))
 refine s_a hf rfl ?_; clear hf a; intro a hf
 refine s_nil (then_n (wp_block ?_))
 replace hs := hs.take (A := sl 54 2 (.slice a5 us.length c5) us.length (us.flatMap wF)) (by repeat constructor)
 replace hs := hs.take (A := rowG us.reverse) (by repeat constructor)
 replace hs := rowG_fwd (St.keep [_, _] _ hs)
 refine c_loop (L0 := [(6, _), (14, _), (15, _), (17, _), (19, _)]) (fun M w m => ∃ (i : Nat), M = [(23, .int .i64 (i : Int))] ∧ us.length - i = m ∧ i ≤ us.length ∧ St ⟨w0, None_⟩ w [rowG (us.drop i), sl 54 2 (.slice a5 us.length c5) us.length (us.flatMap wF)]) (M0 := [(23, .int .i64 0)]) (⟨0, rfl, rfl, Nat.zero_le _, by rw [List.drop_zero]; exact hs⟩) (hf.sub ⟨rfl, rfl, rfl, rfl, rfl, rfl, trivial⟩) ?_
 clear hf hs a
 rintro M m a w ⟨i, rfl, rfl, hi, hs⟩ hf
 refine wp_seq (wp_seq (wp_region_lit ?_))
 refine s_m hf rfl ?_; clear hf a; intro a hf
 refine s_m hf rfl ?_; clear hf a; intro a hf
 refine s_v hf (x_len Tryz.underlying23 (hf.eval rfl)) ?_; clear hf a; intro a hf
 refine s_v hf (x_bin (hf.eval rfl) (hf.eval rfl) (r_lt _ _ _ _)) ?_; clear hf a; intro a hf
 refine s_nil (then_n ?_)
 refine c_cond hf rfl (fun hi1 => ?_) (fun hi1 => ?_)
 ·first | simp only [zd1, zd2, zd3, zd4, ne_eq, Classical.not_not] at hi1 | skip
  have hlt : i < us.length := by omega
  have hru : RdS wF 2 (hp _) (.slice a5 us.length c5) us := hs.rd (A := sl 54 2 (.slice a5 us.length c5) us.length (us.flatMap wF)) (by repeat constructor) (fun h hh => sl_rd hh)
  obtain ⟨a5, rfl⟩ := hru.some (by omega)
  have hls9 := dkW_len huk (fun y hy => (hgd y hy).2) _ (List.getElem_mem hlt)
  replace hs := rowG_cut hlt hs
  obtain ⟨b9, hb9⟩ := slB_blk hs (by simp)
  refine wp_skip (then_n (wp_seq (wp_block (wp_region_lit ?_))))
  refine s_m hf rfl ?_; clear hf a; intro a hf
  refine s_m hf rfl ?_; clear hf a; intro a hf
  refine s_v hf (x_indexAddr sl23 (hf.eval rfl) (hf.eval rfl) (by omega) (by omega)) ?_; clear hf a; intro a hf
  refine s_v hf (x_fieldAddrG fo54_1 (hf.eval rfl)) ?_; clear hf a; intro a hf
  refine s_r hf (x_loadF (k := 1) (i := i) (f := wF) (l := us) (u := .slice us[i].2.1 us[i].2.2.2.length us[i].2.2.1) sc22 (by intro _; rfl) hru (hf.eval rfl) hlt rfl) ?_; clear hf a; intro a hf
  replace hf := hf.now (k := 83) (v' := .slice (some ⟨b9, 0, none⟩) us[i].2.2.2.length us[i].2.2.1) rfl (by rw [hb9])
  unfold fullV at hs
  rw [hb9, show us[i].2.2.2.length + 4 = (us[i].2.2.2 ++ ([0xC0, 0xC1, 0xC2, 0xC3] : List UInt8)).length by simp] at hs
  refine s_do hf rfl (y_call (hf.eval rfl) (hf.evals rfl) Tryz.call26 ((spoil_spec _ _ _ b9 us[i].2.2.2.length us[i].2.2.1 (us[i].2.2.2 ++ [0xC0, 0xC1, 0xC2, 0xC3]) (by simp) (by simp; omega) hs).mono ?_))
  rintro e w1 ⟨rfl, hs⟩
  refine ⟨_, rfl, ?_⟩; clear hf a; intro a hf
  refine s_nil (blk_n (then_n (wp_region_lit ?_)))
  refine s_m hf rfl ?_; clear hf a; intro a hf
  refine s_v hf (x_bin (hf.eval rfl) (hf.eval rfl) (r_addi _ (by omega) (by omega))) ?_; clear hf a; intro a hf
  refine s_a hf rfl ?_; clear hf a; intro a hf
  refine s_nil ?_
  exact ⟨_, _, ⟨i + 1, rfl, rfl, by omega, hs⟩, by omega, hf.sub ⟨rfl, rfl, rfl, rfl, rfl, rfl, trivial⟩⟩
 first | simp only [zd1, zd2, zd3, zd4, ne_eq, Classical.not_not] at hi1 | skip
 refine wp_exit (then_x (then_x (blk_x (then_n (wp_seq (wp_region_lit ?_))))))
 refine s_m hf rfl ?_; clear hf a; intro a hf
 refine s_m hf rfl ?_; clear hf a; intro a hf
 refine s_m hf rfl ?_; clear hf a; intro a hf
 refine s_do hf rfl (y_call (hf.eval rfl) (hf.evals rfl) Tryz.call27 ((alike_nil _ ac cc cs (hs.old hrc) (fun z hz => ⟨hs.old (hgc z hz).rd, (hgc z hz).len⟩) hlc).mono ?_))
 rintro e w1 ⟨rfl, hk9⟩
 replace hs := hs.ext hk9
 refine ⟨_, rfl, ?_⟩; clear hf a; intro a hf
 refine s_a hf rfl ?_; clear hf a; intro a hf
 refine s_nil (then_n ?_)
 refine wp_ret ?_
 refine r_1 hf Tryz.results4 rfl ?_
 exact ⟨rfl, hs.kept⟩
theorem updates_spec (w0 : World) (hT : Tab 0 (hp w0)) (a1 : Option Addr) (c1 : Nat) (image : List UInt8) (hr1 : RdB (hp w0) (.slice a1 image.length c1) image) (hl1 : image.length ≤ 140737488351232) (cap : Int) (seq size : Int) (aw : Option Addr) (cw : Nat) (ws : List Wr) (hrw : RdS wF 2 (hp w0) (.slice aw ws.length cw) ws) (hlw : ws.length ≤ 1048576) (hgd : ∀ z ∈ ws, RdB (hp w0) (.slice z.2.1 z.2.2.2.length z.2.2.1) z.2.2.2 ∧ z.2.2.2.length ≤ 1048576) (fuse : Int) (hfu : fuse ≤ 9223372036854775807) (ac : Option Addr) (cc : Nat) (cs : List ChQ) (hrc : RdS chF 3 (hp w0) (.slice ac cs.length cc) cs) (hgc : ∀ z ∈ cs, ChG (hp w0) z) (hlc : cs.length ≤ 1048576) : Calls Tryz.prog 4 #[.slice a1 image.length c1, .int .i64 cap, .int .i64 seq, .int .i64 size, .slice aw ws.length cw, .int .i64 fuse, .slice ac cs.length cc] w0 fun e w' => e = .returned (.bool true) ∧ Kept w0 w' None_ := by
  by_cases h1 : cap < 0 ∨ 16777216 < cap
  · exact updates_b1 w0 hT a1 c1 image hr1 hl1 cap seq size aw cw ws hrw hlw hgd fuse hfu ac cc cs hrc hgc hlc h1
  · by_cases h2 : cap < image.length
    · exact updates_b2 w0 hT a1 c1 image hr1 hl1 cap seq size aw cw ws hrw hlw hgd fuse hfu ac cc cs hrc hgc hlc (by omega) (by omega) h2
    · exact updates_ok w0 hT a1 c1 image hr1 hl1 cap seq size aw cw ws hrw hlw hgd fuse hfu ac cc cs hrc hgc hlc (by omega) (by omega) (by omega)
end Go.Proofs.YtehakfbfjpolfaaGreatDoor
