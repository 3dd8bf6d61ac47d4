/- Texts 15 of 16 that the law rests on: the small library, contracts of functions, printed by a program. -/
import Derived.Test.YtehakfbfjpolfaaGreatDoorProg
import Derived.Test.YtehakfbfjpolfaaGreatDoorOo1
import Derived.Test.YtehakfbfjpolfaaGreatDoorOo2
import Derived.Test.YtehakfbfjpolfaaGreatDoorOo3
import Derived.Test.YtehakfbfjpolfaaGreatDoorOo4
import Derived.Test.YtehakfbfjpolfaaGreatDoorOo5
import Derived.Test.YtehakfbfjpolfaaGreatDoorOo6
import Derived.Test.YtehakfbfjpolfaaGreatDoorOo7
import Derived.Test.YtehakfbfjpolfaaGreatDoorOo8
import Derived.Test.YtehakfbfjpolfaaGreatDoorOo9
import Derived.Test.YtehakfbfjpolfaaGreatDoorOo10
import Derived.Test.YtehakfbfjpolfaaGreatDoorOo11
import Derived.Test.YtehakfbfjpolfaaGreatDoorOo12
import Derived.Test.YtehakfbfjpolfaaGreatDoorOo13
import Derived.Test.YtehakfbfjpolfaaGreatDoorOo14
set_option maxRecDepth 100000
set_option linter.all false
namespace Go.Proofs.YtehakfbfjpolfaaGreatDoor
open Go Vw
theorem dNew_in (w0 : World) (a1 : Option Addr) (c1 : Nat) (image : List UInt8) (hr1 : RdB (hp w0) (.slice a1 image.length c1) image) (hl1 : image.length ≤ 140737488351232) (cap : Int) (hc1 : 0 ≤ cap) (hc2 : cap ≤ 16777216) (hc3 : image.length ≤ cap) : Calls Tryz.prog 7 #[.slice a1 image.length c1, .int .i64 cap] w0 fun e w' => ∃ p, e = .returned (.tuple #[.pointer (some ⟨p, 0, none⟩), .int .i64 0]) ∧ St ⟨w0, None_⟩ w' [diskA 85 127 5 3 p (newS image cap)] := by
  refine (dNew_ok w0 a1 c1 image hr1 hl1 cap hc1 hc2 hc3).mono fun e w' h => ?_
  obtain ⟨p, v1, v2, m, rfl, hs⟩ := h
  refine ⟨p, rfl, ?_⟩
  replace hs := St.give (L := _) (hs.emp (A := entsA 127 5 []) (fun _ => trivial)) .k4
  replace hs := St.give (L := _) (hs.emp (A := sl 3 1 (.slice none 0 0) 0 []) (fun _ => ⟨rfl, .inl ⟨rfl, rfl⟩⟩)) .k5
  exact diskA_close (s := newS image cap) (x := ⟨v1, v2, m, .slice none 0 0, [], 0⟩) (MOk.nil 0) Grp.nil hs
theorem upTo_spec (w : World) (k n : Int) : Calls Tryz.prog 72 #[.int .i64 k, .int .i64 n] w fun e w' => e = .returned (.int .i64 (max 0 (min k n))) ∧ w' = w := by
 refine c_enter (N := 9) Tryz.func72 rfl Tryz.ntmps72 (by simp) ?_
 intro a hf
 refine wp_seq ?_
 refine wp_region_lit ?_
 refine s_a hf rfl ?_; clear hf a; intro a hf
 refine s_nil ?_
 refine then_n ?_
 refine wp_seq ?_
 refine wp_region_lit ?_
 refine s_m hf rfl ?_; clear hf a; intro a hf
 refine s_m hf rfl ?_; clear hf a; intro a hf
 refine s_v hf (x_minI (hf.eval rfl) (hf.eval rfl)) ?_; clear hf a; intro a hf
 refine s_v hf (x_maxI (hf.eval rfl) (hf.eval rfl)) ?_; clear hf a; intro a hf
 refine s_a hf rfl ?_; clear hf a; intro a hf
 refine s_nil ?_
 refine then_n ?_
 refine wp_ret ?_
 refine r_1 hf Tryz.results72 rfl ?_
 exact ⟨rfl, rfl⟩
theorem dCrash_spec (σ : Sig) (w : World) (R : List Asrt) (p : Nat) (s : DS) (hs : St σ w (diskA 85 127 5 3 p s :: R)) (csz : Int) (ac : Option Addr) (cc : Nat) (secs : List Int) (rest : Int) (ho : DOk s) (hrc : RdyS iF 1 σ R (.slice ac secs.length cc) secs) (hsz : s.sizes.length ≤ 1099511600000) (hpc : s.pcs.length ≤ 1099511600000) : Calls Tryz.prog 33 #[.pointer (some ⟨p, 0, none⟩), .agg #[.int .i64 csz, .slice ac secs.length cc, .int .i64 rest]] w fun e w' => ∃ p', e = .returned (.tuple #[.pointer (some ⟨p', 0, none⟩), .int .i64 0]) ∧ St σ w' (diskA 85 127 5 3 p' (newS (outS s (csz, secs, rest)) s.room) :: diskA 85 127 5 3 p (kilS s) :: R) := by
 have hroom0 := ho.room0
 have hroom1 := ho.room1
 obtain ⟨⟨v1, v2, mp, v4, es, clk⟩, hm, hg, hs⟩ := diskA_open hs
 dsimp only at hm hg hs
 obtain ⟨a1, c1, rfl, hc1⟩ := slB_shape (hs.take .k1)
 obtain ⟨a2, c2, rfl, hc2⟩ := slB_shape (hs.take .k2)
 obtain ⟨a4, c4, rfl⟩ := sl_shape (hs.take .k5)
 refine c_enter (N := 103) Tryz.func33 rfl Tryz.ntmps33 (by simp) ?_
 intro a hf
 refine wp_seq ?_
 refine wp_region_lit ?_
 refine s_do hf rfl (y_box hs (hf.eval rfl) ?_); clear hf hs a; intro cb0 w hs a hf
 replace hs : St σ w (cb cb0 64 [.int .i64 csz, .slice ac secs.length cc, .int .i64 rest] :: _) := hs
 refine s_a hf rfl ?_; clear hf a; intro a hf
 refine s_a hf rfl ?_; clear hf a; intro a hf
 refine s_nil ?_
 refine then_n ?_
 refine wp_seq ?_
 refine wp_seq ?_
 refine wp_region_lit ?_
 refine s_m hf rfl ?_; clear hf a; intro a hf
 refine s_v hf (x_eqNil Tryz.underlying24 (hf.eval rfl) (hf.eval rfl)) ?_; clear hf a; intro a hf
 replace hf := hf.now (k := 15) (v' := .bool false) rfl rfl
 refine s_nil ?_
 refine then_n ?_
 refine c_cond_f hf rfl rfl ?_
 refine wp_skip ?_
 refine then_n ?_
 refine wp_seq ?_
 refine wp_region_lit ?_
 refine s_m hf rfl ?_; clear hf a; intro a hf
 refine s_v hf (x_nilCheck (hf.eval rfl)) ?_; clear hf a; intro a hf
 refine s_v hf (x_fieldAddr fo85_7 (hf.eval rfl)) ?_; clear hf a; intro a hf
 refine s_do0 hf rfl (y_store hs sc4 (hf.eval rfl) (hf.eval rfl) rfl (by first | exact .k0 | exact .k1 | exact .k2 | exact .k3 | exact .k4 | exact .k5) (by simp) ?_); clear hf hs a; intro w hs a hf
 replace hs : St σ w (cb cb0 _ _ :: dcell 85 p (kilS s) ⟨.slice a1 s.now.length c1, .slice a2 s.dur.length c2, mp, .slice a4 s.sizes.length c4, es, clk⟩ :: _) := hs
 refine s_nil ?_
 refine then_n ?_
 refine wp_seq ?_
 refine wp_region_lit ?_
 refine s_m hf rfl ?_; clear hf a; intro a hf
 refine s_v hf (x_nilCheck (hf.eval rfl)) ?_; clear hf a; intro a hf
 refine s_v hf (x_fieldAddr fo85_2 (hf.eval rfl)) ?_; clear hf a; intro a hf
 refine s_r hf (x_load sc22 (hf.eval rfl) (by first | exact hs.cell .k0 rfl | exact hs.cell .k1 rfl | exact hs.cell .k2 rfl | exact hs.cell .k3 rfl | exact hs.cell .k4 rfl | exact hs.cell .k5 rfl)) ?_; clear hf a; intro a hf
 refine s_v hf (x_len Tryz.underlying22 (hf.eval rfl)) ?_; clear hf a; intro a hf
 refine s_a hf rfl ?_; clear hf a; intro a hf
 refine s_nil ?_
 refine then_n ?_
 refine wp_seq ?_
 refine wp_seq ?_
 refine c_draw hs (fun _ => True) [.held, .read, .held, .held, .held, .read, .held, .eff, .held] (by kernel_rfl) (by kernel_rfl) (fun _ _ _ => trivial) ?_
 clear hs; intro w hs hC hw
 refine m_held hf rfl (fun w' _ => x_fieldAddr fo64_0 (hf.eval rfl) w') ?_; clear hf a; intro a hf
 refine m_read hf rfl (x_load sc3 (hf.eval rfl) (by first | exact hs.cell .k0 rfl | exact hs.cell .k1 rfl | exact hs.cell .k2 rfl | exact hs.cell .k3 rfl | exact hs.cell .k4 rfl | exact hs.cell .k5 rfl)) ?_; clear hf a; intro a hf
 refine m_held hf rfl (fun w' _ => x_move (hf.eval rfl) w') ?_; clear hf a; intro a hf
 refine m_held hf rfl (fun w' _ => x_nilCheck (hf.eval rfl) w') ?_; clear hf a; intro a hf
 refine m_held hf rfl (fun w' _ => x_fieldAddr fo85_4 (hf.eval rfl) w') ?_; clear hf a; intro a hf
 refine m_read hf rfl (x_load sc62 (hf.eval rfl) (by first | exact hs.cell .k0 rfl | exact hs.cell .k1 rfl | exact hs.cell .k2 rfl | exact hs.cell .k3 rfl | exact hs.cell .k4 rfl | exact hs.cell .k5 rfl)) ?_; clear hf a; intro a hf
 refine m_held hf rfl (fun w' _ => x_len Tryz.underlying62 (hf.eval rfl) w') ?_; clear hf a; intro a hf
 refine m_eff hf rfl (y_call (hf.eval rfl) (hf.evals rfl) Tryz.call72 ((upTo_spec _ csz s.sizes.length).mono ?_))
 rintro e w1 ⟨rfl, rfl⟩
 refine ⟨_, rfl, ⟨trivial, ?_⟩⟩; clear hf a; intro a hf
 refine m_held hf rfl (fun w' _ => x_assign (hf.eval rfl) w') ?_; clear hf a; intro a hf
 replace hf := hf.now (k := 7) (v' := .int .i64 (max 0 (szIx s (csz, secs, rest)))) rfl (rfl)
 refine m_nil ?_
 refine then_n ?_
 refine wp_seq ?_
 refine wp_region_lit ?_
 refine s_m hf rfl ?_; clear hf a; intro a hf
 refine s_v hf (x_bin (hf.eval rfl) (hf.eval rfl) (r_gt _ _ _ _)) ?_; clear hf a; intro a hf
 refine s_nil ?_
 refine then_n ?_
 refine c_cond hf rfl (fun hi1 => ?_) (fun hi1 => ?_)
 ·simp only [zd1, zd2, zd3, zd4, zd5, zd6, zd7] at hi1
  have hix : 0 < szIx s (csz, secs, rest) := by omega
  have hix2 : szIx s (csz, secs, rest) ≤ s.sizes.length := by unfold szIx; omega
  obtain ⟨a4, rfl⟩ := sl_some (hs.take .k6) (by omega)
  refine wp_region_lit ?_
  refine s_m hf rfl ?_; clear hf a; intro a hf
  refine s_v hf (x_nilCheck (hf.eval rfl)) ?_; clear hf a; intro a hf
  refine s_v hf (x_fieldAddr fo85_4 (hf.eval rfl)) ?_; clear hf a; intro a hf
  refine s_r hf (x_load sc62 (hf.eval rfl) (by first | exact hs.cell .k0 rfl | exact hs.cell .k1 rfl | exact hs.cell .k2 rfl | exact hs.cell .k3 rfl | exact hs.cell .k4 rfl | exact hs.cell .k5 rfl)) ?_; clear hf a; intro a hf
  refine s_m hf rfl ?_; clear hf a; intro a hf
  refine s_v hf (x_bin (hf.eval rfl) (hf.eval rfl) (r_subi _ (by omega) (by omega))) ?_; clear hf a; intro a hf
  replace hf := hf.now (k := 39) (v' := .int .i64 (((szIx s (csz, secs, rest)).toNat - 1 : Nat) : Int)) rfl (by congr 1; omega)
  refine s_v hf (x_indexAddr sl62 (hf.eval rfl) (hf.eval rfl) (by omega) (by omega)) ?_; clear hf a; intro a hf
  refine s_r hf (x_loadC hs sc3 .k6 (hf.eval rfl) (szC_get (i := (szIx s (csz, secs, rest)).toNat - 1) (by omega))) ?_; clear hf a; intro a hf
  refine s_a hf rfl ?_; clear hf a; intro a hf
  replace hf := hf.now (k := 6) (v' := .int .i64 (outN s (csz, secs, rest) : Int)) rfl (by rw [outN_some hix])
  refine s_nil ?_
  refine then_n ?_
  refine wp_seq ?_
  refine wp_region_lit ?_
  refine s_m hf rfl ?_; clear hf a; intro a hf
  have hoN := outN_le ho (csz, secs, rest)
  refine s_do hf rfl (y_makeB (m := outN s (csz, secs, rest)) (c := outN s (csz, secs, rest)) hs sl22 (hf.eval rfl) (hf.eval rfl) rfl rfl (Nat.le_refl _) (by omega) ?_); clear hf hs a; intro fb w hs a hf
  refine s_a hf rfl ?_; clear hf a; intro a hf
  refine s_nil ?_
  refine then_n ?_
  refine wp_seq ?_
  refine wp_region_lit ?_
  refine s_m hf rfl ?_; clear hf a; intro a hf
  refine s_m hf rfl ?_; clear hf a; intro a hf
  refine s_v hf (x_nilCheck (hf.eval rfl)) ?_; clear hf a; intro a hf
  refine s_v hf (x_fieldAddr fo85_2 (hf.eval rfl)) ?_; clear hf a; intro a hf
  refine s_r hf (x_load sc22 (hf.eval rfl) (by first | exact hs.cell .k0 rfl | exact hs.cell .k1 rfl | exact hs.cell .k2 rfl | exact hs.cell .k3 rfl | exact hs.cell .k4 rfl | exact hs.cell .k5 rfl)) ?_; clear hf a; intro a hf
  refine s_do hf rfl (y_copyB (o := 0) (cur' := spl (List.replicate (outN s (csz, secs, rest)) 0) 0 (s.dur.take (min s.dur.length (outN s (csz, secs, rest))))) hs sl22 (hf.eval rfl) (hf.eval rfl) (fun _ => rfl) (hs.rdB .k4 fun h => slB_rd) rfl .k0 rfl (by simp) ?_); clear hf hs a; intro w hs a hf
  obtain ⟨out0, ho0⟩ : ∃ o, o = spl (List.replicate (outN s (csz, secs, rest)) 0) 0 (s.dur.take (min s.dur.length (outN s (csz, secs, rest)))) := ⟨_, rfl⟩
  rw [← ho0] at hs
  obtain ⟨hd1, hd2⟩ := dur_start s _ ho0
  refine s_nil ?_
  refine then_n ?_
  refine wp_seq ?_
  refine wp_seq ?_
  refine wp_region_lit ?_
  refine s_m hf rfl ?_; clear hf a; intro a hf
  refine s_v hf (x_nilCheck (hf.eval rfl)) ?_; clear hf a; intro a hf
  refine s_v hf (x_fieldAddr fo85_3 (hf.eval rfl)) ?_; clear hf a; intro a hf
  refine s_r hf (x_load sc83 (hf.eval rfl) (by first | exact hs.cell .k0 rfl | exact hs.cell .k1 rfl | exact hs.cell .k2 rfl | exact hs.cell .k3 rfl | exact hs.cell .k4 rfl | exact hs.cell .k5 rfl)) ?_; clear hf a; intro a hf
  refine s_do hf rfl (y_range hs Tryz.underlying83 (hf.eval rfl) .k5 ?_); clear hf hs a; intro r w hs a hf
  refine s_nil ?_
  refine then_n ?_
  refine wp_block ?_
  refine c_loop (L0 := [(0, _), (3, _), (4, _), (5, _), (6, _), (8, _), (54, _)]) (fun M w m => ∃ (seen : Array Nat) (out : List UInt8), M = [] ∧ (es.filter fun x => decide (x.born ∉ seen.toList)).length = m ∧ Fnd s (csz, secs, rest) es seen.toList out ∧ St σ w (blk r (.mapIter (some mp) clk seen clk) :: bb fb 5 (out) :: cb cb0 64 [.int .i64 csz, .slice ac secs.length cc, .int .i64 rest] :: dcell 85 p (kilS s) ⟨.slice a1 s.now.length c1, .slice a2 s.dur.length c2, mp, .slice a4 s.sizes.length c4, es, clk⟩ :: slB 5 (.slice a1 s.now.length c1) s.now :: slB 5 (.slice a2 s.dur.length c2) s.dur :: mapA mp es clk :: entsA 127 5 es :: sl 3 1 (.slice a4 s.sizes.length c4) s.sizes.length (szC s.sizes) :: R)) (M0 := _) (⟨#[], out0, rfl, rfl, fnd_start s (csz, secs, rest) es hd1 hd2, hs⟩) (hf.sub ⟨rfl, rfl, rfl, rfl, rfl, rfl, rfl, trivial⟩) ?_
  clear hf hs a
  rintro M m a w ⟨seen, out, rfl, rfl, hfd, hs⟩ hf
  clear hd1 hd2
  refine wp_seq ?_
  refine wp_region_lit ?_
  refine s_do hf rfl (y_nextB hs (hf.eval rfl) .k5 hm ?_); clear hf hs a; intro b e w hs hbt hbf a hf
  refine s_v hf (x_extract (hf.eval rfl) (nxt_0 b e)) ?_; clear hf a; intro a hf
  refine s_nil ?_
  refine then_n ?_
  refine wp_seq ?_
  refine c_cond hf rfl (fun hi2 => ?_) (fun hi2 => ?_)
  ·obtain ⟨he, hns⟩ := hbt hi2
   subst hi2
   replace hs : St σ w (blk r (.mapIter (some mp) clk (seen.push e.born) clk) :: bb fb 5 (out) :: cb cb0 64 [.int .i64 csz, .slice ac secs.length cc, .int .i64 rest] :: dcell 85 p (kilS s) ⟨.slice a1 s.now.length c1, .slice a2 s.dur.length c2, mp, .slice a4 s.sizes.length c4, es, clk⟩ :: slB 5 (.slice a1 s.now.length c1) s.now :: slB 5 (.slice a2 s.dur.length c2) s.dur :: mapA mp es clk :: entsA 127 5 es :: sl 3 1 (.slice a4 s.sizes.length c4) s.sizes.length (szC s.sizes) :: R) := hs
   clear hbt hbf
   obtain ⟨⟨ea, ec, hev⟩, hrd0, _⟩ := hs.ents .k7 he
   rw [hev] at hrd0
   have hec := RdC.cap hrd0
   clear hrd0
   refine wp_skip ?_
   refine then_n ?_
   refine wp_block ?_
   refine wp_seq ?_
   refine wp_region_lit ?_
   refine s_r hf (x_entry (hf.eval rfl) hs.head (hs.blk_at .k6) he hm) ?_; clear hf a; intro a hf
   replace hf := hf.now (k := 57) (v' := .tuple #[.int .i64 (e.sec : Int), .slice ea e.ps.length ec]) rfl (by rw [hev])
   refine s_v hf (x_extract (hf.eval rfl) rfl) ?_; clear hf a; intro a hf
   refine s_v hf (x_extract (hf.eval rfl) rfl) ?_; clear hf a; intro a hf
   refine s_a hf rfl ?_; clear hf a; intro a hf
   refine s_a hf rfl ?_; clear hf a; intro a hf
   refine s_nil ?_
   refine then_n ?_
   refine wp_seq ?_
   refine wp_region_lit ?_
   refine s_v hf (x_fieldAddr fo64_2 (hf.eval rfl)) ?_; clear hf a; intro a hf
   refine s_r hf (x_load sc3 (hf.eval rfl) (by first | exact hs.cell .k0 rfl | exact hs.cell .k1 rfl | exact hs.cell .k2 rfl | exact hs.cell .k3 rfl | exact hs.cell .k4 rfl | exact hs.cell .k5 rfl)) ?_; clear hf a; intro a hf
   refine s_a hf rfl ?_; clear hf a; intro a hf
   refine s_nil ?_
   refine then_n ?_
   refine wp_seq ?_
   refine wp_seq ?_
   refine wp_region_lit ?_
   refine s_m hf rfl ?_; clear hf a; intro a hf
   refine s_v hf (x_fieldAddr fo64_1 (hf.eval rfl)) ?_; clear hf a; intro a hf
   refine s_r hf (x_load sc62 (hf.eval rfl) (by first | exact hs.cell .k0 rfl | exact hs.cell .k1 rfl | exact hs.cell .k2 rfl | exact hs.cell .k3 rfl | exact hs.cell .k4 rfl | exact hs.cell .k5 rfl)) ?_; clear hf a; intro a hf
   refine s_v hf (x_len Tryz.underlying62 (hf.eval rfl)) ?_; clear hf a; intro a hf
   refine s_v hf (x_bin (hf.eval rfl) (hf.eval rfl) (r_lt _ _ _ _)) ?_; clear hf a; intro a hf
   refine s_nil ?_
   refine then_n ?_
   refine c_cond hf rfl (fun hi3 => ?_) (fun hi3 => ?_)
   ·simp only [zd1, zd2, zd3, zd4, zd5, zd6, zd7] at hi3
    have hsl : e.sec < secs.length := by omega
    have hrd := hrc _ [_, _, _, _, _, _, _, _, _] hs
    obtain ⟨ac, rfl⟩ := hrd.some (by omega)
    clear hrd
    refine wp_region_lit ?_
    refine s_v hf (x_fieldAddr fo64_1 (hf.eval rfl)) ?_; clear hf a; intro a hf
    refine s_r hf (x_load sc62 (hf.eval rfl) (by first | exact hs.cell .k0 rfl | exact hs.cell .k1 rfl | exact hs.cell .k2 rfl | exact hs.cell .k3 rfl | exact hs.cell .k4 rfl | exact hs.cell .k5 rfl)) ?_; clear hf a; intro a hf
    refine s_m hf rfl ?_; clear hf a; intro a hf
    refine s_v hf (x_indexAddr sl62 (hf.eval rfl) (hf.eval rfl) (by omega) (by omega)) ?_; clear hf a; intro a hf
    refine s_r hf (x_loadI sc3 (hrc _ [_, _, _, _, _, _, _, _, _] hs) rfl (hf.eval rfl) (by simpa using hsl)) ?_; clear hf a; intro a hf
    refine s_a hf rfl ?_; clear hf a; intro a hf
    replace hf := hf.now (k := 11) (v' := .int .i64 (keepOf (csz, secs, rest) e.sec)) rfl (by rw [keepOf_in (c := (csz, secs, rest)) hsl]; rfl)
    refine s_nil ?_
    refine then_n ?_
    refine wp_seq ?_
    refine wp_region_lit ?_
    refine s_m hf rfl ?_; clear hf a; intro a hf
    refine s_m hf rfl ?_; clear hf a; intro a hf
    refine s_m hf rfl ?_; clear hf a; intro a hf
    refine s_v hf (x_len Tryz.underlying125 (hf.eval rfl)) ?_; clear hf a; intro a hf
    refine s_do hf rfl (y_call (hf.eval rfl) (hf.evals rfl) Tryz.call72 ((upTo_spec _ (keepOf (csz, secs, rest) e.sec) e.ps.length).mono ?_))
    rintro e w1 ⟨rfl, rfl⟩
    obtain ⟨N, hN⟩ : ∃ N : Nat, (N : Int) = max 0 (min (keepOf (csz, secs, rest) e.sec) (e.ps.length : Int)) := ⟨(max 0 (min (keepOf (csz, secs, rest) e.sec) (e.ps.length : Int))).toNat, by omega⟩
    rw [← hN]
    have hNl : N ≤ e.ps.length := by omega
    have hpl9 := ps_len hm hg he
    have hkp : keptP s (csz, secs, rest) e.sec = (e.ps.map pcOf).take N := by rw [kept_eq hm hg he, show N = min (e.ps.map pcOf).length (keepOf (csz, secs, rest) e.sec).toNat by rw [List.length_map]; omega, take_min]
    refine ⟨_, rfl, ?_⟩; clear hf a; intro a hf
    refine s_v hf (x_slice_hi sl125 (hf.eval rfl) (hf.eval rfl)  (by omega) (by omega) ) ?_; clear hf a; intro a hf
    replace hf := hf.now (k := 77) (v' := .slice ea N ec) rfl (rfl)
    refine s_v hf (x_len Tryz.underlying125 (hf.eval rfl)) ?_; clear hf a; intro a hf
    refine s_m hf rfl ?_; clear hf a; intro a hf
    refine s_nil ?_
    refine then_n ?_
    refine wp_block ?_
    refine c_loop (L0 := [(0, _), (3, _), (4, _), (5, _), (6, _), (8, _), (9, _), (10, _), (11, _), (54, _), (55, _), (56, _), (57, _), (58, _), (59, _), (60, _), (61, _), (62, _), (63, _), (64, _), (65, _), (66, _), (67, _), (68, _), (69, _), (70, _), (71, _), (72, _), (73, _), (74, _), (75, _), (76, _), (77, _), (78, _)]) (fun M w m => ∃ (i : Nat), M = [(79, .int .i64 (i : Int))] ∧ N - i = m ∧ i ≤ N ∧ St σ w (blk r (.mapIter (some mp) clk (seen.push e.born) clk) :: bb fb 5 (putsP out ((e.ps.map pcOf).take i)) :: cb cb0 64 [.int .i64 csz, .slice ac secs.length cc, .int .i64 rest] :: dcell 85 p (kilS s) ⟨.slice a1 s.now.length c1, .slice a2 s.dur.length c2, mp, .slice a4 s.sizes.length c4, es, clk⟩ :: slB 5 (.slice a1 s.now.length c1) s.now :: slB 5 (.slice a2 s.dur.length c2) s.dur :: mapA mp es clk :: entsA 127 5 es :: sl 3 1 (.slice a4 s.sizes.length c4) s.sizes.length (szC s.sizes) :: R)) (M0 := [(79, .int .i64 0)]) (⟨0, rfl, rfl, Nat.zero_le _, hs⟩) (hf.sub ⟨rfl, rfl, rfl, rfl, rfl, rfl, rfl, rfl, rfl, rfl, rfl, rfl, rfl, rfl, rfl, rfl, rfl, rfl, rfl, rfl, rfl, rfl, rfl, rfl, rfl, rfl, rfl, rfl, rfl, rfl, rfl, rfl, rfl, rfl, rfl, trivial⟩) ?_
    clear hf hs a
    rintro M m a w ⟨i, rfl, rfl, hi, hs⟩ hf
    refine wp_seq ?_
    refine wp_region_lit ?_
    refine s_v hf (x_bin (hf.eval rfl) (hf.eval rfl) (r_lt _ _ _ _)) ?_; clear hf a; intro a hf
    refine s_nil ?_
    refine then_n ?_
    refine wp_seq ?_
    refine c_cond hf rfl (fun hi4 => ?_) (fun hi4 => ?_)
    ·simp only [zd1, zd2, zd3, zd4, zd5, zd6, zd7] at hi4
     have hlt : i < N := by omega
     have hlt2 : i < e.ps.length := by omega
     have hlm : i < (e.ps.map pcOf).length := by rw [List.length_map]; omega
     obtain ⟨_, hrd, hdt⟩ := hs.ents .k7 he
     rw [hev] at hrd
     replace hrd := RdS.pre (f := pcF) (sz := 2) (fun _ => rfl) hrd hNl
     have hltk : (e.ps.take N)[i]'(by rw [List.length_take]; omega) = e.ps[i] := List.getElem_take ..
     obtain ⟨ea, rfl⟩ := hrd.some (by rw [List.length_take]; omega)
     have hpd := hdt _ (List.getElem_mem hlt2)
     clear hdt
     have hok9 := ho.pcs
     have hlo : (putsP out ((e.ps.map pcOf).take i)).length = outN s (csz, secs, rest) := by rw [putsP_len]; exact hfd.1
     refine wp_skip ?_
     refine then_n ?_
     refine wp_seq ?_
     refine wp_block ?_
     refine wp_seq ?_
     refine wp_region_lit ?_
     refine s_v hf (x_indexAddr sl125 (hf.eval rfl) (hf.eval rfl) (by omega) (by omega)) ?_; clear hf a; intro a hf
     refine s_r hf (x_loadS (f := pcF) ag127 (fun _ => rfl) hrd (hf.eval rfl) (by simp; omega)) ?_; clear hf a; intro a hf
     replace hf := hf.now (k := 82) (v' := .agg (pcF e.ps[i]).toArray) rfl (by rw [← hltk]; rfl)
     refine s_do hf rfl (y_alloc hs Tryz.zeroValue127 ?_); clear hf hs a; intro b7 w hs a hf
     change St _ _ (cb b7 127 [.int .i64 0, .slice none 0 0] :: _) at hs
     refine s_do0 hf rfl (y_storeAgg (cs := pcF e.ps[i]) hs (n := 2) (by kernel_rfl) (hf.eval rfl) (hf.eval rfl) (pcF_one hpd) rfl rfl .k0 ?_); clear hf hs a; intro w hs a hf
     refine s_nil ?_
     refine then_n ?_
     refine wp_seq ?_
     refine wp_region_lit ?_
     refine s_v hf (x_fieldAddr fo127_0 (hf.eval rfl)) ?_; clear hf a; intro a hf
     refine s_r hf (x_load sc3 (hf.eval rfl) (by first | exact hs.cell .k0 rfl | exact hs.cell .k1 rfl | exact hs.cell .k2 rfl | exact hs.cell .k3 rfl | exact hs.cell .k4 rfl | exact hs.cell .k5 rfl)) ?_; clear hf a; intro a hf
     refine s_m hf rfl ?_; clear hf a; intro a hf
     refine s_v hf (x_bin (hf.eval rfl) (hf.eval rfl) (r_lt _ _ _ _)) ?_; clear hf a; intro a hf
     refine s_nil ?_
     refine then_n ?_
     refine c_cond hf rfl (fun hi5 => ?_) (fun hi5 => ?_)
     ·simp only [zd1, zd2, zd3, zd4, zd5, zd6, zd7] at hi5
      have hat5 : e.ps[i].1 < outN s (csz, secs, rest) := by omega
      refine c_draw hs (fun _ => True) [.held, .held, .read, .held, .held, .read, .fin] (by kernel_rfl) (by kernel_rfl) (fun _ _ _ => trivial) ?_
      clear hs; intro w hs hC hw
      refine m_held hf rfl (fun w' _ => x_move (hf.eval rfl) w') ?_; clear hf a; intro a hf
      refine m_held hf rfl (fun w' _ => x_fieldAddr fo127_0 (hf.eval rfl) w') ?_; clear hf a; intro a hf
      refine m_read hf rfl (x_load sc3 (hf.eval rfl) (by first | exact hs.cell .k0 rfl | exact hs.cell .k1 rfl | exact hs.cell .k2 rfl | exact hs.cell .k3 rfl | exact hs.cell .k4 rfl | exact hs.cell .k5 rfl)) ?_; clear hf a; intro a hf
      refine m_held hf rfl (fun w' _ => x_slice_lo sl22 (hf.eval rfl) (hf.eval rfl)  (by omega) (by omega)  w') ?_; clear hf a; intro a hf
      replace hf := hf.now (k := 90) (v' := .slice (some ⟨fb, e.ps[i].1, none⟩) (outN s (csz, secs, rest) - e.ps[i].1) (outN s (csz, secs, rest) - e.ps[i].1)) rfl (by rw [Int.toNat_natCast, subA_at hat5])
      refine m_held hf rfl (fun w' _ => x_fieldAddr fo127_1 (hf.eval rfl) w') ?_; clear hf a; intro a hf
      refine m_read hf rfl (x_load sc22 (hf.eval rfl) (by first | exact hs.cell .k0 rfl | exact hs.cell .k1 rfl | exact hs.cell .k2 rfl | exact hs.cell .k3 rfl | exact hs.cell .k4 rfl | exact hs.cell .k5 rfl)) ?_; clear hf a; intro a hf
      refine m_fin hf rfl (y_copyB (o := e.ps[i].1) (cur' := putP (putsP out ((e.ps.map pcOf).take i)) (pcOf e.ps[i])) hs sl22 (hf.eval rfl) (hf.eval rfl) (fun _ => rfl) ((hs.ents .k8 he).2.2 _ (List.getElem_mem hlt2)) rfl .k2 (by rw [putP_in (p := pcOf e.ps[i]) (by rw [hlo]; exact hat5), hlo]; rfl) (by rw [hlo]; omega) ?_); clear hf hs a; intro w hs; intro a hf
      have hs9 := hs.drop
      refine blk_n ?_
      refine then_n ?_
      refine wp_region_lit ?_
      refine s_v hf (x_bin (hf.eval rfl) (hf.eval rfl) (r_addi _ (by omega) (by omega))) ?_; clear hf a; intro a hf
      refine s_m hf rfl ?_; clear hf a; intro a hf
      refine s_nil ?_
      exact ⟨_, _, ⟨i + 1, rfl, rfl, by omega, by rw [putsP_take hlm, List.getElem_map]; exact hs9⟩, by omega, hf.sub ⟨rfl, rfl, rfl, rfl, rfl, rfl, rfl, rfl, rfl, rfl, rfl, rfl, rfl, rfl, rfl, rfl, rfl, rfl, rfl, rfl, rfl, rfl, rfl, rfl, rfl, rfl, rfl, rfl, rfl, rfl, rfl, rfl, rfl, rfl, rfl, trivial⟩⟩
     simp only [zd1, zd2, zd3, zd4, zd5, zd6, zd7] at hi5
     have hs9 : St σ w (blk r (.mapIter (some mp) clk (seen.push e.born) clk) :: bb fb 5 (putP (putsP out ((e.ps.map pcOf).take i)) (pcOf e.ps[i])) :: cb cb0 64 [.int .i64 csz, .slice ac secs.length cc, .int .i64 rest] :: dcell 85 p (kilS s) ⟨.slice a1 s.now.length c1, .slice a2 s.dur.length c2, mp, .slice a4 s.sizes.length c4, es, clk⟩ :: slB 5 (.slice a1 s.now.length c1) s.now :: slB 5 (.slice a2 s.dur.length c2) s.dur :: mapA mp es clk :: entsA 127 5 es :: sl 3 1 (.slice a4 s.sizes.length c4) s.sizes.length (szC s.sizes) :: R) := by rw [putP_out (p := pcOf e.ps[i]) (by rw [hlo]; show outN s (csz, secs, rest) ≤ e.ps[i].1; omega)]; exact hs.drop
     refine wp_skip ?_
     refine blk_n ?_
     refine then_n ?_
     refine wp_region_lit ?_
     refine s_v hf (x_bin (hf.eval rfl) (hf.eval rfl) (r_addi _ (by omega) (by omega))) ?_; clear hf a; intro a hf
     refine s_m hf rfl ?_; clear hf a; intro a hf
     refine s_nil ?_
     exact ⟨_, _, ⟨i + 1, rfl, rfl, by omega, by rw [putsP_take hlm, List.getElem_map]; exact hs9⟩, by omega, hf.sub ⟨rfl, rfl, rfl, rfl, rfl, rfl, rfl, rfl, rfl, rfl, rfl, rfl, rfl, rfl, rfl, rfl, rfl, rfl, rfl, rfl, rfl, rfl, rfl, rfl, rfl, rfl, rfl, rfl, rfl, rfl, rfl, rfl, rfl, rfl, rfl, trivial⟩⟩
    simp only [zd1, zd2, zd3, zd4, zd5, zd6, zd7] at hi4
    have hN9 : N = i := by omega
    refine wp_exit ?_
    refine then_x ?_
    refine then_x ?_
    refine blk_x ?_
    refine blk_n ?_
    obtain rfl : i = N := by omega
    have hfd2 := fnd_step ho hm hfd he hns
    exact ⟨_, _, ⟨seen.push e.born, putsP out (keptP s (csz, secs, rest) e.sec), rfl, rfl, by simpa using hfd2, by rw [hkp, ← hN9]; exact hs⟩, unseen_lt he hns, hf.sub ⟨rfl, rfl, rfl, rfl, rfl, rfl, rfl, trivial⟩⟩
   simp only [zd1, zd2, zd3, zd4, zd5, zd6, zd7] at hi3
   replace hf := hf.now (k := 11) (v' := .int .i64 (keepOf (csz, secs, rest) e.sec)) rfl (by rw [keepOf_out (by simp only; omega)])
   refine wp_skip ?_
   refine then_n ?_
   refine wp_seq ?_
   refine wp_region_lit ?_
   refine s_m hf rfl ?_; clear hf a; intro a hf
   refine s_m hf rfl ?_; clear hf a; intro a hf
   refine s_m hf rfl ?_; clear hf a; intro a hf
   refine s_v hf (x_len Tryz.underlying125 (hf.eval rfl)) ?_; clear hf a; intro a hf
   refine s_do hf rfl (y_call (hf.eval rfl) (hf.evals rfl) Tryz.call72 ((upTo_spec _ (keepOf (csz, secs, rest) e.sec) e.ps.length).mono ?_))
   rintro e w1 ⟨rfl, rfl⟩
   obtain ⟨N, hN⟩ : ∃ N : Nat, (N : Int) = max 0 (min (keepOf (csz, secs, rest) e.sec) (e.ps.length : Int)) := ⟨(max 0 (min (keepOf (csz, secs, rest) e.sec) (e.ps.length : Int))).toNat, by omega⟩
   rw [← hN]
   have hNl : N ≤ e.ps.length := by omega
   have hpl9 := ps_len hm hg he
   have hkp : keptP s (csz, secs, rest) e.sec = (e.ps.map pcOf).take N := by rw [kept_eq hm hg he, show N = min (e.ps.map pcOf).length (keepOf (csz, secs, rest) e.sec).toNat by rw [List.length_map]; omega, take_min]
   refine ⟨_, rfl, ?_⟩; clear hf a; intro a hf
   refine s_v hf (x_slice_hi sl125 (hf.eval rfl) (hf.eval rfl)  (by omega) (by omega) ) ?_; clear hf a; intro a hf
   replace hf := hf.now (k := 77) (v' := .slice ea N ec) rfl (rfl)
   refine s_v hf (x_len Tryz.underlying125 (hf.eval rfl)) ?_; clear hf a; intro a hf
   refine s_m hf rfl ?_; clear hf a; intro a hf
   refine s_nil ?_
   refine then_n ?_
   refine wp_block ?_
   refine c_loop (L0 := [(0, _), (3, _), (4, _), (5, _), (6, _), (8, _), (9, _), (10, _), (11, _), (54, _), (55, _), (56, _), (57, _), (58, _), (59, _), (60, _), (61, _), (62, _), (63, _), (64, _), (65, _), (66, _), (72, _), (73, _), (74, _), (75, _), (76, _), (77, _), (78, _)]) (fun M w m => ∃ (i : Nat), M = [(79, .int .i64 (i : Int))] ∧ N - i = m ∧ i ≤ N ∧ St σ w (blk r (.mapIter (some mp) clk (seen.push e.born) clk) :: bb fb 5 (putsP out ((e.ps.map pcOf).take i)) :: cb cb0 64 [.int .i64 csz, .slice ac secs.length cc, .int .i64 rest] :: dcell 85 p (kilS s) ⟨.slice a1 s.now.length c1, .slice a2 s.dur.length c2, mp, .slice a4 s.sizes.length c4, es, clk⟩ :: slB 5 (.slice a1 s.now.length c1) s.now :: slB 5 (.slice a2 s.dur.length c2) s.dur :: mapA mp es clk :: entsA 127 5 es :: sl 3 1 (.slice a4 s.sizes.length c4) s.sizes.length (szC s.sizes) :: R)) (M0 := [(79, .int .i64 0)]) (⟨0, rfl, rfl, Nat.zero_le _, hs⟩) (hf.sub ⟨rfl, rfl, rfl, rfl, rfl, rfl, rfl, rfl, rfl, rfl, rfl, rfl, rfl, rfl, rfl, rfl, rfl, rfl, rfl, rfl, rfl, rfl, rfl, rfl, rfl, rfl, rfl, rfl, rfl, rfl, trivial⟩) ?_
   clear hf hs a
   rintro M m a w ⟨i, rfl, rfl, hi, hs⟩ hf
   refine wp_seq ?_
   refine wp_region_lit ?_
   refine s_v hf (x_bin (hf.eval rfl) (hf.eval rfl) (r_lt _ _ _ _)) ?_; clear hf a; intro a hf
   refine s_nil ?_
   refine then_n ?_
   refine wp_seq ?_
   refine c_cond hf rfl (fun hi4 => ?_) (fun hi4 => ?_)
   ·simp only [zd1, zd2, zd3, zd4, zd5, zd6, zd7] at hi4
    have hlt : i < N := by omega
    have hlt2 : i < e.ps.length := by omega
    have hlm : i < (e.ps.map pcOf).length := by rw [List.length_map]; omega
    obtain ⟨_, hrd, hdt⟩ := hs.ents .k7 he
    rw [hev] at hrd
    replace hrd := RdS.pre (f := pcF) (sz := 2) (fun _ => rfl) hrd hNl
    have hltk : (e.ps.take N)[i]'(by rw [List.length_take]; omega) = e.ps[i] := List.getElem_take ..
    obtain ⟨ea, rfl⟩ := hrd.some (by rw [List.length_take]; omega)
    have hpd := hdt _ (List.getElem_mem hlt2)
    clear hdt
    have hok9 := ho.pcs
    have hlo : (putsP out ((e.ps.map pcOf).take i)).length = outN s (csz, secs, rest) := by rw [putsP_len]; exact hfd.1
    refine wp_skip ?_
    refine then_n ?_
    refine wp_seq ?_
    refine wp_block ?_
    refine wp_seq ?_
    refine wp_region_lit ?_
    refine s_v hf (x_indexAddr sl125 (hf.eval rfl) (hf.eval rfl) (by omega) (by omega)) ?_; clear hf a; intro a hf
    refine s_r hf (x_loadS (f := pcF) ag127 (fun _ => rfl) hrd (hf.eval rfl) (by simp; omega)) ?_; clear hf a; intro a hf
    replace hf := hf.now (k := 82) (v' := .agg (pcF e.ps[i]).toArray) rfl (by rw [← hltk]; rfl)
    refine s_do hf rfl (y_alloc hs Tryz.zeroValue127 ?_); clear hf hs a; intro b7 w hs a hf
    change St _ _ (cb b7 127 [.int .i64 0, .slice none 0 0] :: _) at hs
    refine s_do0 hf rfl (y_storeAgg (cs := pcF e.ps[i]) hs (n := 2) (by kernel_rfl) (hf.eval rfl) (hf.eval rfl) (pcF_one hpd) rfl rfl .k0 ?_); clear hf hs a; intro w hs a hf
    refine s_nil ?_
    refine then_n ?_
    refine wp_seq ?_
    refine wp_region_lit ?_
    refine s_v hf (x_fieldAddr fo127_0 (hf.eval rfl)) ?_; clear hf a; intro a hf
    refine s_r hf (x_load sc3 (hf.eval rfl) (by first | exact hs.cell .k0 rfl | exact hs.cell .k1 rfl | exact hs.cell .k2 rfl | exact hs.cell .k3 rfl | exact hs.cell .k4 rfl | exact hs.cell .k5 rfl)) ?_; clear hf a; intro a hf
    refine s_m hf rfl ?_; clear hf a; intro a hf
    refine s_v hf (x_bin (hf.eval rfl) (hf.eval rfl) (r_lt _ _ _ _)) ?_; clear hf a; intro a hf
    refine s_nil ?_
    refine then_n ?_
    refine c_cond hf rfl (fun hi5 => ?_) (fun hi5 => ?_)
    ·simp only [zd1, zd2, zd3, zd4, zd5, zd6, zd7] at hi5
     have hat5 : e.ps[i].1 < outN s (csz, secs, rest) := by omega
     refine c_draw hs (fun _ => True) [.held, .held, .read, .held, .held, .read, .fin] (by kernel_rfl) (by kernel_rfl) (fun _ _ _ => trivial) ?_
     clear hs; intro w hs hC hw
     refine m_held hf rfl (fun w' _ => x_move (hf.eval rfl) w') ?_; clear hf a; intro a hf
     refine m_held hf rfl (fun w' _ => x_fieldAddr fo127_0 (hf.eval rfl) w') ?_; clear hf a; intro a hf
     refine m_read hf rfl (x_load sc3 (hf.eval rfl) (by first | exact hs.cell .k0 rfl | exact hs.cell .k1 rfl | exact hs.cell .k2 rfl | exact hs.cell .k3 rfl | exact hs.cell .k4 rfl | exact hs.cell .k5 rfl)) ?_; clear hf a; intro a hf
     refine m_held hf rfl (fun w' _ => x_slice_lo sl22 (hf.eval rfl) (hf.eval rfl)  (by omega) (by omega)  w') ?_; clear hf a; intro a hf
     replace hf := hf.now (k := 90) (v' := .slice (some ⟨fb, e.ps[i].1, none⟩) (outN s (csz, secs, rest) - e.ps[i].1) (outN s (csz, secs, rest) - e.ps[i].1)) rfl (by rw [Int.toNat_natCast, subA_at hat5])
     refine m_held hf rfl (fun w' _ => x_fieldAddr fo127_1 (hf.eval rfl) w') ?_; clear hf a; intro a hf
     refine m_read hf rfl (x_load sc22 (hf.eval rfl) (by first | exact hs.cell .k0 rfl | exact hs.cell .k1 rfl | exact hs.cell .k2 rfl | exact hs.cell .k3 rfl | exact hs.cell .k4 rfl | exact hs.cell .k5 rfl)) ?_; clear hf a; intro a hf
     refine m_fin hf rfl (y_copyB (o := e.ps[i].1) (cur' := putP (putsP out ((e.ps.map pcOf).take i)) (pcOf e.ps[i])) hs sl22 (hf.eval rfl) (hf.eval rfl) (fun _ => rfl) ((hs.ents .k8 he).2.2 _ (List.getElem_mem hlt2)) rfl .k2 (by rw [putP_in (p := pcOf e.ps[i]) (by rw [hlo]; exact hat5), hlo]; rfl) (by rw [hlo]; omega) ?_); clear hf hs a; intro w hs; intro a hf
     have hs9 := hs.drop
     refine blk_n ?_
     refine then_n ?_
     refine wp_region_lit ?_
     refine s_v hf (x_bin (hf.eval rfl) (hf.eval rfl) (r_addi _ (by omega) (by omega))) ?_; clear hf a; intro a hf
     refine s_m hf rfl ?_; clear hf a; intro a hf
     refine s_nil ?_
     exact ⟨_, _, ⟨i + 1, rfl, rfl, by omega, by rw [putsP_take hlm, List.getElem_map]; exact hs9⟩, by omega, hf.sub ⟨rfl, rfl, rfl, rfl, rfl, rfl, rfl, rfl, rfl, rfl, rfl, rfl, rfl, rfl, rfl, rfl, rfl, rfl, rfl, rfl, rfl, rfl, rfl, rfl, rfl, rfl, rfl, rfl, rfl, rfl, trivial⟩⟩
    simp only [zd1, zd2, zd3, zd4, zd5, zd6, zd7] at hi5
    have hs9 : St σ w (blk r (.mapIter (some mp) clk (seen.push e.born) clk) :: bb fb 5 (putP (putsP out ((e.ps.map pcOf).take i)) (pcOf e.ps[i])) :: cb cb0 64 [.int .i64 csz, .slice ac secs.length cc, .int .i64 rest] :: dcell 85 p (kilS s) ⟨.slice a1 s.now.length c1, .slice a2 s.dur.length c2, mp, .slice a4 s.sizes.length c4, es, clk⟩ :: slB 5 (.slice a1 s.now.length c1) s.now :: slB 5 (.slice a2 s.dur.length c2) s.dur :: mapA mp es clk :: entsA 127 5 es :: sl 3 1 (.slice a4 s.sizes.length c4) s.sizes.length (szC s.sizes) :: R) := by rw [putP_out (p := pcOf e.ps[i]) (by rw [hlo]; show outN s (csz, secs, rest) ≤ e.ps[i].1; omega)]; exact hs.drop
    refine wp_skip ?_
    refine blk_n ?_
    refine then_n ?_
    refine wp_region_lit ?_
    refine s_v hf (x_bin (hf.eval rfl) (hf.eval rfl) (r_addi _ (by omega) (by omega))) ?_; clear hf a; intro a hf
    refine s_m hf rfl ?_; clear hf a; intro a hf
    refine s_nil ?_
    exact ⟨_, _, ⟨i + 1, rfl, rfl, by omega, by rw [putsP_take hlm, List.getElem_map]; exact hs9⟩, by omega, hf.sub ⟨rfl, rfl, rfl, rfl, rfl, rfl, rfl, rfl, rfl, rfl, rfl, rfl, rfl, rfl, rfl, rfl, rfl, rfl, rfl, rfl, rfl, rfl, rfl, rfl, rfl, rfl, rfl, rfl, rfl, rfl, trivial⟩⟩
   simp only [zd1, zd2, zd3, zd4, zd5, zd6, zd7] at hi4
   have hN9 : N = i := by omega
   refine wp_exit ?_
   refine then_x ?_
   refine then_x ?_
   refine blk_x ?_
   refine blk_n ?_
   obtain rfl : i = N := by omega
   have hfd2 := fnd_step ho hm hfd he hns
   exact ⟨_, _, ⟨seen.push e.born, putsP out (keptP s (csz, secs, rest) e.sec), rfl, rfl, by simpa using hfd2, by rw [hkp, ← hN9]; exact hs⟩, unseen_lt he hns, hf.sub ⟨rfl, rfl, rfl, rfl, rfl, rfl, rfl, trivial⟩⟩
  have hall := hbf hi2
  subst hi2
  replace hs : St σ w (blk r (.mapIter (some mp) clk seen clk) :: bb fb 5 (out) :: cb cb0 64 [.int .i64 csz, .slice ac secs.length cc, .int .i64 rest] :: dcell 85 p (kilS s) ⟨.slice a1 s.now.length c1, .slice a2 s.dur.length c2, mp, .slice a4 s.sizes.length c4, es, clk⟩ :: slB 5 (.slice a1 s.now.length c1) s.now :: slB 5 (.slice a2 s.dur.length c2) s.dur :: mapA mp es clk :: entsA 127 5 es :: sl 3 1 (.slice a4 s.sizes.length c4) s.sizes.length (szC s.sizes) :: R) := hs
  clear hbt hbf
  obtain rfl := fnd_end hg hfd hall
  refine wp_exit ?_
  refine then_x ?_
  refine then_x ?_
  refine blk_x ?_
  refine then_n ?_
  refine wp_seq ?_
  refine wp_region_lit ?_
  refine s_m hf rfl ?_; clear hf a; intro a hf
  replace hf := hf.now (k := 95) (v' := .slice (some ⟨fb, 0, none⟩) (outS s (csz, secs, rest)).length (outN s (csz, secs, rest))) rfl (by rw [outS_length])
  refine s_m hf rfl ?_; clear hf a; intro a hf
  refine s_v hf (x_nilCheck (hf.eval rfl)) ?_; clear hf a; intro a hf
  refine s_v hf (x_fieldAddr fo85_0 (hf.eval rfl)) ?_; clear hf a; intro a hf
  refine s_r hf (x_load sc3 (hf.eval rfl) (by first | exact hs.cell .k0 rfl | exact hs.cell .k1 rfl | exact hs.cell .k2 rfl | exact hs.cell .k3 rfl | exact hs.cell .k4 rfl | exact hs.cell .k5 rfl)) ?_; clear hf a; intro a hf
  refine s_do hf rfl (y_call (hf.eval rfl) (hf.evals rfl) Tryz.call7 ((dNew_in _ _ _ (outS s (csz, secs, rest)) (hs.rdB .k1 (fun h hb => by have h9 := rdB_of_bb hb (Nat.le_refl (outS s (csz, secs, rest)).length) (c := outN s (csz, secs, rest)) (by rw [outS_length]; exact Nat.le_refl _); rwa [List.take_length] at h9)) (by rw [outS_length]; omega) s.room hroom0 hroom1 (by rw [outS_length]; exact hoN)).mono ?_))
  rintro e w1 ⟨p2, rfl, hj⟩
  replace hs := hs.join hj
  simp only [List.cons_append, List.nil_append] at hs
  refine ⟨_, rfl, ?_⟩; clear hf a; intro a hf
  refine s_v hf (x_extract (hf.eval rfl) rfl) ?_; clear hf a; intro a hf
  refine s_v hf (x_extract (hf.eval rfl) rfl) ?_; clear hf a; intro a hf
  refine s_a hf rfl ?_; clear hf a; intro a hf
  refine s_a hf rfl ?_; clear hf a; intro a hf
  refine s_nil ?_
  refine then_n ?_
  refine wp_ret ?_
  refine r_2 hf Tryz.results33 rfl rfl ?_
  refine ⟨p2, rfl, ?_⟩
  replace hs := St.give (L := _) (((hs.lose .k1).lose .k1).lose .k1) .k6
  exact (diskA_close (s := kilS s) (x := ⟨.slice a1 s.now.length c1, .slice a2 s.dur.length c2, mp, .slice a4 s.sizes.length c4, es, clk⟩) hm hg hs).take .k1
 simp only [zd1, zd2, zd3, zd4, zd5, zd6, zd7] at hi1
 have hix : ¬ 0 < szIx s (csz, secs, rest) := by omega
 replace hf := hf.now (k := 6) (v' := .int .i64 (outN s (csz, secs, rest) : Int)) rfl (by rw [outN_none hix])
 refine wp_skip ?_
 refine then_n ?_
 refine wp_seq ?_
 refine wp_region_lit ?_
 refine s_m hf rfl ?_; clear hf a; intro a hf
 have hoN := outN_le ho (csz, secs, rest)
 refine s_do hf rfl (y_makeB (m := outN s (csz, secs, rest)) (c := outN s (csz, secs, rest)) hs sl22 (hf.eval rfl) (hf.eval rfl) rfl rfl (Nat.le_refl _) (by omega) ?_); clear hf hs a; intro fb w hs a hf
 refine s_a hf rfl ?_; clear hf a; intro a hf
 refine s_nil ?_
 refine then_n ?_
 refine wp_seq ?_
 refine wp_region_lit ?_
 refine s_m hf rfl ?_; clear hf a; intro a hf
 refine s_m hf rfl ?_; clear hf a; intro a hf
 refine s_v hf (x_nilCheck (hf.eval rfl)) ?_; clear hf a; intro a hf
 refine s_v hf (x_fieldAddr fo85_2 (hf.eval rfl)) ?_; clear hf a; intro a hf
 refine s_r hf (x_load sc22 (hf.eval rfl) (by first | exact hs.cell .k0 rfl | exact hs.cell .k1 rfl | exact hs.cell .k2 rfl | exact hs.cell .k3 rfl | exact hs.cell .k4 rfl | exact hs.cell .k5 rfl)) ?_; clear hf a; intro a hf
 refine s_do hf rfl (y_copyB (o := 0) (cur' := spl (List.replicate (outN s (csz, secs, rest)) 0) 0 (s.dur.take (min s.dur.length (outN s (csz, secs, rest))))) hs sl22 (hf.eval rfl) (hf.eval rfl) (fun _ => rfl) (hs.rdB .k4 fun h => slB_rd) rfl .k0 rfl (by simp) ?_); clear hf hs a; intro w hs a hf
 obtain ⟨out0, ho0⟩ : ∃ o, o = spl (List.replicate (outN s (csz, secs, rest)) 0) 0 (s.dur.take (min s.dur.length (outN s (csz, secs, rest)))) := ⟨_, rfl⟩
 rw [← ho0] at hs
 obtain ⟨hd1, hd2⟩ := dur_start s _ ho0
 refine s_nil ?_
 refine then_n ?_
 refine wp_seq ?_
 refine wp_seq ?_
 refine wp_region_lit ?_
 refine s_m hf rfl ?_; clear hf a; intro a hf
 refine s_v hf (x_nilCheck (hf.eval rfl)) ?_; clear hf a; intro a hf
 refine s_v hf (x_fieldAddr fo85_3 (hf.eval rfl)) ?_; clear hf a; intro a hf
 refine s_r hf (x_load sc83 (hf.eval rfl) (by first | exact hs.cell .k0 rfl | exact hs.cell .k1 rfl | exact hs.cell .k2 rfl | exact hs.cell .k3 rfl | exact hs.cell .k4 rfl | exact hs.cell .k5 rfl)) ?_; clear hf a; intro a hf
 refine s_do hf rfl (y_range hs Tryz.underlying83 (hf.eval rfl) .k5 ?_); clear hf hs a; intro r w hs a hf
 refine s_nil ?_
 refine then_n ?_
 refine wp_block ?_
 refine c_loop (L0 := [(0, _), (3, _), (4, _), (5, _), (6, _), (8, _), (54, _)]) (fun M w m => ∃ (seen : Array Nat) (out : List UInt8), M = [] ∧ (es.filter fun x => decide (x.born ∉ seen.toList)).length = m ∧ Fnd s (csz, secs, rest) es seen.toList out ∧ St σ w (blk r (.mapIter (some mp) clk seen clk) :: bb fb 5 (out) :: cb cb0 64 [.int .i64 csz, .slice ac secs.length cc, .int .i64 rest] :: dcell 85 p (kilS s) ⟨.slice a1 s.now.length c1, .slice a2 s.dur.length c2, mp, .slice a4 s.sizes.length c4, es, clk⟩ :: slB 5 (.slice a1 s.now.length c1) s.now :: slB 5 (.slice a2 s.dur.length c2) s.dur :: mapA mp es clk :: entsA 127 5 es :: sl 3 1 (.slice a4 s.sizes.length c4) s.sizes.length (szC s.sizes) :: R)) (M0 := _) (⟨#[], out0, rfl, rfl, fnd_start s (csz, secs, rest) es hd1 hd2, hs⟩) (hf.sub ⟨rfl, rfl, rfl, rfl, rfl, rfl, rfl, trivial⟩) ?_
 clear hf hs a
 rintro M m a w ⟨seen, out, rfl, rfl, hfd, hs⟩ hf
 clear hd1 hd2
 refine wp_seq ?_
 refine wp_region_lit ?_
 refine s_do hf rfl (y_nextB hs (hf.eval rfl) .k5 hm ?_); clear hf hs a; intro b e w hs hbt hbf a hf
 refine s_v hf (x_extract (hf.eval rfl) (nxt_0 b e)) ?_; clear hf a; intro a hf
 refine s_nil ?_
 refine then_n ?_
 refine wp_seq ?_
 refine c_cond hf rfl (fun hi2 => ?_) (fun hi2 => ?_)
 ·obtain ⟨he, hns⟩ := hbt hi2
  subst hi2
  replace hs : St σ w (blk r (.mapIter (some mp) clk (seen.push e.born) clk) :: bb fb 5 (out) :: cb cb0 64 [.int .i64 csz, .slice ac secs.length cc, .int .i64 rest] :: dcell 85 p (kilS s) ⟨.slice a1 s.now.length c1, .slice a2 s.dur.length c2, mp, .slice a4 s.sizes.length c4, es, clk⟩ :: slB 5 (.slice a1 s.now.length c1) s.now :: slB 5 (.slice a2 s.dur.length c2) s.dur :: mapA mp es clk :: entsA 127 5 es :: sl 3 1 (.slice a4 s.sizes.length c4) s.sizes.length (szC s.sizes) :: R) := hs
  clear hbt hbf
  obtain ⟨⟨ea, ec, hev⟩, hrd0, _⟩ := hs.ents .k7 he
  rw [hev] at hrd0
  have hec := RdC.cap hrd0
  clear hrd0
  refine wp_skip ?_
  refine then_n ?_
  refine wp_block ?_
  refine wp_seq ?_
  refine wp_region_lit ?_
  refine s_r hf (x_entry (hf.eval rfl) hs.head (hs.blk_at .k6) he hm) ?_; clear hf a; intro a hf
  replace hf := hf.now (k := 57) (v' := .tuple #[.int .i64 (e.sec : Int), .slice ea e.ps.length ec]) rfl (by rw [hev])
  refine s_v hf (x_extract (hf.eval rfl) rfl) ?_; clear hf a; intro a hf
  refine s_v hf (x_extract (hf.eval rfl) rfl) ?_; clear hf a; intro a hf
  refine s_a hf rfl ?_; clear hf a; intro a hf
  refine s_a hf rfl ?_; clear hf a; intro a hf
  refine s_nil ?_
  refine then_n ?_
  refine wp_seq ?_
  refine wp_region_lit ?_
  refine s_v hf (x_fieldAddr fo64_2 (hf.eval rfl)) ?_; clear hf a; intro a hf
  refine s_r hf (x_load sc3 (hf.eval rfl) (by first | exact hs.cell .k0 rfl | exact hs.cell .k1 rfl | exact hs.cell .k2 rfl | exact hs.cell .k3 rfl | exact hs.cell .k4 rfl | exact hs.cell .k5 rfl)) ?_; clear hf a; intro a hf
  refine s_a hf rfl ?_; clear hf a; intro a hf
  refine s_nil ?_
  refine then_n ?_
  refine wp_seq ?_
  refine wp_seq ?_
  refine wp_region_lit ?_
  refine s_m hf rfl ?_; clear hf a; intro a hf
  refine s_v hf (x_fieldAddr fo64_1 (hf.eval rfl)) ?_; clear hf a; intro a hf
  refine s_r hf (x_load sc62 (hf.eval rfl) (by first | exact hs.cell .k0 rfl | exact hs.cell .k1 rfl | exact hs.cell .k2 rfl | exact hs.cell .k3 rfl | exact hs.cell .k4 rfl | exact hs.cell .k5 rfl)) ?_; clear hf a; intro a hf
  refine s_v hf (x_len Tryz.underlying62 (hf.eval rfl)) ?_; clear hf a; intro a hf
  refine s_v hf (x_bin (hf.eval rfl) (hf.eval rfl) (r_lt _ _ _ _)) ?_; clear hf a; intro a hf
  refine s_nil ?_
  refine then_n ?_
  refine c_cond hf rfl (fun hi3 => ?_) (fun hi3 => ?_)
  ·simp only [zd1, zd2, zd3, zd4, zd5, zd6, zd7] at hi3
   have hsl : e.sec < secs.length := by omega
   have hrd := hrc _ [_, _, _, _, _, _, _, _, _] hs
   obtain ⟨ac, rfl⟩ := hrd.some (by omega)
   clear hrd
   refine wp_region_lit ?_
   refine s_v hf (x_fieldAddr fo64_1 (hf.eval rfl)) ?_; clear hf a; intro a hf
   refine s_r hf (x_load sc62 (hf.eval rfl) (by first | exact hs.cell .k0 rfl | exact hs.cell .k1 rfl | exact hs.cell .k2 rfl | exact hs.cell .k3 rfl | exact hs.cell .k4 rfl | exact hs.cell .k5 rfl)) ?_; clear hf a; intro a hf
   refine s_m hf rfl ?_; clear hf a; intro a hf
   refine s_v hf (x_indexAddr sl62 (hf.eval rfl) (hf.eval rfl) (by omega) (by omega)) ?_; clear hf a; intro a hf
   refine s_r hf (x_loadI sc3 (hrc _ [_, _, _, _, _, _, _, _, _] hs) rfl (hf.eval rfl) (by simpa using hsl)) ?_; clear hf a; intro a hf
   refine s_a hf rfl ?_; clear hf a; intro a hf
   replace hf := hf.now (k := 11) (v' := .int .i64 (keepOf (csz, secs, rest) e.sec)) rfl (by rw [keepOf_in (c := (csz, secs, rest)) hsl]; rfl)
   refine s_nil ?_
   refine then_n ?_
   refine wp_seq ?_
   refine wp_region_lit ?_
   refine s_m hf rfl ?_; clear hf a; intro a hf
   refine s_m hf rfl ?_; clear hf a; intro a hf
   refine s_m hf rfl ?_; clear hf a; intro a hf
   refine s_v hf (x_len Tryz.underlying125 (hf.eval rfl)) ?_; clear hf a; intro a hf
   refine s_do hf rfl (y_call (hf.eval rfl) (hf.evals rfl) Tryz.call72 ((upTo_spec _ (keepOf (csz, secs, rest) e.sec) e.ps.length).mono ?_))
   rintro e w1 ⟨rfl, rfl⟩
   obtain ⟨N, hN⟩ : ∃ N : Nat, (N : Int) = max 0 (min (keepOf (csz, secs, rest) e.sec) (e.ps.length : Int)) := ⟨(max 0 (min (keepOf (csz, secs, rest) e.sec) (e.ps.length : Int))).toNat, by omega⟩
   rw [← hN]
   have hNl : N ≤ e.ps.length := by omega
   have hpl9 := ps_len hm hg he
   have hkp : keptP s (csz, secs, rest) e.sec = (e.ps.map pcOf).take N := by rw [kept_eq hm hg he, show N = min (e.ps.map pcOf).length (keepOf (csz, secs, rest) e.sec).toNat by rw [List.length_map]; omega, take_min]
   refine ⟨_, rfl, ?_⟩; clear hf a; intro a hf
   refine s_v hf (x_slice_hi sl125 (hf.eval rfl) (hf.eval rfl)  (by omega) (by omega) ) ?_; clear hf a; intro a hf
   replace hf := hf.now (k := 77) (v' := .slice ea N ec) rfl (rfl)
   refine s_v hf (x_len Tryz.underlying125 (hf.eval rfl)) ?_; clear hf a; intro a hf
   refine s_m hf rfl ?_; clear hf a; intro a hf
   refine s_nil ?_
   refine then_n ?_
   refine wp_block ?_
   refine c_loop (L0 := [(0, _), (3, _), (4, _), (5, _), (6, _), (8, _), (9, _), (10, _), (11, _), (54, _), (55, _), (56, _), (57, _), (58, _), (59, _), (60, _), (61, _), (62, _), (63, _), (64, _), (65, _), (66, _), (67, _), (68, _), (69, _), (70, _), (71, _), (72, _), (73, _), (74, _), (75, _), (76, _), (77, _), (78, _)]) (fun M w m => ∃ (i : Nat), M = [(79, .int .i64 (i : Int))] ∧ N - i = m ∧ i ≤ N ∧ St σ w (blk r (.mapIter (some mp) clk (seen.push e.born) clk) :: bb fb 5 (putsP out ((e.ps.map pcOf).take i)) :: cb cb0 64 [.int .i64 csz, .slice ac secs.length cc, .int .i64 rest] :: dcell 85 p (kilS s) ⟨.slice a1 s.now.length c1, .slice a2 s.dur.length c2, mp, .slice a4 s.sizes.length c4, es, clk⟩ :: slB 5 (.slice a1 s.now.length c1) s.now :: slB 5 (.slice a2 s.dur.length c2) s.dur :: mapA mp es clk :: entsA 127 5 es :: sl 3 1 (.slice a4 s.sizes.length c4) s.sizes.length (szC s.sizes) :: R)) (M0 := [(79, .int .i64 0)]) (⟨0, rfl, rfl, Nat.zero_le _, hs⟩) (hf.sub ⟨rfl, rfl, rfl, rfl, rfl, rfl, rfl, rfl, rfl, rfl, rfl, rfl, rfl, rfl, rfl, rfl, rfl, rfl, rfl, rfl, rfl, rfl, rfl, rfl, rfl, rfl, rfl, rfl, rfl, rfl, rfl, rfl, rfl, rfl, rfl, trivial⟩) ?_
   clear hf hs a
   rintro M m a w ⟨i, rfl, rfl, hi, hs⟩ hf
   refine wp_seq ?_
   refine wp_region_lit ?_
   refine s_v hf (x_bin (hf.eval rfl) (hf.eval rfl) (r_lt _ _ _ _)) ?_; clear hf a; intro a hf
   refine s_nil ?_
   refine then_n ?_
   refine wp_seq ?_
   refine c_cond hf rfl (fun hi4 => ?_) (fun hi4 => ?_)
   ·simp only [zd1, zd2, zd3, zd4, zd5, zd6, zd7] at hi4
    have hlt : i < N := by omega
    have hlt2 : i < e.ps.length := by omega
    have hlm : i < (e.ps.map pcOf).length := by rw [List.length_map]; omega
    obtain ⟨_, hrd, hdt⟩ := hs.ents .k7 he
    rw [hev] at hrd
    replace hrd := RdS.pre (f := pcF) (sz := 2) (fun _ => rfl) hrd hNl
    have hltk : (e.ps.take N)[i]'(by rw [List.length_take]; omega) = e.ps[i] := List.getElem_take ..
    obtain ⟨ea, rfl⟩ := hrd.some (by rw [List.length_take]; omega)
    have hpd := hdt _ (List.getElem_mem hlt2)
    clear hdt
    have hok9 := ho.pcs
    have hlo : (putsP out ((e.ps.map pcOf).take i)).length = outN s (csz, secs, rest) := by rw [putsP_len]; exact hfd.1
    refine wp_skip ?_
    refine then_n ?_
    refine wp_seq ?_
    refine wp_block ?_
    refine wp_seq ?_
    refine wp_region_lit ?_
    refine s_v hf (x_indexAddr sl125 (hf.eval rfl) (hf.eval rfl) (by omega) (by omega)) ?_; clear hf a; intro a hf
    refine s_r hf (x_loadS (f := pcF) ag127 (fun _ => rfl) hrd (hf.eval rfl) (by simp; omega)) ?_; clear hf a; intro a hf
    replace hf := hf.now (k := 82) (v' := .agg (pcF e.ps[i]).toArray) rfl (by rw [← hltk]; rfl)
    refine s_do hf rfl (y_alloc hs Tryz.zeroValue127 ?_); clear hf hs a; intro b7 w hs a hf
    change St _ _ (cb b7 127 [.int .i64 0, .slice none 0 0] :: _) at hs
    refine s_do0 hf rfl (y_storeAgg (cs := pcF e.ps[i]) hs (n := 2) (by kernel_rfl) (hf.eval rfl) (hf.eval rfl) (pcF_one hpd) rfl rfl .k0 ?_); clear hf hs a; intro w hs a hf
    refine s_nil ?_
    refine then_n ?_
    refine wp_seq ?_
    refine wp_region_lit ?_
    refine s_v hf (x_fieldAddr fo127_0 (hf.eval rfl)) ?_; clear hf a; intro a hf
    refine s_r hf (x_load sc3 (hf.eval rfl) (by first | exact hs.cell .k0 rfl | exact hs.cell .k1 rfl | exact hs.cell .k2 rfl | exact hs.cell .k3 rfl | exact hs.cell .k4 rfl | exact hs.cell .k5 rfl)) ?_; clear hf a; intro a hf
    refine s_m hf rfl ?_; clear hf a; intro a hf
    refine s_v hf (x_bin (hf.eval rfl) (hf.eval rfl) (r_lt _ _ _ _)) ?_; clear hf a; intro a hf
    refine s_nil ?_
    refine then_n ?_
    refine c_cond hf rfl (fun hi5 => ?_) (fun hi5 => ?_)
    ·simp only [zd1, zd2, zd3, zd4, zd5, zd6, zd7] at hi5
     have hat5 : e.ps[i].1 < outN s (csz, secs, rest) := by omega
     refine c_draw hs (fun _ => True) [.held, .held, .read, .held, .held, .read, .fin] (by kernel_rfl) (by kernel_rfl) (fun _ _ _ => trivial) ?_
     clear hs; intro w hs hC hw
     refine m_held hf rfl (fun w' _ => x_move (hf.eval rfl) w') ?_; clear hf a; intro a hf
     refine m_held hf rfl (fun w' _ => x_fieldAddr fo127_0 (hf.eval rfl) w') ?_; clear hf a; intro a hf
     refine m_read hf rfl (x_load sc3 (hf.eval rfl) (by first | exact hs.cell .k0 rfl | exact hs.cell .k1 rfl | exact hs.cell .k2 rfl | exact hs.cell .k3 rfl | exact hs.cell .k4 rfl | exact hs.cell .k5 rfl)) ?_; clear hf a; intro a hf
     refine m_held hf rfl (fun w' _ => x_slice_lo sl22 (hf.eval rfl) (hf.eval rfl)  (by omega) (by omega)  w') ?_; clear hf a; intro a hf
     replace hf := hf.now (k := 90) (v' := .slice (some ⟨fb, e.ps[i].1, none⟩) (outN s (csz, secs, rest) - e.ps[i].1) (outN s (csz, secs, rest) - e.ps[i].1)) rfl (by rw [Int.toNat_natCast, subA_at hat5])
     refine m_held hf rfl (fun w' _ => x_fieldAddr fo127_1 (hf.eval rfl) w') ?_; clear hf a; intro a hf
     refine m_read hf rfl (x_load sc22 (hf.eval rfl) (by first | exact hs.cell .k0 rfl | exact hs.cell .k1 rfl | exact hs.cell .k2 rfl | exact hs.cell .k3 rfl | exact hs.cell .k4 rfl | exact hs.cell .k5 rfl)) ?_; clear hf a; intro a hf
     refine m_fin hf rfl (y_copyB (o := e.ps[i].1) (cur' := putP (putsP out ((e.ps.map pcOf).take i)) (pcOf e.ps[i])) hs sl22 (hf.eval rfl) (hf.eval rfl) (fun _ => rfl) ((hs.ents .k8 he).2.2 _ (List.getElem_mem hlt2)) rfl .k2 (by rw [putP_in (p := pcOf e.ps[i]) (by rw [hlo]; exact hat5), hlo]; rfl) (by rw [hlo]; omega) ?_); clear hf hs a; intro w hs; intro a hf
     have hs9 := hs.drop
     refine blk_n ?_
     refine then_n ?_
     refine wp_region_lit ?_
     refine s_v hf (x_bin (hf.eval rfl) (hf.eval rfl) (r_addi _ (by omega) (by omega))) ?_; clear hf a; intro a hf
     refine s_m hf rfl ?_; clear hf a; intro a hf
     refine s_nil ?_
     exact ⟨_, _, ⟨i + 1, rfl, rfl, by omega, by rw [putsP_take hlm, List.getElem_map]; exact hs9⟩, by omega, hf.sub ⟨rfl, rfl, rfl, rfl, rfl, rfl, rfl, rfl, rfl, rfl, rfl, rfl, rfl, rfl, rfl, rfl, rfl, rfl, rfl, rfl, rfl, rfl, rfl, rfl, rfl, rfl, rfl, rfl, rfl, rfl, rfl, rfl, rfl, rfl, rfl, trivial⟩⟩
    simp only [zd1, zd2, zd3, zd4, zd5, zd6, zd7] at hi5
    have hs9 : St σ w (blk r (.mapIter (some mp) clk (seen.push e.born) clk) :: bb fb 5 (putP (putsP out ((e.ps.map pcOf).take i)) (pcOf e.ps[i])) :: cb cb0 64 [.int .i64 csz, .slice ac secs.length cc, .int .i64 rest] :: dcell 85 p (kilS s) ⟨.slice a1 s.now.length c1, .slice a2 s.dur.length c2, mp, .slice a4 s.sizes.length c4, es, clk⟩ :: slB 5 (.slice a1 s.now.length c1) s.now :: slB 5 (.slice a2 s.dur.length c2) s.dur :: mapA mp es clk :: entsA 127 5 es :: sl 3 1 (.slice a4 s.sizes.length c4) s.sizes.length (szC s.sizes) :: R) := by rw [putP_out (p := pcOf e.ps[i]) (by rw [hlo]; show outN s (csz, secs, rest) ≤ e.ps[i].1; omega)]; exact hs.drop
    refine wp_skip ?_
    refine blk_n ?_
    refine then_n ?_
    refine wp_region_lit ?_
    refine s_v hf (x_bin (hf.eval rfl) (hf.eval rfl) (r_addi _ (by omega) (by omega))) ?_; clear hf a; intro a hf
    refine s_m hf rfl ?_; clear hf a; intro a hf
    refine s_nil ?_
    exact ⟨_, _, ⟨i + 1, rfl, rfl, by omega, by rw [putsP_take hlm, List.getElem_map]; exact hs9⟩, by omega, hf.sub ⟨rfl, rfl, rfl, rfl, rfl, rfl, rfl, rfl, rfl, rfl, rfl, rfl, rfl, rfl, rfl, rfl, rfl, rfl, rfl, rfl, rfl, rfl, rfl, rfl, rfl, rfl, rfl, rfl, rfl, rfl, rfl, rfl, rfl, rfl, rfl, trivial⟩⟩
   simp only [zd1, zd2, zd3, zd4, zd5, zd6, zd7] at hi4
   have hN9 : N = i := by omega
   refine wp_exit ?_
   refine then_x ?_
   refine then_x ?_
   refine blk_x ?_
   refine blk_n ?_
   obtain rfl : i = N := by omega
   have hfd2 := fnd_step ho hm hfd he hns
   exact ⟨_, _, ⟨seen.push e.born, putsP out (keptP s (csz, secs, rest) e.sec), rfl, rfl, by simpa using hfd2, by rw [hkp, ← hN9]; exact hs⟩, unseen_lt he hns, hf.sub ⟨rfl, rfl, rfl, rfl, rfl, rfl, rfl, trivial⟩⟩
  simp only [zd1, zd2, zd3, zd4, zd5, zd6, zd7] at hi3
  replace hf := hf.now (k := 11) (v' := .int .i64 (keepOf (csz, secs, rest) e.sec)) rfl (by rw [keepOf_out (by simp only; omega)])
  refine wp_skip ?_
  refine then_n ?_
  refine wp_seq ?_
  refine wp_region_lit ?_
  refine s_m hf rfl ?_; clear hf a; intro a hf
  refine s_m hf rfl ?_; clear hf a; intro a hf
  refine s_m hf rfl ?_; clear hf a; intro a hf
  refine s_v hf (x_len Tryz.underlying125 (hf.eval rfl)) ?_; clear hf a; intro a hf
  refine s_do hf rfl (y_call (hf.eval rfl) (hf.evals rfl) Tryz.call72 ((upTo_spec _ (keepOf (csz, secs, rest) e.sec) e.ps.length).mono ?_))
  rintro e w1 ⟨rfl, rfl⟩
  obtain ⟨N, hN⟩ : ∃ N : Nat, (N : Int) = max 0 (min (keepOf (csz, secs, rest) e.sec) (e.ps.length : Int)) := ⟨(max 0 (min (keepOf (csz, secs, rest) e.sec) (e.ps.length : Int))).toNat, by omega⟩
  rw [← hN]
  have hNl : N ≤ e.ps.length := by omega
  have hpl9 := ps_len hm hg he
  have hkp : keptP s (csz, secs, rest) e.sec = (e.ps.map pcOf).take N := by rw [kept_eq hm hg he, show N = min (e.ps.map pcOf).length (keepOf (csz, secs, rest) e.sec).toNat by rw [List.length_map]; omega, take_min]
  refine ⟨_, rfl, ?_⟩; clear hf a; intro a hf
  refine s_v hf (x_slice_hi sl125 (hf.eval rfl) (hf.eval rfl)  (by omega) (by omega) ) ?_; clear hf a; intro a hf
  replace hf := hf.now (k := 77) (v' := .slice ea N ec) rfl (rfl)
  refine s_v hf (x_len Tryz.underlying125 (hf.eval rfl)) ?_; clear hf a; intro a hf
  refine s_m hf rfl ?_; clear hf a; intro a hf
  refine s_nil ?_
  refine then_n ?_
  refine wp_block ?_
  refine c_loop (L0 := [(0, _), (3, _), (4, _), (5, _), (6, _), (8, _), (9, _), (10, _), (11, _), (54, _), (55, _), (56, _), (57, _), (58, _), (59, _), (60, _), (61, _), (62, _), (63, _), (64, _), (65, _), (66, _), (72, _), (73, _), (74, _), (75, _), (76, _), (77, _), (78, _)]) (fun M w m => ∃ (i : Nat), M = [(79, .int .i64 (i : Int))] ∧ N - i = m ∧ i ≤ N ∧ St σ w (blk r (.mapIter (some mp) clk (seen.push e.born) clk) :: bb fb 5 (putsP out ((e.ps.map pcOf).take i)) :: cb cb0 64 [.int .i64 csz, .slice ac secs.length cc, .int .i64 rest] :: dcell 85 p (kilS s) ⟨.slice a1 s.now.length c1, .slice a2 s.dur.length c2, mp, .slice a4 s.sizes.length c4, es, clk⟩ :: slB 5 (.slice a1 s.now.length c1) s.now :: slB 5 (.slice a2 s.dur.length c2) s.dur :: mapA mp es clk :: entsA 127 5 es :: sl 3 1 (.slice a4 s.sizes.length c4) s.sizes.length (szC s.sizes) :: R)) (M0 := [(79, .int .i64 0)]) (⟨0, rfl, rfl, Nat.zero_le _, hs⟩) (hf.sub ⟨rfl, rfl, rfl, rfl, rfl, rfl, rfl, rfl, rfl, rfl, rfl, rfl, rfl, rfl, rfl, rfl, rfl, rfl, rfl, rfl, rfl, rfl, rfl, rfl, rfl, rfl, rfl, rfl, rfl, rfl, trivial⟩) ?_
  clear hf hs a
  rintro M m a w ⟨i, rfl, rfl, hi, hs⟩ hf
  refine wp_seq ?_
  refine wp_region_lit ?_
  refine s_v hf (x_bin (hf.eval rfl) (hf.eval rfl) (r_lt _ _ _ _)) ?_; clear hf a; intro a hf
  refine s_nil ?_
  refine then_n ?_
  refine wp_seq ?_
  refine c_cond hf rfl (fun hi4 => ?_) (fun hi4 => ?_)
  ·simp only [zd1, zd2, zd3, zd4, zd5, zd6, zd7] at hi4
   have hlt : i < N := by omega
   have hlt2 : i < e.ps.length := by omega
   have hlm : i < (e.ps.map pcOf).length := by rw [List.length_map]; omega
   obtain ⟨_, hrd, hdt⟩ := hs.ents .k7 he
   rw [hev] at hrd
   replace hrd := RdS.pre (f := pcF) (sz := 2) (fun _ => rfl) hrd hNl
   have hltk : (e.ps.take N)[i]'(by rw [List.length_take]; omega) = e.ps[i] := List.getElem_take ..
   obtain ⟨ea, rfl⟩ := hrd.some (by rw [List.length_take]; omega)
   have hpd := hdt _ (List.getElem_mem hlt2)
   clear hdt
   have hok9 := ho.pcs
   have hlo : (putsP out ((e.ps.map pcOf).take i)).length = outN s (csz, secs, rest) := by rw [putsP_len]; exact hfd.1
   refine wp_skip ?_
   refine then_n ?_
   refine wp_seq ?_
   refine wp_block ?_
   refine wp_seq ?_
   refine wp_region_lit ?_
   refine s_v hf (x_indexAddr sl125 (hf.eval rfl) (hf.eval rfl) (by omega) (by omega)) ?_; clear hf a; intro a hf
   refine s_r hf (x_loadS (f := pcF) ag127 (fun _ => rfl) hrd (hf.eval rfl) (by simp; omega)) ?_; clear hf a; intro a hf
   replace hf := hf.now (k := 82) (v' := .agg (pcF e.ps[i]).toArray) rfl (by rw [← hltk]; rfl)
   refine s_do hf rfl (y_alloc hs Tryz.zeroValue127 ?_); clear hf hs a; intro b7 w hs a hf
   change St _ _ (cb b7 127 [.int .i64 0, .slice none 0 0] :: _) at hs
   refine s_do0 hf rfl (y_storeAgg (cs := pcF e.ps[i]) hs (n := 2) (by kernel_rfl) (hf.eval rfl) (hf.eval rfl) (pcF_one hpd) rfl rfl .k0 ?_); clear hf hs a; intro w hs a hf
   refine s_nil ?_
   refine then_n ?_
   refine wp_seq ?_
   refine wp_region_lit ?_
   refine s_v hf (x_fieldAddr fo127_0 (hf.eval rfl)) ?_; clear hf a; intro a hf
   refine s_r hf (x_load sc3 (hf.eval rfl) (by first | exact hs.cell .k0 rfl | exact hs.cell .k1 rfl | exact hs.cell .k2 rfl | exact hs.cell .k3 rfl | exact hs.cell .k4 rfl | exact hs.cell .k5 rfl)) ?_; clear hf a; intro a hf
   refine s_m hf rfl ?_; clear hf a; intro a hf
   refine s_v hf (x_bin (hf.eval rfl) (hf.eval rfl) (r_lt _ _ _ _)) ?_; clear hf a; intro a hf
   refine s_nil ?_
   refine then_n ?_
   refine c_cond hf rfl (fun hi5 => ?_) (fun hi5 => ?_)
   ·simp only [zd1, zd2, zd3, zd4, zd5, zd6, zd7] at hi5
    have hat5 : e.ps[i].1 < outN s (csz, secs, rest) := by omega
    refine c_draw hs (fun _ => True) [.held, .held, .read, .held, .held, .read, .fin] (by kernel_rfl) (by kernel_rfl) (fun _ _ _ => trivial) ?_
    clear hs; intro w hs hC hw
    refine m_held hf rfl (fun w' _ => x_move (hf.eval rfl) w') ?_; clear hf a; intro a hf
    refine m_held hf rfl (fun w' _ => x_fieldAddr fo127_0 (hf.eval rfl) w') ?_; clear hf a; intro a hf
    refine m_read hf rfl (x_load sc3 (hf.eval rfl) (by first | exact hs.cell .k0 rfl | exact hs.cell .k1 rfl | exact hs.cell .k2 rfl | exact hs.cell .k3 rfl | exact hs.cell .k4 rfl | exact hs.cell .k5 rfl)) ?_; clear hf a; intro a hf
    refine m_held hf rfl (fun w' _ => x_slice_lo sl22 (hf.eval rfl) (hf.eval rfl)  (by omega) (by omega)  w') ?_; clear hf a; intro a hf
    replace hf := hf.now (k := 90) (v' := .slice (some ⟨fb, e.ps[i].1, none⟩) (outN s (csz, secs, rest) - e.ps[i].1) (outN s (csz, secs, rest) - e.ps[i].1)) rfl (by rw [Int.toNat_natCast, subA_at hat5])
    refine m_held hf rfl (fun w' _ => x_fieldAddr fo127_1 (hf.eval rfl) w') ?_; clear hf a; intro a hf
    refine m_read hf rfl (x_load sc22 (hf.eval rfl) (by first | exact hs.cell .k0 rfl | exact hs.cell .k1 rfl | exact hs.cell .k2 rfl | exact hs.cell .k3 rfl | exact hs.cell .k4 rfl | exact hs.cell .k5 rfl)) ?_; clear hf a; intro a hf
    refine m_fin hf rfl (y_copyB (o := e.ps[i].1) (cur' := putP (putsP out ((e.ps.map pcOf).take i)) (pcOf e.ps[i])) hs sl22 (hf.eval rfl) (hf.eval rfl) (fun _ => rfl) ((hs.ents .k8 he).2.2 _ (List.getElem_mem hlt2)) rfl .k2 (by rw [putP_in (p := pcOf e.ps[i]) (by rw [hlo]; exact hat5), hlo]; rfl) (by rw [hlo]; omega) ?_); clear hf hs a; intro w hs; intro a hf
    have hs9 := hs.drop
    refine blk_n ?_
    refine then_n ?_
    refine wp_region_lit ?_
    refine s_v hf (x_bin (hf.eval rfl) (hf.eval rfl) (r_addi _ (by omega) (by omega))) ?_; clear hf a; intro a hf
    refine s_m hf rfl ?_; clear hf a; intro a hf
    refine s_nil ?_
    exact ⟨_, _, ⟨i + 1, rfl, rfl, by omega, by rw [putsP_take hlm, List.getElem_map]; exact hs9⟩, by omega, hf.sub ⟨rfl, rfl, rfl, rfl, rfl, rfl, rfl, rfl, rfl, rfl, rfl, rfl, rfl, rfl, rfl, rfl, rfl, rfl, rfl, rfl, rfl, rfl, rfl, rfl, rfl, rfl, rfl, rfl, rfl, rfl, trivial⟩⟩
   simp only [zd1, zd2, zd3, zd4, zd5, zd6, zd7] at hi5
   have hs9 : St σ w (blk r (.mapIter (some mp) clk (seen.push e.born) clk) :: bb fb 5 (putP (putsP out ((e.ps.map pcOf).take i)) (pcOf e.ps[i])) :: cb cb0 64 [.int .i64 csz, .slice ac secs.length cc, .int .i64 rest] :: dcell 85 p (kilS s) ⟨.slice a1 s.now.length c1, .slice a2 s.dur.length c2, mp, .slice a4 s.sizes.length c4, es, clk⟩ :: slB 5 (.slice a1 s.now.length c1) s.now :: slB 5 (.slice a2 s.dur.length c2) s.dur :: mapA mp es clk :: entsA 127 5 es :: sl 3 1 (.slice a4 s.sizes.length c4) s.sizes.length (szC s.sizes) :: R) := by rw [putP_out (p := pcOf e.ps[i]) (by rw [hlo]; show outN s (csz, secs, rest) ≤ e.ps[i].1; omega)]; exact hs.drop
   refine wp_skip ?_
   refine blk_n ?_
   refine then_n ?_
   refine wp_region_lit ?_
   refine s_v hf (x_bin (hf.eval rfl) (hf.eval rfl) (r_addi _ (by omega) (by omega))) ?_; clear hf a; intro a hf
   refine s_m hf rfl ?_; clear hf a; intro a hf
   refine s_nil ?_
   exact ⟨_, _, ⟨i + 1, rfl, rfl, by omega, by rw [putsP_take hlm, List.getElem_map]; exact hs9⟩, by omega, hf.sub ⟨rfl, rfl, rfl, rfl, rfl, rfl, rfl, rfl, rfl, rfl, rfl, rfl, rfl, rfl, rfl, rfl, rfl, rfl, rfl, rfl, rfl, rfl, rfl, rfl, rfl, rfl, rfl, rfl, rfl, rfl, trivial⟩⟩
  simp only [zd1, zd2, zd3, zd4, zd5, zd6, zd7] at hi4
  have hN9 : N = i := by omega
  refine wp_exit ?_
  refine then_x ?_
  refine then_x ?_
  refine blk_x ?_
  refine blk_n ?_
  obtain rfl : i = N := by omega
  have hfd2 := fnd_step ho hm hfd he hns
  exact ⟨_, _, ⟨seen.push e.born, putsP out (keptP s (csz, secs, rest) e.sec), rfl, rfl, by simpa using hfd2, by rw [hkp, ← hN9]; exact hs⟩, unseen_lt he hns, hf.sub ⟨rfl, rfl, rfl, rfl, rfl, rfl, rfl, trivial⟩⟩
 have hall := hbf hi2
 subst hi2
 replace hs : St σ w (blk r (.mapIter (some mp) clk seen clk) :: bb fb 5 (out) :: cb cb0 64 [.int .i64 csz, .slice ac secs.length cc, .int .i64 rest] :: dcell 85 p (kilS s) ⟨.slice a1 s.now.length c1, .slice a2 s.dur.length c2, mp, .slice a4 s.sizes.length c4, es, clk⟩ :: slB 5 (.slice a1 s.now.length c1) s.now :: slB 5 (.slice a2 s.dur.length c2) s.dur :: mapA mp es clk :: entsA 127 5 es :: sl 3 1 (.slice a4 s.sizes.length c4) s.sizes.length (szC s.sizes) :: R) := hs
 clear hbt hbf
 obtain rfl := fnd_end hg hfd hall
 refine wp_exit ?_
 refine then_x ?_
 refine then_x ?_
 refine blk_x ?_
 refine then_n ?_
 refine wp_seq ?_
 refine wp_region_lit ?_
 refine s_m hf rfl ?_; clear hf a; intro a hf
 replace hf := hf.now (k := 95) (v' := .slice (some ⟨fb, 0, none⟩) (outS s (csz, secs, rest)).length (outN s (csz, secs, rest))) rfl (by rw [outS_length])
 refine s_m hf rfl ?_; clear hf a; intro a hf
 refine s_v hf (x_nilCheck (hf.eval rfl)) ?_; clear hf a; intro a hf
 refine s_v hf (x_fieldAddr fo85_0 (hf.eval rfl)) ?_; clear hf a; intro a hf
 refine s_r hf (x_load sc3 (hf.eval rfl) (by first | exact hs.cell .k0 rfl | exact hs.cell .k1 rfl | exact hs.cell .k2 rfl | exact hs.cell .k3 rfl | exact hs.cell .k4 rfl | exact hs.cell .k5 rfl)) ?_; clear hf a; intro a hf
 refine s_do hf rfl (y_call (hf.eval rfl) (hf.evals rfl) Tryz.call7 ((dNew_in _ _ _ (outS s (csz, secs, rest)) (hs.rdB .k1 (fun h hb => by have h9 := rdB_of_bb hb (Nat.le_refl (outS s (csz, secs, rest)).length) (c := outN s (csz, secs, rest)) (by rw [outS_length]; exact Nat.le_refl _); rwa [List.take_length] at h9)) (by rw [outS_length]; omega) s.room hroom0 hroom1 (by rw [outS_length]; exact hoN)).mono ?_))
 rintro e w1 ⟨p2, rfl, hj⟩
 replace hs := hs.join hj
 simp only [List.cons_append, List.nil_append] at hs
 refine ⟨_, rfl, ?_⟩; clear hf a; intro a hf
 refine s_v hf (x_extract (hf.eval rfl) rfl) ?_; clear hf a; intro a hf
 refine s_v hf (x_extract (hf.eval rfl) rfl) ?_; clear hf a; intro a hf
 refine s_a hf rfl ?_; clear hf a; intro a hf
 refine s_a hf rfl ?_; clear hf a; intro a hf
 refine s_nil ?_
 refine then_n ?_
 refine wp_ret ?_
 refine r_2 hf Tryz.results33 rfl rfl ?_
 refine ⟨p2, rfl, ?_⟩
 replace hs := St.give (L := _) (((hs.lose .k1).lose .k1).lose .k1) .k6
 exact (diskA_close (s := kilS s) (x := ⟨.slice a1 s.now.length c1, .slice a2 s.dur.length c2, mp, .slice a4 s.sizes.length c4, es, clk⟩) hm hg hs).take .k1
end Go.Proofs.YtehakfbfjpolfaaGreatDoor

namespace Go.Proofs.YtehakfbfjpolfaaGreatDoor
open Go Vw
theorem opsR_len (im : List UInt8) (h : im.length ≤ 16777216) : (opsR im).length ≤ 2097155 := by
  rcases look_cases im with ⟨h1, _⟩ | ⟨h1, _⟩ | ⟨h1, k1, _⟩
  · unfold opsR; rw [if_pos h1]; simp
  · rw [opsR_o (by omega) (by omega)]; simp
  · rw [opsR_3 h1]
    have := lkP_small k1 h
    simp only [List.length_append, List.length_map, List.length_cons, List.length_nil]; omega
theorem rec_keeps {s : DS} {k : Nat} (ho : DOk s) (hb : DB s k) : DOk (recS s) ∧ k + 2097155 ≤ k + 2097155 ∧ DB (recS s) (k + 2097155) := by
  refine ⟨?_, Nat.le_refl _, ?_⟩
  · unfold recS; split
    · exact ho
    · exact runS_ok _ ho
  · unfold recS; split
    · exact hb.up (by omega)
    · have := ho.now; have := ho.room1
      exact (runS_b _ ho hb).up (by have := opsR_len s.now (by omega); omega)
theorem cb_rdyS {α : Type} {f : α → List Value} {sz b T : Nat} {σ : Sig} {R R' : List Asrt} {l : List α} {vs : List Value} (tk : Take (cb b T vs) R R') (h : vs = l.flatMap f) (hn : vs.length = l.length * sz) : RdyS f sz σ R (.slice (some ⟨b, 0, none⟩) l.length l.length) l := fun w L hs => by
  subst h
  exact hs.rd (take_append tk L) fun hh hb => rd_rows hb hn
theorem bb_rdy {b T : Nat} {σ : Sig} {R R' : List Asrt} {l : List UInt8} (tk : Take (bb b T l) R R') : Rdy σ R (.slice (some ⟨b, 0, none⟩) l.length l.length) l := fun w L hs => hs.rdB (take_append tk L) fun hh hb => by
  have := rdB_of_bb hb (Nat.le_refl l.length) (Nat.le_refl l.length)
  rwa [List.take_length] at this
theorem bb_rd {b T : Nat} {l : List UInt8} {h : Heaplet} (hb : bb b T l h) : RdB h (.slice (some ⟨b, 0, none⟩) l.length l.length) l := by
  have := rdB_of_bb hb (Nat.le_refl l.length) (Nat.le_refl l.length)
  rwa [List.take_length] at this
theorem small_upd (x y : Option Addr) (m n : Nat) : (updR (newS [7, 8, 9] 4096) 1 4 [(1, x, m, [5]), (3, y, n, [6])]).1 = 0 ∧ (updR (newS [7, 8, 9] 4096) 1 4 [(1, x, m, [5]), (3, y, n, [6])]).2.now = [7, 5, 9, 6] := by
  have h1 : aplE ([7, 8, 9] : List UInt8).length 4 [(1, x, m, [5]), (3, y, n, [6])] = 0 := by
    unfold aplE; rw [if_neg (by simp), if_neg (by simp [rgt, wL])]
  have h2 : aplR [7, 8, 9] 4 [(1, x, m, [5]), (3, y, n, [6])] = [7, 5, 9, 6] := by
    unfold aplR; rw [if_pos h1]; rfl
  have h3 : lkV [7, 8, 9] = ((0, 0, 3), [7, 8, 9]) := forged (c := [7, 8, 9]) (by decide)
  have h4 : lkV [7, 5, 9, 6] = ((0, 0, 4), [7, 5, 9, 6]) := forged (c := [7, 5, 9, 6]) (by decide)
  have e5 : savL (([7, 8, 9] : List UInt8).length : Int) [(1, x, m, [5]), (3, y, n, [6])] = [(1, 2)] := by simp [savL, wL]; decide
  have h5 : filU [7, 8, 9] 4 [(1, x, m, [5]), (3, y, n, [6])] = 2051 := by
    unfold filU bodU; rw [e5]; decide
  have hr : refE (newS [7, 8, 9] 4096) 1 4 [(1, x, m, [5]), (3, y, n, [6])] = 0 := by
    unfold refE
    rw [if_neg (by omega), if_neg (by simp [newS])]
    show (if aplE ([7, 8, 9] : List UInt8).length 4 [(1, x, m, [5]), (3, y, n, [6])] ≠ 0 then _ else if (lkV [7, 8, 9]).1.1 ≠ 0 ∨ (lkV (aplR [7, 8, 9] 4 [(1, x, m, [5]), (3, y, n, [6])])).1.1 ≠ 0 then 141 else if (4096 : Int) < filU [7, 8, 9] 4 [(1, x, m, [5]), (3, y, n, [6])] then 142 else 0) = (0 : Int)
    rw [if_neg (fun h => h h1), h2, h3, h4, if_neg (by simp), h5]
    rfl
  have := (upd_run (idle_new [7, 8, 9] 4096) hr (by simp [newS])).1 (.inl (by simp [newS]))
  exact ⟨this.1, this.2.2.trans h2⟩
theorem quiet1 : lkV [1] = ((0, 0, 1), [1]) := forged (c := [1]) (by decide)
attribute [local irreducible] Vw.sl Vw.lkV Vw.runS Vw.opsU Vw.opsR Vw.aplR Vw.aplE Vw.updR recV recS Vw.zt
theorem small_spec (w0 : World) (hT : Tab 0 (hp w0)) : Calls Tryz.prog 28 #[] w0 fun e w' => e = .returned (.bool true) ∧ Kept w0 w' None_ := by
 have hs := St.start w0 None_
 refine c_enter (N := 29) Tryz.func28 rfl Tryz.ntmps28 (by simp) ?_
 intro a hf
 refine wp_seq ?_
 refine wp_region_lit ?_
 refine s_a hf rfl ?_; clear hf a; intro a hf
 refine s_nil ?_
 refine then_n ?_
 refine wp_seq ?_
 refine wp_region_lit ?_
 refine s_do hf rfl (y_lit (xs := [.const (.int .u8 7), .const (.int .u8 8), .const (.int .u8 9)]) hs sl22 (hf.evals rfl) rfl (by simp [Value.cells]) (by decide) ?_); clear hf hs a; intro b1 w hs a hf
 replace hs : St _ _ (bb b1 5 [7, 8, 9] :: _) := hs
 refine s_do hf rfl (y_call (hf.eval rfl) (hf.evals rfl) Tryz.call7 ((dNew_in _ _ _ [7, 8, 9] (hs.rdB .k0 fun h hb => bb_rd hb) (by simp) 4096 (by omega) (by omega) (by simp)).mono ?_))
 rintro e w1 ⟨p, rfl, hj⟩
 replace hs := hs.join hj
 simp only [List.cons_append, List.nil_append] at hs
 refine ⟨_, rfl, ?_⟩; clear hf a; intro a hf
 refine s_m hf rfl ?_; clear hf a; intro a hf
 refine s_v hf (x_extract (hf.eval rfl) rfl) ?_; clear hf a; intro a hf
 refine s_v hf (x_extract (hf.eval rfl) rfl) ?_; clear hf a; intro a hf
 refine s_a hf rfl ?_; clear hf a; intro a hf
 refine s_a hf rfl ?_; clear hf a; intro a hf
 refine s_nil ?_
 refine then_n ?_
 refine wp_seq ?_
 refine wp_region_lit ?_
 refine s_m hf rfl ?_; clear hf a; intro a hf
 refine s_do hf rfl (y_lit (xs := [.const (.int .u8 5)]) hs sl22 (hf.evals rfl) rfl (by simp [Value.cells]) (by decide) ?_); clear hf hs a; intro b2 w hs a hf
 replace hs : St _ _ (bb b2 5 [5] :: _) := hs
 refine s_r hf (x_build (v := .agg #[.int .i64 1, .slice (some ⟨b2, 0, none⟩) 1 1]) (hf.parts rfl) (fun w => by kernel_rfl) _) ?_; clear hf a; intro a hf
 refine s_do hf rfl (y_lit (xs := [.const (.int .u8 6)]) hs sl22 (hf.evals rfl) rfl (by simp [Value.cells]) (by decide) ?_); clear hf hs a; intro b3 w hs a hf
 replace hs : St _ _ (bb b3 5 [6] :: _) := hs
 refine s_r hf (x_build (v := .agg #[.int .i64 3, .slice (some ⟨b3, 0, none⟩) 1 1]) (hf.parts rfl) (fun w => by kernel_rfl) _) ?_; clear hf a; intro a hf
 refine s_do hf rfl (y_lit (xs := [.tmp 11, .tmp 13]) hs sl23 (hf.evals rfl) rfl (by simp [Value.cells]) (by decide) ?_); clear hf hs a; intro b4 w hs a hf
 replace hs : St _ _ (cb b4 54 (([(1, some ⟨b2, 0, none⟩, 1, [5]), (3, some ⟨b3, 0, none⟩, 1, [6])] : List Wr).flatMap wF) :: _) := hs
 replace hs := hs.take (A := bb b3 5 [6]) (by first | exact .k0 | exact .k1 | exact .k2 | exact .k3 | exact .k4 | exact .k5 | exact .k6 | exact .k7 | exact .k8 | exact .k9 | exact .k10 | exact .k11 | exact .k12 | exact .k13)
 replace hs := hs.take (A := bb b2 5 [5]) (by first | exact .k0 | exact .k1 | exact .k2 | exact .k3 | exact .k4 | exact .k5 | exact .k6 | exact .k7 | exact .k8 | exact .k9 | exact .k10 | exact .k11 | exact .k12 | exact .k13)
 replace hs := hs.take (A := cb b4 54 (([(1, some ⟨b2, 0, none⟩, 1, [5]), (3, some ⟨b3, 0, none⟩, 1, [6])] : List Wr).flatMap wF)) (by first | exact .k0 | exact .k1 | exact .k2 | exact .k3 | exact .k4 | exact .k5 | exact .k6 | exact .k7 | exact .k8 | exact .k9 | exact .k10 | exact .k11 | exact .k12 | exact .k13)
 replace hs := hs.take (A := diskA 85 127 5 3 p (newS [7, 8, 9] 4096)) (by first | exact .k0 | exact .k1 | exact .k2 | exact .k3 | exact .k4 | exact .k5 | exact .k6 | exact .k7 | exact .k8 | exact .k9 | exact .k10 | exact .k11 | exact .k12 | exact .k13)
 obtain ⟨hu1, hu2⟩ := small_upd (some ⟨b2, 0, none⟩) (some ⟨b3, 0, none⟩) 1 1
 refine s_do hf rfl (y_call (hf.eval rfl) (hf.evals rfl) Tryz.call13 ((jupdate_spec w0 _ _ p (newS [7, 8, 9] 4096) hT hs (newS_ok (by omega) (by omega) (by simp)) 0 (newS_b _ _ _) (by omega) 1 4 (some ⟨b4, 0, none⟩) 2 [(1, some ⟨b2, 0, none⟩, 1, [5]), (3, some ⟨b3, 0, none⟩, 1, [6])] (cb_rdyS .k0 rfl rfl) (by simp) (by intro z hz; simp only [List.mem_cons, List.not_mem_nil, or_false] at hz; rcases hz with rfl | rfl; exact ⟨bb_rdy .k1, by simp⟩; exact ⟨bb_rdy .k2, by simp⟩)).mono ?_))
 rintro e w1 ⟨rfl, hs⟩
 rw [hu1]
 obtain ⟨t, ht⟩ : ∃ t, t = (updR (newS [7, 8, 9] 4096) 1 4 [(1, some ⟨b2, 0, none⟩, 1, [5]), (3, some ⟨b3, 0, none⟩, 1, [6])]).2 := ⟨_, rfl⟩
 rw [← ht] at hs hu2
 refine ⟨_, rfl, ?_⟩; clear hf a; intro a hf
 refine s_a hf rfl ?_; clear hf a; intro a hf
 refine s_nil ?_
 refine then_n ?_
 refine wp_seq ?_
 refine wp_region_lit ?_
 refine s_m hf rfl ?_; clear hf a; intro a hf
 refine s_do hf rfl (y_call (hf.eval rfl) (hf.evals rfl) Tryz.call17 ((num_spec _ _).mono ?_))
 rintro e w1 ⟨rfl, hw9⟩
 rw [hw9]
 clear hw9 w1
 refine ⟨_, rfl, ?_⟩; clear hf a; intro a hf
 refine s_v hf (x_bin (hf.eval rfl) (hf.eval rfl) (r_eq _ _ _ _)) ?_; clear hf a; intro a hf
 refine s_m hf rfl ?_; clear hf a; intro a hf
 replace hf := hf.now (k := 19) (v' := .bool true) rfl (congrArg Value.bool (by first | rfl | simp))
 refine s_do hf (wanted_of hf rfl rfl rfl) (.value (x_move (hf.eval rfl) _) ?_); clear hf a; intro a hf
 replace hs := hs.take (A := diskA 85 127 5 3 p t) (by first | exact .k0 | exact .k1 | exact .k2 | exact .k3 | exact .k4 | exact .k5 | exact .k6 | exact .k7 | exact .k8 | exact .k9 | exact .k10 | exact .k11 | exact .k12 | exact .k13)
 refine s_do hf (wanted_of hf rfl rfl rfl) (y_call (hf.eval rfl) (hf.evals rfl) Tryz.call21 ((dImage_spec _ _ _ p t hs (by rw [hu2]; simp)).mono ?_))
 rintro e w1 ⟨e1, f1, rfl, hs⟩
 rw [hu2] at hs ⊢
 refine ⟨_, rfl, ?_⟩; clear hf a; intro a hf
 refine s_do hf (wanted_of hf rfl rfl rfl) (y_lit (xs := [.const (.int .u8 7), .const (.int .u8 5), .const (.int .u8 9), .const (.int .u8 6)]) hs sl22 (hf.evals rfl) rfl (by simp [Value.cells]) (by decide) ?_); clear hf hs a; intro b5 w hs a hf
 replace hs : St _ _ (bb b5 5 [7, 5, 9, 6] :: _) := hs
 refine s_do hf (wanted_of hf rfl rfl rfl) (y_call (hf.eval rfl) (hf.evals rfl) Tryz.call20 ((same_spec _ _ _ [7, 5, 9, 6] (hs.rdB (A := slB 5 (.slice e1 ([7, 5, 9, 6] : List UInt8).length f1) [7, 5, 9, 6]) (by first | exact .k0 | exact .k1 | exact .k2 | exact .k3 | exact .k4 | exact .k5 | exact .k6 | exact .k7 | exact .k8 | exact .k9 | exact .k10 | exact .k11 | exact .k12 | exact .k13) fun h => slB_rd) _ _ [7, 5, 9, 6] (hs.rdB .k0 fun h hb => bb_rd hb) (by simp)).mono ?_))
 rintro e w1 ⟨rfl, hk⟩
 replace hs := hs.ext hk
 refine ⟨_, rfl, ?_⟩; clear hf a; intro a hf
 refine s_v hf (x_pick_t (hf.eval rfl) (hf.eval rfl)) ?_; clear hf a; intro a hf
 refine s_m hf rfl ?_; clear hf a; intro a hf
 replace hf := hf.now (k := 25) (v' := .bool true) rfl (congrArg Value.bool (by first | rfl | simp))
 refine s_do hf (wanted_of hf rfl rfl rfl) (y_lit (xs := [.const (.int .u8 1)]) hs sl22 (hf.evals rfl) rfl (by simp [Value.cells]) (by decide) ?_); clear hf hs a; intro b6 w hs a hf
 replace hs : St _ _ (bb b6 5 [1] :: _) := hs
 refine s_do hf (wanted_of hf rfl rfl rfl) (y_call (hf.eval rfl) (hf.evals rfl) Tryz.call68 ((quiet_spec _ (hT.kept hs.kept) _ _ [1] (hs.rdB .k0 fun h hb => bb_rd hb) (by simp)).mono ?_))
 rintro e w1 ⟨rfl, hk⟩
 replace hs := hs.ext hk
 rw [quiet1]
 refine ⟨_, rfl, ?_⟩; clear hf a; intro a hf
 refine s_v hf (x_pick_t (hf.eval rfl) (hf.eval rfl)) ?_; clear hf a; intro a hf
 refine s_a hf rfl ?_; clear hf a; intro a hf
 refine s_nil ?_
 refine then_n ?_
 refine wp_ret ?_
 refine r_1 hf Tryz.results28 rfl ?_
 exact ⟨by simp, hs.kept⟩
end Go.Proofs.YtehakfbfjpolfaaGreatDoor

namespace Go.Proofs.YtehakfbfjpolfaaGreatDoor
open Go Vw
theorem inSize_spec (w : World) (n : Int) : Calls Tryz.prog 85 #[.int .i64 n] w fun e w' => e = .returned (.bool (decide (0 ≤ n ∧ n ≤ 16777216))) ∧ w' = w := by
 refine c_enter (N := 9) Tryz.func85 rfl Tryz.ntmps85 (by simp) ?_
 intro a hf
 refine wp_seq ?_
 refine wp_region_lit ?_
 refine s_a hf rfl ?_; clear hf a; intro a hf
 refine s_nil ?_
 refine then_n ?_
 refine wp_seq ?_
 refine wp_region_lit ?_
 refine s_m hf rfl ?_; clear hf a; intro a hf
 refine s_v hf (x_bin (hf.eval rfl) (hf.eval rfl) (r_ge _ _ _ _)) ?_; clear hf a; intro a hf
 refine s_m hf rfl ?_; clear hf a; intro a hf
 refine s_bool hf (k := 5) rfl (fun hg1_2 hf' => ?_) (fun hg1_2 hf' => ?_)
 ·clear hf
  have hf := hf'
  clear hf'
  simp only [zd1, zd2, zd3, zd4, zd5, zd6, zd7] at hg1_2
  refine s_do hf (wanted_of hf rfl rfl rfl) (.value (x_move (hf.eval rfl) _) ?_); clear hf a; intro a hf
  refine s_do hf (wanted_of hf rfl rfl rfl) (.value (x_bin (hf.eval rfl) (hf.eval rfl) (r_le _ _ _ _) _) ?_); clear hf a; intro a hf
  refine s_v hf (x_pick_t (hf.eval rfl) (hf.eval rfl)) ?_; clear hf a; intro a hf
  refine s_a hf rfl ?_; clear hf a; intro a hf
  refine s_nil ?_
  refine then_n ?_
  refine wp_ret ?_
  refine r_1 hf Tryz.results85 rfl ?_
  exact ⟨by congr 2; simp; omega, rfl⟩
 clear hf
 have hf := hf'
 clear hf'
 simp only [zd1, zd2, zd3, zd4, zd5, zd6, zd7] at hg1_2
 refine s_pass hf rfl rfl ?_; clear hf a; intro a hf
 refine s_pass hf rfl rfl ?_; clear hf a; intro a hf
 refine s_v hf (x_pick_f (hf.eval rfl) (hf.eval rfl)) ?_; clear hf a; intro a hf
 refine s_a hf rfl ?_; clear hf a; intro a hf
 refine s_nil ?_
 refine then_n ?_
 refine wp_ret ?_
 refine r_1 hf Tryz.results85 rfl ?_
 exact ⟨by congr 2; simp; omega, rfl⟩
theorem rright_spec (w0 : World) (size : Int) (hz : 0 ≤ size) (hz2 : size ≤ 16777216) (aw : Option Addr) (cw : Nat) (ws : List Wr) (hrw : RdS wF 2 (hp w0) (.slice aw ws.length cw) ws) (hlw : ws.length ≤ 1048576) : Calls Tryz.prog 99 #[.int .i64 size, .slice aw ws.length cw] w0 fun e w' => e = .returned (.bool (rgt size ws 0)) ∧ Kept w0 w' None_ := by
 have hs := St.start w0 None_
 refine c_enter (N := 50) Tryz.func99 rfl Tryz.ntmps99 (by simp) ?_
 intro a hf
 refine wp_seq ?_
 refine wp_region_lit ?_
 refine s_a hf rfl ?_; clear hf a; intro a hf
 refine s_nil ?_
 refine then_n ?_
 refine wp_seq ?_
 refine wp_region_lit ?_
 refine s_a hf rfl ?_; clear hf a; intro a hf
 refine s_nil ?_
 refine then_n ?_
 refine wp_seq ?_
 refine wp_seq ?_
 refine wp_region_lit ?_
 refine s_a hf rfl ?_; clear hf a; intro a hf
 refine s_nil ?_
 refine then_n ?_
 refine wp_block ?_
 refine c_loop (L0 := [(0, _), (1, _)]) (fun M w m => ∃ (i : Nat) (en : Int), M = [(5, .int .i64 en), (6, .int .i64 (i : Int))] ∧ ws.length - i = m ∧ i ≤ ws.length ∧ rgt size ws 0 = rgt size (ws.drop i) en ∧ 0 ≤ en ∧ en ≤ 16777216 ∧ St ⟨w0, None_⟩ w []) (M0 := [(5, .int .i64 0), (6, .int .i64 0)]) (⟨0, 0, rfl, rfl, Nat.zero_le _, rfl, by omega, by omega, hs⟩) (hf.sub ⟨rfl, rfl, rfl, rfl, trivial⟩) ?_
 clear hf hs a
 rintro M m a w ⟨i, en, rfl, rfl, hi, hinv, he0, he1, hs⟩ hf
 refine wp_seq ?_
 refine wp_seq ?_
 refine wp_region_lit ?_
 refine s_m hf rfl ?_; clear hf a; intro a hf
 refine s_m hf rfl ?_; clear hf a; intro a hf
 refine s_v hf (x_len Tryz.underlying23 (hf.eval rfl)) ?_; clear hf a; intro a hf
 refine s_v hf (x_bin (hf.eval rfl) (hf.eval rfl) (r_lt _ _ _ _)) ?_; clear hf a; intro a hf
 refine s_nil ?_
 refine then_n ?_
 refine c_cond hf rfl (fun hi0 => ?_) (fun hi0 => ?_)
 ·simp only [zd1, zd2, zd3, zd4, zd5, zd6, zd7] at hi0
  have hlt : i < ws.length := by omega
  obtain ⟨aw, rfl⟩ := hrw.some (by omega)
  refine wp_skip ?_
  refine then_n ?_
  refine wp_seq ?_
  refine wp_block ?_
  refine wp_seq ?_
  refine wp_region_lit ?_
  refine s_m hf rfl ?_; clear hf a; intro a hf
  refine s_m hf rfl ?_; clear hf a; intro a hf
  refine s_v hf (x_indexAddr sl23 (hf.eval rfl) (hf.eval rfl) (by omega) (by omega)) ?_; clear hf a; intro a hf
  refine s_r hf (x_loadS (f := wF) ag54 (fun _ => rfl) (hs.old hrw) (hf.eval rfl) (by simpa using hlt)) ?_; clear hf a; intro a hf
  refine s_do hf rfl (y_alloc hs Tryz.zeroValue54 ?_); clear hf hs a; intro b7 w hs a hf
  change St _ _ (cb b7 54 [.int .i64 0, .slice none 0 0] :: _) at hs
  refine s_do0 hf rfl (y_storeAgg (cs := wF ws[i]) hs (n := 2) (by kernel_rfl) (hf.eval rfl) (hf.eval rfl) (by simp [Value.oneCell', wF]) rfl rfl .k0 ?_); clear hf hs a; intro w hs a hf
  have hwl : wL ws[i] = (ws[i].2.2.2.length : Int) := rfl
  refine s_nil ?_
  refine then_n ?_
  refine wp_seq ?_
  refine wp_seq ?_
  refine wp_region_lit ?_
  refine s_v hf (x_fieldAddr fo54_1 (hf.eval rfl)) ?_; clear hf a; intro a hf
  refine s_r hf (x_load sc22 (hf.eval rfl) (by first | exact hs.cell .k0 rfl | exact hs.cell .k1 rfl | exact hs.cell .k2 rfl | exact hs.cell .k3 rfl | exact hs.cell .k4 rfl | exact hs.cell .k5 rfl)) ?_; clear hf a; intro a hf
  refine s_v hf (x_len Tryz.underlying22 (hf.eval rfl)) ?_; clear hf a; intro a hf
  refine s_v hf (x_bin (hf.eval rfl) (hf.eval rfl) (r_eq _ _ _ _)) ?_; clear hf a; intro a hf
  refine s_m hf rfl ?_; clear hf a; intro a hf
  refine s_bool hf (k := 22) rfl (fun hg6_4 hf' => ?_) (fun hg6_4 hf' => ?_)
  ·clear hf
   have hf := hf'
   clear hf'
   simp only [zd1, zd2, zd3, zd4, zd5, zd6, zd7] at hg6_4
   refine s_pass hf rfl rfl ?_; clear hf a; intro a hf
   refine s_pass hf rfl rfl ?_; clear hf a; intro a hf
   refine s_pass hf rfl rfl ?_; clear hf a; intro a hf
   refine s_pass hf rfl rfl ?_; clear hf a; intro a hf
   refine s_v hf (x_pick_t (hf.eval rfl) (hf.eval rfl)) ?_; clear hf a; intro a hf
   refine s_m hf rfl ?_; clear hf a; intro a hf
   refine s_pass hf rfl rfl ?_; clear hf a; intro a hf
   refine s_pass hf rfl rfl ?_; clear hf a; intro a hf
   refine s_pass hf rfl rfl ?_; clear hf a; intro a hf
   refine s_pass hf rfl rfl ?_; clear hf a; intro a hf
   refine s_v hf (x_pick_t (hf.eval rfl) (hf.eval rfl)) ?_; clear hf a; intro a hf
   refine s_m hf rfl ?_; clear hf a; intro a hf
   refine s_pass hf rfl rfl ?_; clear hf a; intro a hf
   refine s_pass hf rfl rfl ?_; clear hf a; intro a hf
   refine s_pass hf rfl rfl ?_; clear hf a; intro a hf
   refine s_pass hf rfl rfl ?_; clear hf a; intro a hf
   refine s_pass hf rfl rfl ?_; clear hf a; intro a hf
   refine s_pass hf rfl rfl ?_; clear hf a; intro a hf
   refine s_pass hf rfl rfl ?_; clear hf a; intro a hf
   refine s_pass hf rfl rfl ?_; clear hf a; intro a hf
   refine s_v hf (x_pick_t (hf.eval rfl) (hf.eval rfl)) ?_; clear hf a; intro a hf
   refine s_nil ?_
   refine then_n ?_
   refine c_cond_t hf rfl rfl ?_
   refine wp_seq ?_
   refine wp_region_lit ?_
   refine s_a hf rfl ?_; clear hf a; intro a hf
   refine s_nil ?_
   refine then_n ?_
   refine wp_ret ?_
   refine then_r (blk_r (then_r (then_r (blk_r (then_r ?_)))))
   refine r_1 hf Tryz.results99 rfl ?_
   exact ⟨by rw [hinv, rgt_step size _ hlt, if_pos (by omega)], hs.kept⟩
  clear hf
  have hf := hf'
  clear hf'
  simp only [zd1, zd2, zd3, zd4, zd5, zd6, zd7] at hg6_4
  refine s_do hf (wanted_of hf rfl rfl rfl) (.value (x_fieldAddr fo54_0 (hf.eval rfl) _) ?_); clear hf a; intro a hf
  refine s_do hf (wanted_of hf rfl rfl rfl) (.value (x_load sc3 (hf.eval rfl) (by first | exact hs.cell .k0 rfl | exact hs.cell .k1 rfl | exact hs.cell .k2 rfl | exact hs.cell .k3 rfl | exact hs.cell .k4 rfl | exact hs.cell .k5 rfl)) ?_); clear hf a; intro a hf
  refine s_do hf (wanted_of hf rfl rfl rfl) (.value (x_move (hf.eval rfl) _) ?_); clear hf a; intro a hf
  refine s_do hf (wanted_of hf rfl rfl rfl) (.value (x_bin (hf.eval rfl) (hf.eval rfl) (r_lt _ _ _ _) _) ?_); clear hf a; intro a hf
  refine s_v hf (x_pick_f (hf.eval rfl) (hf.eval rfl)) ?_; clear hf a; intro a hf
  refine s_m hf rfl ?_; clear hf a; intro a hf
  refine s_bool hf (k := 28) rfl (fun hg6_10 hf' => ?_) (fun hg6_10 hf' => ?_)
  ·clear hf
   have hf := hf'
   clear hf'
   simp only [zd1, zd2, zd3, zd4, zd5, zd6, zd7] at hg6_10
   refine s_pass hf rfl rfl ?_; clear hf a; intro a hf
   refine s_pass hf rfl rfl ?_; clear hf a; intro a hf
   refine s_pass hf rfl rfl ?_; clear hf a; intro a hf
   refine s_pass hf rfl rfl ?_; clear hf a; intro a hf
   refine s_v hf (x_pick_t (hf.eval rfl) (hf.eval rfl)) ?_; clear hf a; intro a hf
   refine s_m hf rfl ?_; clear hf a; intro a hf
   refine s_pass hf rfl rfl ?_; clear hf a; intro a hf
   refine s_pass hf rfl rfl ?_; clear hf a; intro a hf
   refine s_pass hf rfl rfl ?_; clear hf a; intro a hf
   refine s_pass hf rfl rfl ?_; clear hf a; intro a hf
   refine s_pass hf rfl rfl ?_; clear hf a; intro a hf
   refine s_pass hf rfl rfl ?_; clear hf a; intro a hf
   refine s_pass hf rfl rfl ?_; clear hf a; intro a hf
   refine s_pass hf rfl rfl ?_; clear hf a; intro a hf
   refine s_v hf (x_pick_t (hf.eval rfl) (hf.eval rfl)) ?_; clear hf a; intro a hf
   refine s_nil ?_
   refine then_n ?_
   refine c_cond_t hf rfl rfl ?_
   refine wp_seq ?_
   refine wp_region_lit ?_
   refine s_a hf rfl ?_; clear hf a; intro a hf
   refine s_nil ?_
   refine then_n ?_
   refine wp_ret ?_
   refine then_r (blk_r (then_r (then_r (blk_r (then_r ?_)))))
   refine r_1 hf Tryz.results99 rfl ?_
   exact ⟨by rw [hinv, rgt_step size _ hlt, if_pos (by omega)], hs.kept⟩
  clear hf
  have hf := hf'
  clear hf'
  simp only [zd1, zd2, zd3, zd4, zd5, zd6, zd7] at hg6_10
  refine s_do hf (wanted_of hf rfl rfl rfl) (.value (x_fieldAddr fo54_0 (hf.eval rfl) _) ?_); clear hf a; intro a hf
  refine s_do hf (wanted_of hf rfl rfl rfl) (.value (x_load sc3 (hf.eval rfl) (by first | exact hs.cell .k0 rfl | exact hs.cell .k1 rfl | exact hs.cell .k2 rfl | exact hs.cell .k3 rfl | exact hs.cell .k4 rfl | exact hs.cell .k5 rfl)) ?_); clear hf a; intro a hf
  refine s_do hf (wanted_of hf rfl rfl rfl) (.value (x_move (hf.eval rfl) _) ?_); clear hf a; intro a hf
  refine s_do hf (wanted_of hf rfl rfl rfl) (.value (x_bin (hf.eval rfl) (hf.eval rfl) (r_gt _ _ _ _) _) ?_); clear hf a; intro a hf
  refine s_v hf (x_pick_f (hf.eval rfl) (hf.eval rfl)) ?_; clear hf a; intro a hf
  refine s_m hf rfl ?_; clear hf a; intro a hf
  refine s_bool hf (k := 34) rfl (fun hg6_16 hf' => ?_) (fun hg6_16 hf' => ?_)
  ·clear hf
   have hf := hf'
   clear hf'
   simp only [zd1, zd2, zd3, zd4, zd5, zd6, zd7] at hg6_16
   refine s_pass hf rfl rfl ?_; clear hf a; intro a hf
   refine s_pass hf rfl rfl ?_; clear hf a; intro a hf
   refine s_pass hf rfl rfl ?_; clear hf a; intro a hf
   refine s_pass hf rfl rfl ?_; clear hf a; intro a hf
   refine s_pass hf rfl rfl ?_; clear hf a; intro a hf
   refine s_pass hf rfl rfl ?_; clear hf a; intro a hf
   refine s_pass hf rfl rfl ?_; clear hf a; intro a hf
   refine s_pass hf rfl rfl ?_; clear hf a; intro a hf
   refine s_v hf (x_pick_t (hf.eval rfl) (hf.eval rfl)) ?_; clear hf a; intro a hf
   refine s_nil ?_
   refine then_n ?_
   refine c_cond_t hf rfl rfl ?_
   refine wp_seq ?_
   refine wp_region_lit ?_
   refine s_a hf rfl ?_; clear hf a; intro a hf
   refine s_nil ?_
   refine then_n ?_
   refine wp_ret ?_
   refine then_r (blk_r (then_r (then_r (blk_r (then_r ?_)))))
   refine r_1 hf Tryz.results99 rfl ?_
   exact ⟨by rw [hinv, rgt_step size _ hlt, if_pos (by omega)], hs.kept⟩
  clear hf
  have hf := hf'
  clear hf'
  simp only [zd1, zd2, zd3, zd4, zd5, zd6, zd7] at hg6_16
  refine s_do hf (wanted_of hf rfl rfl rfl) (.value (x_fieldAddr fo54_1 (hf.eval rfl) _) ?_); clear hf a; intro a hf
  refine s_do hf (wanted_of hf rfl rfl rfl) (.value (x_load sc22 (hf.eval rfl) (by first | exact hs.cell .k0 rfl | exact hs.cell .k1 rfl | exact hs.cell .k2 rfl | exact hs.cell .k3 rfl | exact hs.cell .k4 rfl | exact hs.cell .k5 rfl)) ?_); clear hf a; intro a hf
  refine s_do hf (wanted_of hf rfl rfl rfl) (.value (x_len Tryz.underlying22 (hf.eval rfl) _) ?_); clear hf a; intro a hf
  refine s_do hf (wanted_of hf rfl rfl rfl) (.value (x_move (hf.eval rfl) _) ?_); clear hf a; intro a hf
  refine s_do hf (wanted_of hf rfl rfl rfl) (.value (x_fieldAddr fo54_0 (hf.eval rfl) _) ?_); clear hf a; intro a hf
  refine s_do hf (wanted_of hf rfl rfl rfl) (.value (x_load sc3 (hf.eval rfl) (by first | exact hs.cell .k0 rfl | exact hs.cell .k1 rfl | exact hs.cell .k2 rfl | exact hs.cell .k3 rfl | exact hs.cell .k4 rfl | exact hs.cell .k5 rfl)) ?_); clear hf a; intro a hf
  refine s_do hf (wanted_of hf rfl rfl rfl) (.value (x_bin (hf.eval rfl) (hf.eval rfl) (r_subi _ (by omega) (by omega)) _) ?_); clear hf a; intro a hf
  refine s_do hf (wanted_of hf rfl rfl rfl) (.value (x_bin (hf.eval rfl) (hf.eval rfl) (r_gt _ _ _ _) _) ?_); clear hf a; intro a hf
  refine s_v hf (x_pick_f (hf.eval rfl) (hf.eval rfl)) ?_; clear hf a; intro a hf
  refine s_nil ?_
  refine then_n ?_
  refine c_cond hf rfl (fun hi1 => ?_) (fun hi1 => ?_)
  ·simp only [zd1, zd2, zd3, zd4, zd5, zd6, zd7] at hi1
   refine wp_seq ?_
   refine wp_region_lit ?_
   refine s_a hf rfl ?_; clear hf a; intro a hf
   refine s_nil ?_
   refine then_n ?_
   refine wp_ret ?_
   refine then_r (blk_r (then_r (then_r (blk_r (then_r ?_)))))
   refine r_1 hf Tryz.results99 rfl ?_
   exact ⟨by rw [hinv, rgt_step size _ hlt, if_pos (by omega)], hs.kept⟩
  simp only [zd1, zd2, zd3, zd4, zd5, zd6, zd7] at hi1
  refine wp_skip ?_
  refine then_n ?_
  refine wp_region_lit ?_
  refine s_v hf (x_fieldAddr fo54_0 (hf.eval rfl)) ?_; clear hf a; intro a hf
  refine s_r hf (x_load sc3 (hf.eval rfl) (by first | exact hs.cell .k0 rfl | exact hs.cell .k1 rfl | exact hs.cell .k2 rfl | exact hs.cell .k3 rfl | exact hs.cell .k4 rfl | exact hs.cell .k5 rfl)) ?_; clear hf a; intro a hf
  refine s_v hf (x_fieldAddr fo54_1 (hf.eval rfl)) ?_; clear hf a; intro a hf
  refine s_r hf (x_load sc22 (hf.eval rfl) (by first | exact hs.cell .k0 rfl | exact hs.cell .k1 rfl | exact hs.cell .k2 rfl | exact hs.cell .k3 rfl | exact hs.cell .k4 rfl | exact hs.cell .k5 rfl)) ?_; clear hf a; intro a hf
  refine s_v hf (x_len Tryz.underlying22 (hf.eval rfl)) ?_; clear hf a; intro a hf
  refine s_v hf (x_bin (hf.eval rfl) (hf.eval rfl) (r_addi _ (by omega) (by omega))) ?_; clear hf a; intro a hf
  refine s_a hf rfl ?_; clear hf a; intro a hf
  refine s_nil ?_
  refine blk_n ?_
  refine then_n ?_
  refine wp_region_lit ?_
  refine s_m hf rfl ?_; clear hf a; intro a hf
  refine s_v hf (x_bin (hf.eval rfl) (hf.eval rfl) (r_addi _ (by omega) (by omega))) ?_; clear hf a; intro a hf
  refine s_a hf rfl ?_; clear hf a; intro a hf
  refine s_nil ?_
  replace hinv : rgt size ws 0 = rgt size (ws.drop (i + 1)) (ws[i].1 + wL ws[i]) := by rw [hinv, rgt_step size _ hlt, if_neg (by omega)]
  exact ⟨_, _, ⟨i + 1, _, rfl, rfl, by omega, hinv, by omega, by omega, hs.drop⟩, by omega, hf.sub ⟨rfl, rfl, rfl, rfl, trivial⟩⟩
 simp only [zd1, zd2, zd3, zd4, zd5, zd6, zd7] at hi0
 refine wp_exit ?_
 refine then_x ?_
 refine then_x ?_
 refine blk_x ?_
 refine then_n ?_
 refine wp_seq ?_
 refine wp_region_lit ?_
 refine s_a hf rfl ?_; clear hf a; intro a hf
 refine s_nil ?_
 refine then_n ?_
 refine wp_ret ?_
 refine r_1 hf Tryz.results99 rfl ?_
 exact ⟨by rw [hinv, List.drop_of_length_le (by omega)]; rfl, hs.kept⟩
theorem spans_spec (w0 : World) (old : Int) (ho : 0 ≤ old) (ho2 : old ≤ 16777216) (aw : Option Addr) (cw : Nat) (ws : List Wr) (hrw : RdS wF 2 (hp w0) (.slice aw ws.length cw) ws) (hlw : ws.length ≤ 1048576) (hok : ∀ z ∈ ws, 0 ≤ z.1 ∧ z.1 + wL z ≤ 16777216) : Calls Tryz.prog 32 #[.int .i64 old, .slice aw ws.length cw] w0 fun e w' => ∃ v, e = .returned v ∧ St ⟨w0, None_⟩ w' [sl 119 2 v (savL old ws).length ((savL old ws).flatMap spF)] := by
 have hs := (St.start w0 None_).emp (A := sl 119 2 (.slice none 0 0) 0 []) (fun h => ⟨rfl, .inl ⟨rfl, rfl⟩⟩)
 refine c_enter (N := 48) Tryz.func32 rfl Tryz.ntmps32 (by simp) ?_
 intro a hf
 refine wp_seq ?_
 refine wp_region_lit ?_
 refine s_a hf rfl ?_; clear hf a; intro a hf
 refine s_nil ?_
 refine then_n ?_
 refine wp_seq ?_
 refine wp_region_lit ?_
 refine s_a hf rfl ?_; clear hf a; intro a hf
 refine s_nil ?_
 refine then_n ?_
 refine wp_seq ?_
 refine wp_seq ?_
 refine wp_region_lit ?_
 refine s_a hf rfl ?_; clear hf a; intro a hf
 refine s_nil ?_
 refine then_n ?_
 refine wp_block ?_
 refine c_loop (L0 := [(0, _), (1, _), (4, _)]) (fun M w m => ∃ (i : Nat) (v : Value), M = [(5, v), (6, .int .i64 (i : Int))] ∧ ws.length - i = m ∧ i ≤ ws.length ∧ (savL old (ws.take i)).length ≤ i ∧ St ⟨w0, None_⟩ w [sl 119 2 v (savL old (ws.take i)).length ((savL old (ws.take i)).flatMap spF)]) (M0 := [(5, .slice none 0 0), (6, .int .i64 0)]) (⟨0, _, rfl, rfl, Nat.zero_le _, Nat.le_refl _, hs⟩) (hf.sub ⟨rfl, rfl, rfl, rfl, rfl, trivial⟩) ?_
 clear hf hs a
 rintro M m a w ⟨i, v, rfl, rfl, hi, hln, hs⟩ hf
 refine wp_seq ?_
 refine wp_seq ?_
 refine wp_region_lit ?_
 refine s_m hf rfl ?_; clear hf a; intro a hf
 refine s_m hf rfl ?_; clear hf a; intro a hf
 refine s_v hf (x_len Tryz.underlying23 (hf.eval rfl)) ?_; clear hf a; intro a hf
 refine s_v hf (x_bin (hf.eval rfl) (hf.eval rfl) (r_lt _ _ _ _)) ?_; clear hf a; intro a hf
 refine s_nil ?_
 refine then_n ?_
 refine c_cond hf rfl (fun hi0 => ?_) (fun hi0 => ?_)
 ·simp only [zd1, zd2, zd3, zd4, zd5, zd6, zd7] at hi0
  have hlt : i < ws.length := by omega
  obtain ⟨aw, rfl⟩ := hrw.some (by omega)
  obtain ⟨ab, ao2, rfl⟩ := rdS_plain (sz := 2) (fun _ => rfl) (by decide) hrw (by omega)
  have hb := hok _ (List.getElem_mem hlt)
  have hwl : wL ws[i] = (ws[i].2.2.2.length : Int) := rfl
  refine wp_skip ?_
  refine then_n ?_
  refine wp_seq ?_
  refine wp_block ?_
  refine wp_seq ?_
  refine c_draw hs (fun _ => True) [.held, .held, .held, .held, .read, .held, .held, .held, .held, .read, .held, .held, .held] (by kernel_rfl) (by kernel_rfl) (fun _ _ _ => trivial) ?_
  clear hs; intro w hs hC hw
  refine m_held hf rfl (fun w' _ => x_move (hf.eval rfl) w') ?_; clear hf a; intro a hf
  refine m_held hf rfl (fun w' _ => x_move (hf.eval rfl) w') ?_; clear hf a; intro a hf
  refine m_held hf rfl (fun w' _ => x_indexAddr sl23 (hf.eval rfl) (hf.eval rfl) (by omega) (by omega) w') ?_; clear hf a; intro a hf
  replace hf := hf.now (k := 16) (v' := .pointer (some ⟨ab, ao2 + i * 2, none⟩)) rfl (by rw [addr_add]; rfl)
  refine m_held hf rfl (fun w' _ => x_fieldAddr fo54_0 (hf.eval rfl) w') ?_; clear hf a; intro a hf
  refine m_read hf rfl (x_load sc3 (hf.eval rfl) (rdS_cellAt (f := wF) (sz := 2) (fun _ => rfl) (hs.old hrw) (k := 0) hlt rfl)) ?_; clear hf a; intro a hf
  refine m_held hf rfl (fun w' _ => x_move (hf.eval rfl) w') ?_; clear hf a; intro a hf
  refine m_held hf rfl (fun w' _ => x_move (hf.eval rfl) w') ?_; clear hf a; intro a hf
  refine m_held hf rfl (fun w' _ => x_indexAddr sl23 (hf.eval rfl) (hf.eval rfl) (by omega) (by omega) w') ?_; clear hf a; intro a hf
  replace hf := hf.now (k := 21) (v' := .pointer (some ⟨ab, ao2 + i * 2, none⟩)) rfl (by rw [addr_add]; rfl)
  refine m_held hf rfl (fun w' _ => x_fieldAddr fo54_1 (hf.eval rfl) w') ?_; clear hf a; intro a hf
  refine m_read hf rfl (x_load sc22 (hf.eval rfl) (rdS_cellAt (f := wF) (sz := 2) (fun _ => rfl) (hs.old hrw) (k := 1) hlt rfl)) ?_; clear hf a; intro a hf
  refine m_held hf rfl (fun w' _ => x_len Tryz.underlying22 (hf.eval rfl) w') ?_; clear hf a; intro a hf
  refine m_held hf rfl (fun w' _ => x_bin (hf.eval rfl) (hf.eval rfl) (r_addi _ (by omega) (by omega)) w') ?_; clear hf a; intro a hf
  refine m_held hf rfl (fun w' _ => x_assign (hf.eval rfl) w') ?_; clear hf a; intro a hf
  refine m_nil ?_
  refine then_n ?_
  refine wp_seq ?_
  refine wp_seq ?_
  refine wp_region_lit ?_
  refine s_m hf rfl ?_; clear hf a; intro a hf
  refine s_m hf rfl ?_; clear hf a; intro a hf
  refine s_v hf (x_bin (hf.eval rfl) (hf.eval rfl) (r_gt _ _ _ _)) ?_; clear hf a; intro a hf
  refine s_nil ?_
  refine then_n ?_
  refine c_cond hf rfl (fun hi1 => ?_) (fun hi1 => ?_)
  ·simp only [zd1, zd2, zd3, zd4, zd5, zd6, zd7] at hi1
   refine wp_region_lit ?_
   refine s_m hf rfl ?_; clear hf a; intro a hf
   refine s_a hf rfl ?_; clear hf a; intro a hf
   refine s_nil ?_
   refine then_n ?_
   refine wp_seq ?_
   refine wp_region_lit ?_
   replace hf := hf.now (k := 7) (v' := .int .i64 (min old (ws[i].1 + wL ws[i]))) rfl (by congr 1; omega)
   refine s_m hf rfl ?_; clear hf a; intro a hf
   refine s_m hf rfl ?_; clear hf a; intro a hf
   refine s_v hf (x_indexAddr sl23 (hf.eval rfl) (hf.eval rfl) (by omega) (by omega)) ?_; clear hf a; intro a hf
   replace hf := hf.now (k := 32) (v' := .pointer (some ⟨ab, ao2 + i * 2, none⟩)) rfl (by rw [addr_add]; rfl)
   refine s_v hf (x_fieldAddr fo54_0 (hf.eval rfl)) ?_; clear hf a; intro a hf
   refine s_r hf (x_load sc3 (hf.eval rfl) (rdS_cellAt (f := wF) (sz := 2) (fun _ => rfl) (hs.old hrw) (k := 0) hlt rfl)) ?_; clear hf a; intro a hf
   refine s_m hf rfl ?_; clear hf a; intro a hf
   refine s_v hf (x_bin (hf.eval rfl) (hf.eval rfl) (r_lt _ _ _ _)) ?_; clear hf a; intro a hf
   refine s_nil ?_
   refine then_n ?_
   refine c_cond hf rfl (fun hi2 => ?_) (fun hi2 => ?_)
   ·simp only [decide_eq_true_eq, decide_eq_false_iff_not] at hi2
    refine wp_region_lit ?_
    refine s_m hf rfl ?_; clear hf a; intro a hf
    refine s_m hf rfl ?_; clear hf a; intro a hf
    refine s_m hf rfl ?_; clear hf a; intro a hf
    refine s_v hf (x_indexAddr sl23 (hf.eval rfl) (hf.eval rfl) (by omega) (by omega)) ?_; clear hf a; intro a hf
    replace hf := hf.now (k := 40) (v' := .pointer (some ⟨ab, ao2 + i * 2, none⟩)) rfl (by rw [addr_add]; rfl)
    refine s_v hf (x_fieldAddr fo54_0 (hf.eval rfl)) ?_; clear hf a; intro a hf
    refine s_r hf (x_load sc3 (hf.eval rfl) (rdS_cellAt (f := wF) (sz := 2) (fun _ => rfl) (hs.old hrw) (k := 0) hlt rfl)) ?_; clear hf a; intro a hf
    refine s_m hf rfl ?_; clear hf a; intro a hf
    refine s_r hf (x_build (v := .agg #[.int .i64 ws[i].1, .int .i64 (min old (ws[i].1 + wL ws[i]))]) (hf.parts rfl) (fun w => by kernel_rfl) _) ?_; clear hf a; intro a hf
    refine s_do hf rfl (y_lit (xs := [.tmp 44]) hs sl68 (hf.evals rfl) rfl (by simp [Value.cells]) (by decide) ?_); clear hf hs a; intro b2 w hs a hf
    refine s_do hf rfl (y_append (n := (savL old (ws.take i)).length) (m := 1) (ys := [.int .i64 ws[i].1, .int .i64 (min old (ws[i].1 + wL ws[i]))]) hs sl68 (hf.eval rfl) (hf.eval rfl) .k1 (hs.rd .k0 fun h hb => rd_rows hb rfl) (by simp [Value.oneCell']) (by omega) (by rw [maxLen_eq]; omega) ?_); clear hf hs a; intro v2 w hs hv a hf
    have hsv := savL_succ old hlt
    rw [if_pos hi2] at hsv
    have hln2 : (savL old (ws.take (i + 1))).length ≤ i + 1 := by rw [hsv]; simp; omega
    have hs2 : St ⟨w0, None_⟩ w [sl 119 2 v2 (savL old (ws.take (i + 1))).length ((savL old (ws.take (i + 1))).flatMap spF)] := by
      rw [hsv, List.length_append, List.flatMap_append]
      exact hs.lose .k1
    refine s_a hf rfl ?_; clear hf a; intro a hf
    refine s_nil ?_
    refine blk_n ?_
    refine then_n ?_
    refine wp_region_lit ?_
    refine s_m hf rfl ?_; clear hf a; intro a hf
    refine s_v hf (x_bin (hf.eval rfl) (hf.eval rfl) (r_addi _ (by omega) (by omega))) ?_; clear hf a; intro a hf
    refine s_a hf rfl ?_; clear hf a; intro a hf
    refine s_nil ?_
    exact ⟨_, _, ⟨i + 1, _, rfl, rfl, by omega, by first | exact hln2 | (rw [savL_succ old hlt, if_neg hi2]; simp; omega), by first | exact hs2 | (rw [savL_succ old hlt, if_neg hi2, List.append_nil]; exact hs)⟩, by omega, hf.sub ⟨rfl, rfl, rfl, rfl, rfl, trivial⟩⟩
   simp only [decide_eq_true_eq, decide_eq_false_iff_not] at hi2
   refine wp_skip ?_
   refine blk_n ?_
   refine then_n ?_
   refine wp_region_lit ?_
   refine s_m hf rfl ?_; clear hf a; intro a hf
   refine s_v hf (x_bin (hf.eval rfl) (hf.eval rfl) (r_addi _ (by omega) (by omega))) ?_; clear hf a; intro a hf
   refine s_a hf rfl ?_; clear hf a; intro a hf
   refine s_nil ?_
   exact ⟨_, _, ⟨i + 1, _, rfl, rfl, by omega, by first | exact hln2 | (rw [savL_succ old hlt, if_neg hi2]; simp; omega), by first | exact hs2 | (rw [savL_succ old hlt, if_neg hi2, List.append_nil]; exact hs)⟩, by omega, hf.sub ⟨rfl, rfl, rfl, rfl, rfl, trivial⟩⟩
  simp only [zd1, zd2, zd3, zd4, zd5, zd6, zd7] at hi1
  refine wp_skip ?_
  refine then_n ?_
  refine wp_seq ?_
  refine wp_region_lit ?_
  replace hf := hf.now (k := 7) (v' := .int .i64 (min old (ws[i].1 + wL ws[i]))) rfl (by congr 1; omega)
  refine s_m hf rfl ?_; clear hf a; intro a hf
  refine s_m hf rfl ?_; clear hf a; intro a hf
  refine s_v hf (x_indexAddr sl23 (hf.eval rfl) (hf.eval rfl) (by omega) (by omega)) ?_; clear hf a; intro a hf
  replace hf := hf.now (k := 32) (v' := .pointer (some ⟨ab, ao2 + i * 2, none⟩)) rfl (by rw [addr_add]; rfl)
  refine s_v hf (x_fieldAddr fo54_0 (hf.eval rfl)) ?_; clear hf a; intro a hf
  refine s_r hf (x_load sc3 (hf.eval rfl) (rdS_cellAt (f := wF) (sz := 2) (fun _ => rfl) (hs.old hrw) (k := 0) hlt rfl)) ?_; clear hf a; intro a hf
  refine s_m hf rfl ?_; clear hf a; intro a hf
  refine s_v hf (x_bin (hf.eval rfl) (hf.eval rfl) (r_lt _ _ _ _)) ?_; clear hf a; intro a hf
  refine s_nil ?_
  refine then_n ?_
  refine c_cond hf rfl (fun hi2 => ?_) (fun hi2 => ?_)
  ·simp only [decide_eq_true_eq, decide_eq_false_iff_not] at hi2
   refine wp_region_lit ?_
   refine s_m hf rfl ?_; clear hf a; intro a hf
   refine s_m hf rfl ?_; clear hf a; intro a hf
   refine s_m hf rfl ?_; clear hf a; intro a hf
   refine s_v hf (x_indexAddr sl23 (hf.eval rfl) (hf.eval rfl) (by omega) (by omega)) ?_; clear hf a; intro a hf
   replace hf := hf.now (k := 40) (v' := .pointer (some ⟨ab, ao2 + i * 2, none⟩)) rfl (by rw [addr_add]; rfl)
   refine s_v hf (x_fieldAddr fo54_0 (hf.eval rfl)) ?_; clear hf a; intro a hf
   refine s_r hf (x_load sc3 (hf.eval rfl) (rdS_cellAt (f := wF) (sz := 2) (fun _ => rfl) (hs.old hrw) (k := 0) hlt rfl)) ?_; clear hf a; intro a hf
   refine s_m hf rfl ?_; clear hf a; intro a hf
   refine s_r hf (x_build (v := .agg #[.int .i64 ws[i].1, .int .i64 (min old (ws[i].1 + wL ws[i]))]) (hf.parts rfl) (fun w => by kernel_rfl) _) ?_; clear hf a; intro a hf
   refine s_do hf rfl (y_lit (xs := [.tmp 44]) hs sl68 (hf.evals rfl) rfl (by simp [Value.cells]) (by decide) ?_); clear hf hs a; intro b2 w hs a hf
   refine s_do hf rfl (y_append (n := (savL old (ws.take i)).length) (m := 1) (ys := [.int .i64 ws[i].1, .int .i64 (min old (ws[i].1 + wL ws[i]))]) hs sl68 (hf.eval rfl) (hf.eval rfl) .k1 (hs.rd .k0 fun h hb => rd_rows hb rfl) (by simp [Value.oneCell']) (by omega) (by rw [maxLen_eq]; omega) ?_); clear hf hs a; intro v2 w hs hv a hf
   have hsv := savL_succ old hlt
   rw [if_pos hi2] at hsv
   have hln2 : (savL old (ws.take (i + 1))).length ≤ i + 1 := by rw [hsv]; simp; omega
   have hs2 : St ⟨w0, None_⟩ w [sl 119 2 v2 (savL old (ws.take (i + 1))).length ((savL old (ws.take (i + 1))).flatMap spF)] := by
     rw [hsv, List.length_append, List.flatMap_append]
     exact hs.lose .k1
   refine s_a hf rfl ?_; clear hf a; intro a hf
   refine s_nil ?_
   refine blk_n ?_
   refine then_n ?_
   refine wp_region_lit ?_
   refine s_m hf rfl ?_; clear hf a; intro a hf
   refine s_v hf (x_bin (hf.eval rfl) (hf.eval rfl) (r_addi _ (by omega) (by omega))) ?_; clear hf a; intro a hf
   refine s_a hf rfl ?_; clear hf a; intro a hf
   refine s_nil ?_
   exact ⟨_, _, ⟨i + 1, _, rfl, rfl, by omega, by first | exact hln2 | (rw [savL_succ old hlt, if_neg hi2]; simp; omega), by first | exact hs2 | (rw [savL_succ old hlt, if_neg hi2, List.append_nil]; exact hs)⟩, by omega, hf.sub ⟨rfl, rfl, rfl, rfl, rfl, trivial⟩⟩
  simp only [decide_eq_true_eq, decide_eq_false_iff_not] at hi2
  refine wp_skip ?_
  refine blk_n ?_
  refine then_n ?_
  refine wp_region_lit ?_
  refine s_m hf rfl ?_; clear hf a; intro a hf
  refine s_v hf (x_bin (hf.eval rfl) (hf.eval rfl) (r_addi _ (by omega) (by omega))) ?_; clear hf a; intro a hf
  refine s_a hf rfl ?_; clear hf a; intro a hf
  refine s_nil ?_
  exact ⟨_, _, ⟨i + 1, _, rfl, rfl, by omega, by first | exact hln2 | (rw [savL_succ old hlt, if_neg hi2]; simp; omega), by first | exact hs2 | (rw [savL_succ old hlt, if_neg hi2, List.append_nil]; exact hs)⟩, by omega, hf.sub ⟨rfl, rfl, rfl, rfl, rfl, trivial⟩⟩
 simp only [zd1, zd2, zd3, zd4, zd5, zd6, zd7] at hi0
 refine wp_exit ?_
 refine then_x ?_
 refine then_x ?_
 refine blk_x ?_
 refine then_n ?_
 refine wp_seq ?_
 refine wp_region_lit ?_
 refine s_m hf rfl ?_; clear hf a; intro a hf
 refine s_a hf rfl ?_; clear hf a; intro a hf
 refine s_nil ?_
 refine then_n ?_
 refine wp_ret ?_
 refine r_1 hf Tryz.results32 rfl ?_
 have hi9 : i = ws.length := by omega
 subst hi9
 rw [List.take_length] at hs
 exact ⟨_, rfl, hs⟩
theorem savL_len (old : Int) : ∀ l : List Wr, (savL old l).length ≤ l.length
  | [] => Nat.le_refl _
  | z :: l => by
    have := savL_len old l
    unfold savL at this ⊢
    simp only [List.flatMap_cons, List.length_append, List.length_cons]
    have h1 : (if z.1 < min old (z.1 + wL z) then [(z.1, min old (z.1 + wL z))] else []).length ≤ 1 := by split <;> simp
    omega
theorem savL_ok (old : Int) (ho2 : old ≤ 16777216) : ∀ l : List Wr, (∀ z ∈ l, 0 ≤ z.1 ∧ z.1 + wL z ≤ 16777216) → ∀ s ∈ savL old l, 0 ≤ s.1 ∧ s.1 ≤ s.2 ∧ s.2 ≤ 16777216
  | [], _, s, hs => absurd hs (by simp [savL])
  | z :: l, hok, s, hs => by
    have hz := hok z (by simp)
    unfold savL at hs
    simp only [List.flatMap_cons, List.mem_append] at hs
    rcases hs with hs | hs
    · split at hs
      · rename_i h
        simp only [List.mem_singleton] at hs
        subst hs
        simp only
        omega
      · cases hs
    · exact savL_ok old ho2 l (fun y hy => hok y (by simp [hy])) s hs
theorem rneed_b1 (w0 : World) (old size : Int) (aw : Option Addr) (cw : Nat) (ws : List Wr) (hrw : RdS wF 2 (hp w0) (.slice aw ws.length cw) ws) (hlw : ws.length ≤ 1048576) (hb : ¬ ((0 ≤ old ∧ old ≤ 16777216) ∧ (0 ≤ size ∧ size ≤ 16777216))) : Calls Tryz.prog 70 #[.int .i64 old, .int .i64 size, .slice aw ws.length cw] w0 fun e w' => e = .returned (.tuple #[.int .i64 (0), .int .i64 1]) ∧ Kept w0 w' None_ := by
 have hs := St.start w0 None_
 refine c_enter (N := 54) Tryz.func70 rfl Tryz.ntmps70 (by simp) ?_
 intro a hf
 refine wp_seq ?_
 refine wp_region_lit ?_
 refine s_a hf rfl ?_; clear hf a; intro a hf
 refine s_a hf rfl ?_; clear hf a; intro a hf
 refine s_nil ?_
 refine then_n ?_
 refine wp_seq ?_
 refine wp_seq ?_
 refine wp_region_lit ?_
 refine s_m hf rfl ?_; clear hf a; intro a hf
 refine s_do hf rfl (y_call (hf.eval rfl) (hf.evals rfl) Tryz.call85 ((inSize_spec _ _).mono ?_))
 rintro e w1 ⟨rfl, hw⟩
 replace hs : St ⟨w0, None_⟩ w1 [] := by rw [hw]; exact hs
 refine ⟨_, rfl, ?_⟩; clear hf a; intro a hf
 refine s_v hf (x_not (hf.eval rfl)) ?_; clear hf a; intro a hf
 refine s_m hf rfl ?_; clear hf a; intro a hf
 refine s_bool hf (k := 16) rfl (fun hg1_3 hf' => ?_) (fun hg1_3 hf' => ?_)
 ·clear hf
  have hf := hf'
  clear hf'
  simp only [Bool.not_eq_true', Bool.not_eq_false', decide_eq_true_eq, decide_eq_false_iff_not] at hg1_3
  refine s_pass hf rfl rfl ?_; clear hf a; intro a hf
  refine s_pass hf rfl rfl ?_; clear hf a; intro a hf
  refine s_pass hf rfl rfl ?_; clear hf a; intro a hf
  refine s_v hf (x_pick_t (hf.eval rfl) (hf.eval rfl)) ?_; clear hf a; intro a hf
  refine s_nil ?_
  refine then_n ?_
  refine c_cond_t hf rfl (by first | rfl | (simp; omega)) ?_
  refine wp_seq ?_
  refine wp_region_lit ?_
  refine s_a hf rfl ?_; clear hf a; intro a hf
  refine s_a hf rfl ?_; clear hf a; intro a hf
  refine s_nil ?_
  refine then_n ?_
  refine wp_ret ?_
  refine then_r ?_
  refine r_2 hf Tryz.results70 rfl rfl ?_
  exact ⟨rfl, hs.kept⟩
 clear hf
 have hf := hf'
 clear hf'
 simp only [Bool.not_eq_true', Bool.not_eq_false', decide_eq_true_eq, decide_eq_false_iff_not] at hg1_3
 refine s_do hf (wanted_of hf rfl rfl rfl) (.value (x_move (hf.eval rfl) _) ?_); clear hf a; intro a hf
 refine s_do hf (wanted_of hf rfl rfl rfl) (y_call (hf.eval rfl) (hf.evals rfl) Tryz.call85 ((inSize_spec _ _).mono ?_))
 rintro e w1 ⟨rfl, hw⟩
 replace hs : St ⟨w0, None_⟩ w1 [] := by rw [hw]; exact hs
 refine ⟨_, rfl, ?_⟩; clear hf a; intro a hf
 refine s_do hf (wanted_of hf rfl rfl rfl) (.value (x_not (hf.eval rfl) _) ?_); clear hf a; intro a hf
 refine s_v hf (x_pick_f (hf.eval rfl) (hf.eval rfl)) ?_; clear hf a; intro a hf
 refine s_nil ?_
 refine then_n ?_
 refine c_cond_t hf rfl (by first | rfl | (simp; omega)) ?_
 refine wp_seq ?_
 refine wp_region_lit ?_
 refine s_a hf rfl ?_; clear hf a; intro a hf
 refine s_a hf rfl ?_; clear hf a; intro a hf
 refine s_nil ?_
 refine then_n ?_
 refine wp_ret ?_
 refine then_r ?_
 refine r_2 hf Tryz.results70 rfl rfl ?_
 exact ⟨rfl, hs.kept⟩
theorem rneed_b2 (w0 : World) (old size : Int) (aw : Option Addr) (cw : Nat) (ws : List Wr) (hrw : RdS wF 2 (hp w0) (.slice aw ws.length cw) ws) (hlw : ws.length ≤ 1048576) (h1 : 0 ≤ old ∧ old ≤ 16777216) (h2 : 0 ≤ size ∧ size ≤ 16777216) (hr : rgt size ws 0 = false) : Calls Tryz.prog 70 #[.int .i64 old, .int .i64 size, .slice aw ws.length cw] w0 fun e w' => e = .returned (.tuple #[.int .i64 (0), .int .i64 143]) ∧ Kept w0 w' None_ := by
 have hs := St.start w0 None_
 refine c_enter (N := 54) Tryz.func70 rfl Tryz.ntmps70 (by simp) ?_
 intro a hf
 refine wp_seq ?_
 refine wp_region_lit ?_
 refine s_a hf rfl ?_; clear hf a; intro a hf
 refine s_a hf rfl ?_; clear hf a; intro a hf
 refine s_nil ?_
 refine then_n ?_
 refine wp_seq ?_
 refine wp_seq ?_
 refine wp_region_lit ?_
 refine s_m hf rfl ?_; clear hf a; intro a hf
 refine s_do hf rfl (y_call (hf.eval rfl) (hf.evals rfl) Tryz.call85 ((inSize_spec _ _).mono ?_))
 rintro e w1 ⟨rfl, hw⟩
 replace hs : St ⟨w0, None_⟩ w1 [] := by rw [hw]; exact hs
 refine ⟨_, rfl, ?_⟩; clear hf a; intro a hf
 refine s_v hf (x_not (hf.eval rfl)) ?_; clear hf a; intro a hf
 refine s_m hf rfl ?_; clear hf a; intro a hf
 replace hf := hf.now (k := 16) (v' := .bool false) rfl (congrArg Value.bool (by simp; omega))
 refine s_do hf (wanted_of hf rfl rfl rfl) (.value (x_move (hf.eval rfl) _) ?_); clear hf a; intro a hf
 refine s_do hf (wanted_of hf rfl rfl rfl) (y_call (hf.eval rfl) (hf.evals rfl) Tryz.call85 ((inSize_spec _ _).mono ?_))
 rintro e w1 ⟨rfl, hw⟩
 replace hs : St ⟨w0, None_⟩ w1 [] := by rw [hw]; exact hs
 refine ⟨_, rfl, ?_⟩; clear hf a; intro a hf
 refine s_do hf (wanted_of hf rfl rfl rfl) (.value (x_not (hf.eval rfl) _) ?_); clear hf a; intro a hf
 refine s_v hf (x_pick_f (hf.eval rfl) (hf.eval rfl)) ?_; clear hf a; intro a hf
 refine s_nil ?_
 refine then_n ?_
 refine c_cond_f hf rfl (by simp; omega) ?_
 refine wp_skip ?_
 refine then_n ?_
 refine wp_seq ?_
 refine wp_region_lit ?_
 refine s_m hf rfl ?_; clear hf a; intro a hf
 refine s_m hf rfl ?_; clear hf a; intro a hf
 refine s_do hf rfl (y_call (hf.eval rfl) (hf.evals rfl) Tryz.call99 ((rright_spec _ size h2.1 h2.2 _ _ ws (hs.old hrw) hlw).mono ?_))
 rintro e w1 ⟨rfl, hk⟩
 replace hs := hs.ext hk
 refine ⟨_, rfl, ?_⟩; clear hf a; intro a hf
 refine s_a hf rfl ?_; clear hf a; intro a hf
 refine s_nil ?_
 refine then_n ?_
 refine wp_seq ?_
 refine wp_seq ?_
 refine wp_region_lit ?_
 refine s_m hf rfl ?_; clear hf a; intro a hf
 refine s_v hf (x_not (hf.eval rfl)) ?_; clear hf a; intro a hf
 refine s_nil ?_
 refine then_n ?_
 refine c_cond_t hf rfl (by rw [hr]; rfl) ?_
 refine wp_seq ?_
 refine wp_region_lit ?_
 refine s_a hf rfl ?_; clear hf a; intro a hf
 refine s_a hf rfl ?_; clear hf a; intro a hf
 refine s_nil ?_
 refine then_n ?_
 refine wp_ret ?_
 refine then_r ?_
 refine r_2 hf Tryz.results70 rfl rfl ?_
 exact ⟨rfl, hs.kept⟩
theorem rneed_ok (w0 : World) (old size : Int) (aw : Option Addr) (cw : Nat) (ws : List Wr) (hrw : RdS wF 2 (hp w0) (.slice aw ws.length cw) ws) (hlw : ws.length ≤ 1048576) (h1 : 0 ≤ old ∧ old ≤ 16777216) (h2 : 0 ≤ size ∧ size ≤ 16777216) (hr : rgt size ws 0 = true) : Calls Tryz.prog 70 #[.int .i64 old, .int .i64 size, .slice aw ws.length cw] w0 fun e w' => e = .returned (.tuple #[.int .i64 (filZ old size (lonZ (savL old ws))), .int .i64 0]) ∧ Kept w0 w' None_ := by
 have hs := St.start w0 None_
 have hok : ∀ z ∈ ws, 0 ≤ z.1 ∧ z.1 + wL z ≤ 16777216 := fun z hz => by have := rgt_all size ws 0 (by omega) hr z hz; omega
 refine c_enter (N := 54) Tryz.func70 rfl Tryz.ntmps70 (by simp) ?_
 intro a hf
 refine wp_seq ?_
 refine wp_region_lit ?_
 refine s_a hf rfl ?_; clear hf a; intro a hf
 refine s_a hf rfl ?_; clear hf a; intro a hf
 refine s_nil ?_
 refine then_n ?_
 refine wp_seq ?_
 refine wp_seq ?_
 refine wp_region_lit ?_
 refine s_m hf rfl ?_; clear hf a; intro a hf
 refine s_do hf rfl (y_call (hf.eval rfl) (hf.evals rfl) Tryz.call85 ((inSize_spec _ _).mono ?_))
 rintro e w1 ⟨rfl, hw⟩
 replace hs : St ⟨w0, None_⟩ w1 [] := by rw [hw]; exact hs
 refine ⟨_, rfl, ?_⟩; clear hf a; intro a hf
 refine s_v hf (x_not (hf.eval rfl)) ?_; clear hf a; intro a hf
 refine s_m hf rfl ?_; clear hf a; intro a hf
 replace hf := hf.now (k := 16) (v' := .bool false) rfl (congrArg Value.bool (by simp; omega))
 refine s_do hf (wanted_of hf rfl rfl rfl) (.value (x_move (hf.eval rfl) _) ?_); clear hf a; intro a hf
 refine s_do hf (wanted_of hf rfl rfl rfl) (y_call (hf.eval rfl) (hf.evals rfl) Tryz.call85 ((inSize_spec _ _).mono ?_))
 rintro e w1 ⟨rfl, hw⟩
 replace hs : St ⟨w0, None_⟩ w1 [] := by rw [hw]; exact hs
 refine ⟨_, rfl, ?_⟩; clear hf a; intro a hf
 refine s_do hf (wanted_of hf rfl rfl rfl) (.value (x_not (hf.eval rfl) _) ?_); clear hf a; intro a hf
 refine s_v hf (x_pick_f (hf.eval rfl) (hf.eval rfl)) ?_; clear hf a; intro a hf
 refine s_nil ?_
 refine then_n ?_
 refine c_cond_f hf rfl (by simp; omega) ?_
 refine wp_skip ?_
 refine then_n ?_
 refine wp_seq ?_
 refine wp_region_lit ?_
 refine s_m hf rfl ?_; clear hf a; intro a hf
 refine s_m hf rfl ?_; clear hf a; intro a hf
 refine s_do hf rfl (y_call (hf.eval rfl) (hf.evals rfl) Tryz.call99 ((rright_spec _ size h2.1 h2.2 _ _ ws (hs.old hrw) hlw).mono ?_))
 rintro e w1 ⟨rfl, hk⟩
 replace hs := hs.ext hk
 refine ⟨_, rfl, ?_⟩; clear hf a; intro a hf
 refine s_a hf rfl ?_; clear hf a; intro a hf
 refine s_nil ?_
 refine then_n ?_
 refine wp_seq ?_
 refine wp_seq ?_
 refine wp_region_lit ?_
 refine s_m hf rfl ?_; clear hf a; intro a hf
 refine s_v hf (x_not (hf.eval rfl)) ?_; clear hf a; intro a hf
 refine s_nil ?_
 refine then_n ?_
 refine c_cond_f hf rfl (by rw [hr]; rfl) ?_
 refine wp_skip ?_
 refine then_n ?_
 refine wp_seq ?_
 refine wp_region_lit ?_
 refine s_a hf rfl ?_; clear hf a; intro a hf
 refine s_nil ?_
 refine then_n ?_
 refine wp_seq ?_
 refine wp_region_lit ?_
 refine s_m hf rfl ?_; clear hf a; intro a hf
 refine s_m hf rfl ?_; clear hf a; intro a hf
 refine s_do hf rfl (y_call (hf.eval rfl) (hf.evals rfl) Tryz.call32 ((spans_spec _ old h1.1 h1.2 _ _ ws (hs.old hrw) hlw hok).mono ?_))
 rintro e w1 ⟨v4, rfl, hj⟩
 replace hs := hs.join hj
 simp only [List.cons_append, List.nil_append] at hs
 obtain ⟨a4, c4, rfl⟩ := sl_shape hs
 have hsl4 := savL_len old ws
 refine ⟨_, rfl, ?_⟩; clear hf a; intro a hf
 refine s_a hf rfl ?_; clear hf a; intro a hf
 refine s_nil ?_
 refine then_n ?_
 refine wp_seq ?_
 refine wp_seq ?_
 refine wp_region_lit ?_
 refine s_a hf rfl ?_; clear hf a; intro a hf
 refine s_nil ?_
 refine then_n ?_
 refine wp_block ?_
 refine c_loop (L0 := [(0, _), (1, _), (6, _), (7, _), (10, _)]) (fun M w m => ∃ i : Nat, M = [(9, .int .i64 (lonZ ((savL old ws).take i))), (11, .int .i64 (i : Int))] ∧ (savL old ws).length - i = m ∧ i ≤ (savL old ws).length ∧ 0 ≤ lonZ ((savL old ws).take i) ∧ lonZ ((savL old ws).take i) ≤ 16777224 * i ∧ St ⟨w0, None_⟩ w [sl 119 2 (.slice a4 (savL old ws).length c4) (savL old ws).length ((savL old ws).flatMap spF)]) (M0 := [(9, .int .i64 0), (11, .int .i64 0)]) (⟨0, rfl, rfl, Nat.zero_le _, by simp [lonZ], by simp [lonZ], hs⟩) (hf.sub ⟨rfl, rfl, rfl, rfl, rfl, rfl, rfl, trivial⟩) ?_
 clear hf hs a
 rintro M m a w ⟨i, rfl, rfl, hi, hn0, hn1, hs⟩ hf
 refine wp_seq ?_
 refine wp_seq ?_
 refine wp_region_lit ?_
 refine s_m hf rfl ?_; clear hf a; intro a hf
 refine s_m hf rfl ?_; clear hf a; intro a hf
 refine s_v hf (x_len Tryz.underlying68 (hf.eval rfl)) ?_; clear hf a; intro a hf
 refine s_v hf (x_bin (hf.eval rfl) (hf.eval rfl) (r_lt _ _ _ _)) ?_; clear hf a; intro a hf
 refine s_nil ?_
 refine then_n ?_
 refine c_cond hf rfl (fun hi2 => ?_) (fun hi2 => ?_)
 ·simp only [zd1, zd2, zd3, zd4, zd5, zd6, zd7] at hi2
  have hlt : i < (savL old ws).length := by omega
  have hrd : RdS spF 2 (hp w) (.slice a4 (savL old ws).length c4) (savL old ws) := hs.rd .k0 fun h hh => sl_rd hh
  obtain ⟨a4, rfl⟩ := hrd.some (by omega)
  obtain ⟨ab, ao2, rfl⟩ := rdS_plain (sz := 2) (fun _ => rfl) (by decide) hrd (by omega)
  clear hrd
  have hb := savL_ok old h1.2 ws hok _ (List.getElem_mem hlt)
  refine wp_skip ?_
  refine then_n ?_
  refine wp_seq ?_
  refine wp_block ?_
  refine c_draw hs (fun _ => True) [.held, .held, .held, .held, .held, .held, .read, .held, .held, .held, .held, .held, .read, .held, .held] (by kernel_rfl) (by kernel_rfl) (fun _ _ _ => trivial) ?_
  clear hs; intro w hs hC hw
  have hrd : RdS spF 2 (hp w) (.slice (some ⟨ab, ao2, none⟩) (savL old ws).length c4) (savL old ws) := hs.rd .k0 fun h hh => sl_rd hh
  refine m_held hf rfl (fun w' _ => x_move (hf.eval rfl) w') ?_; clear hf a; intro a hf
  refine m_held hf rfl (fun w' _ => x_bin (hf.eval rfl) (hf.eval rfl) (r_addi _ (by omega) (by omega)) w') ?_; clear hf a; intro a hf
  refine m_held hf rfl (fun w' _ => x_move (hf.eval rfl) w') ?_; clear hf a; intro a hf
  refine m_held hf rfl (fun w' _ => x_move (hf.eval rfl) w') ?_; clear hf a; intro a hf
  refine m_held hf rfl (fun w' _ => x_indexAddr sl68 (hf.eval rfl) (hf.eval rfl) (by omega) (by omega) w') ?_; clear hf a; intro a hf
  replace hf := hf.now (k := 39) (v' := .pointer (some ⟨ab, ao2 + i * 2, none⟩)) rfl (by rw [addr_add]; rfl)
  refine m_held hf rfl (fun w' _ => x_fieldAddr fo119_1 (hf.eval rfl) w') ?_; clear hf a; intro a hf
  refine m_read hf rfl (x_load sc3 (hf.eval rfl) (rdS_cellAt (f := spF) (sz := 2) (fun _ => rfl) hrd (k := 1) hlt rfl)) ?_; clear hf a; intro a hf
  refine m_held hf rfl (fun w' _ => x_bin (hf.eval rfl) (hf.eval rfl) (r_addi _ (by omega) (by omega)) w') ?_; clear hf a; intro a hf
  refine m_held hf rfl (fun w' _ => x_move (hf.eval rfl) w') ?_; clear hf a; intro a hf
  refine m_held hf rfl (fun w' _ => x_move (hf.eval rfl) w') ?_; clear hf a; intro a hf
  refine m_held hf rfl (fun w' _ => x_indexAddr sl68 (hf.eval rfl) (hf.eval rfl) (by omega) (by omega) w') ?_; clear hf a; intro a hf
  replace hf := hf.now (k := 45) (v' := .pointer (some ⟨ab, ao2 + i * 2, none⟩)) rfl (by rw [addr_add]; rfl)
  refine m_held hf rfl (fun w' _ => x_fieldAddr fo119_0 (hf.eval rfl) w') ?_; clear hf a; intro a hf
  refine m_read hf rfl (x_load sc3 (hf.eval rfl) (rdS_cellAt (f := spF) (sz := 2) (fun _ => rfl) hrd (k := 0) hlt rfl)) ?_; clear hf a; intro a hf
  refine m_held hf rfl (fun w' _ => x_bin (hf.eval rfl) (hf.eval rfl) (r_subi _ (by omega) (by omega)) w') ?_; clear hf a; intro a hf
  refine m_held hf rfl (fun w' _ => x_assign (hf.eval rfl) w') ?_; clear hf a; intro a hf
  refine m_nil ?_
  refine blk_n ?_
  refine then_n ?_
  refine wp_region_lit ?_
  refine s_m hf rfl ?_; clear hf a; intro a hf
  refine s_v hf (x_bin (hf.eval rfl) (hf.eval rfl) (r_addi _ (by omega) (by omega))) ?_; clear hf a; intro a hf
  refine s_a hf rfl ?_; clear hf a; intro a hf
  refine s_nil ?_
  have hlz := lonZ_succ hlt
  replace hf := hf.now (k := 9) (v' := .int .i64 (lonZ ((savL old ws).take (i + 1)))) rfl (by rw [hlz]; congr 1; omega)
  exact ⟨_, _, ⟨i + 1, rfl, rfl, by omega, by omega, by omega, hs⟩, by omega, hf.sub ⟨rfl, rfl, rfl, rfl, rfl, rfl, rfl, trivial⟩⟩
 simp only [zd1, zd2, zd3, zd4, zd5, zd6, zd7] at hi2
 refine wp_exit ?_
 refine then_x ?_
 refine then_x ?_
 refine blk_x ?_
 refine then_n ?_
 refine wp_seq ?_
 refine wp_region_lit ?_
 refine s_m hf rfl ?_; clear hf a; intro a hf
 refine s_m hf rfl ?_; clear hf a; intro a hf
 refine s_m hf rfl ?_; clear hf a; intro a hf
 have hi9 : i = (savL old ws).length := by omega
 subst hi9
 rw [List.take_length] at hf hn0 hn1
 refine s_do hf rfl (y_call (hf.eval rfl) (hf.evals rfl) Tryz.call51 ((file_spec _ old size _ h1.1 h1.2 h2.1 h2.2 hn0 (by omega)).mono ?_))
 rintro e w1 ⟨rfl, hk⟩
 replace hs := hs.ext hk
 refine ⟨_, rfl, ?_⟩; clear hf a; intro a hf
 refine s_a hf rfl ?_; clear hf a; intro a hf
 refine s_nil ?_
 refine then_n ?_
 refine wp_seq ?_
 refine wp_region_lit ?_
 refine s_m hf rfl ?_; clear hf a; intro a hf
 refine s_a hf rfl ?_; clear hf a; intro a hf
 refine s_a hf rfl ?_; clear hf a; intro a hf
 refine s_nil ?_
 refine then_n ?_
 refine wp_ret ?_
 refine r_2 hf Tryz.results70 rfl rfl ?_
 exact ⟨rfl, hs.kept⟩
theorem rapply_spec (w0 : World) (a1 : Option Addr) (c1 : Nat) (content : List UInt8) (hr1 : RdB (hp w0) (.slice a1 content.length c1) content) (hl1 : content.length ≤ 140737488351232) (size : Int) (aw : Option Addr) (cw : Nat) (ws : List Wr) (hrw : RdS wF 2 (hp w0) (.slice aw ws.length cw) ws) (hlw : ws.length ≤ 1048576) (hgd : ∀ z ∈ ws, RdB (hp w0) (.slice z.2.1 z.2.2.2.length z.2.2.1) z.2.2.2 ∧ z.2.2.2.length ≤ 1048576) (V : List UInt8) (hV : V = aplR content size ws) (E : Int) (hE : E = aplE content.length size ws) : Calls Tryz.prog 69 #[.slice a1 content.length c1, .int .i64 size, .slice aw ws.length cw] w0 fun e w' => ∃ a c, e = .returned (.tuple #[.slice a V.length c, .int .i64 E]) ∧ St ⟨w0, None_⟩ w' [slB 5 (.slice a V.length c) V] := by
 have hs := St.start w0 None_
 refine c_enter (N := 80) Tryz.func69 rfl Tryz.ntmps69 (by simp) ?_
 intro a hf
 refine wp_seq ?_
 refine wp_region_lit ?_
 refine s_a hf rfl ?_; clear hf a; intro a hf
 refine s_a hf rfl ?_; clear hf a; intro a hf
 refine s_nil ?_
 refine then_n ?_
 refine wp_seq ?_
 refine wp_seq ?_
 refine wp_region_lit ?_
 refine s_m hf rfl ?_; clear hf a; intro a hf
 refine s_v hf (x_len Tryz.underlying22 (hf.eval rfl)) ?_; clear hf a; intro a hf
 refine s_v hf (x_bin (hf.eval rfl) (hf.eval rfl) (r_gt _ _ _ _)) ?_; clear hf a; intro a hf
 refine s_m hf rfl ?_; clear hf a; intro a hf
 refine s_bool hf (k := 16) rfl (fun hg1_3 hf' => ?_) (fun hg1_3 hf' => ?_)
 ·clear hf
  have hf := hf'
  clear hf'
  simp only [zd1, zd2, zd3, zd4] at hg1_3
  refine s_pass hf rfl rfl ?_; clear hf a; intro a hf
  refine s_pass hf rfl rfl ?_; clear hf a; intro a hf
  refine s_pass hf rfl rfl ?_; clear hf a; intro a hf
  refine s_v hf (x_pick_t (hf.eval rfl) (hf.eval rfl)) ?_; clear hf a; intro a hf
  refine s_nil ?_
  refine then_n ?_
  refine c_cond_t hf rfl rfl ?_
  refine wp_seq ?_
  refine wp_region_lit ?_
  refine s_a hf rfl ?_; clear hf a; intro a hf
  refine s_a hf rfl ?_; clear hf a; intro a hf
  refine s_nil ?_
  refine then_n ?_
  refine wp_ret ?_
  refine then_r ?_
  refine r_2 hf Tryz.results69 rfl rfl ?_
  have hE0 : E = 1 := by rw [hE]; unfold aplE; rw [if_pos (by omega)]
  have hV0 : V = [] := by rw [hV]; unfold aplR; rw [if_neg (by rw [← hE, hE0]; decide)]
  rw [hE0, hV0]
  exact ⟨none, 0, rfl, hs.emp (slB_nil _)⟩
 clear hf
 have hf := hf'
 clear hf'
 simp only [zd1, zd2, zd3, zd4] at hg1_3
 refine s_do hf (wanted_of hf rfl rfl rfl) (.value (x_move (hf.eval rfl) _) ?_); clear hf a; intro a hf
 refine s_do hf (wanted_of hf rfl rfl rfl) (y_call (hf.eval rfl) (hf.evals rfl) Tryz.call85 ((inSize_spec _ _).mono ?_))
 rintro e w1 ⟨rfl, hw9⟩
 rw [hw9]
 clear hw9 w1
 refine ⟨_, rfl, ?_⟩; clear hf a; intro a hf
 refine s_do hf (wanted_of hf rfl rfl rfl) (.value (x_not (hf.eval rfl) _) ?_); clear hf a; intro a hf
 refine s_v hf (x_pick_f (hf.eval rfl) (hf.eval rfl)) ?_; clear hf a; intro a hf
 refine s_nil ?_
 refine then_n ?_
 refine c_cond hf rfl (fun hi0 => ?_) (fun hi0 => ?_)
 ·first | simp only [zd1, zd2, zd3, zd4] at hi0 | skip
  refine wp_seq ?_
  refine wp_region_lit ?_
  refine s_a hf rfl ?_; clear hf a; intro a hf
  refine s_a hf rfl ?_; clear hf a; intro a hf
  refine s_nil ?_
  refine then_n ?_
  refine wp_ret ?_
  refine then_r ?_
  refine r_2 hf Tryz.results69 rfl rfl ?_
  have hE0 : E = 1 := by rw [hE]; unfold aplE; rw [if_pos (by omega)]
  have hV0 : V = [] := by rw [hV]; unfold aplR; rw [if_neg (by rw [← hE, hE0]; decide)]
  rw [hE0, hV0]
  exact ⟨none, 0, rfl, hs.emp (slB_nil _)⟩
 first | simp only [zd1, zd2, zd3, zd4] at hi0 | skip
 have hsz : 0 ≤ size ∧ size ≤ 16777216 := hi0
 refine wp_skip ?_
 refine then_n ?_
 refine wp_seq ?_
 refine wp_region_lit ?_
 refine s_m hf rfl ?_; clear hf a; intro a hf
 refine s_m hf rfl ?_; clear hf a; intro a hf
 refine s_do hf rfl (y_call (hf.eval rfl) (hf.evals rfl) Tryz.call99 ((rright_spec _ size hsz.1 hsz.2 _ _ ws (hs.old hrw) hlw).mono ?_))
 rintro e w1 ⟨rfl, hk⟩
 replace hs := hs.ext hk
 refine ⟨_, rfl, ?_⟩; clear hf a; intro a hf
 refine s_a hf rfl ?_; clear hf a; intro a hf
 refine s_nil ?_
 refine then_n ?_
 refine wp_seq ?_
 refine wp_seq ?_
 refine wp_region_lit ?_
 refine s_m hf rfl ?_; clear hf a; intro a hf
 refine s_v hf (x_not (hf.eval rfl)) ?_; clear hf a; intro a hf
 refine s_nil ?_
 refine then_n ?_
 refine c_cond hf rfl (fun hi1 => ?_) (fun hi1 => ?_)
 ·simp only [Bool.not_eq_true', Bool.not_eq_false'] at hi1
  refine wp_seq ?_
  refine wp_region_lit ?_
  refine s_a hf rfl ?_; clear hf a; intro a hf
  refine s_a hf rfl ?_; clear hf a; intro a hf
  refine s_nil ?_
  refine then_n ?_
  refine wp_ret ?_
  refine then_r ?_
  refine r_2 hf Tryz.results69 rfl rfl ?_
  have hE0 : E = 143 := by rw [hE]; unfold aplE; rw [if_neg (by omega), if_pos (by assumption)]
  have hV0 : V = [] := by rw [hV]; unfold aplR; rw [if_neg (by rw [← hE, hE0]; decide)]
  rw [hE0, hV0]
  exact ⟨none, 0, rfl, hs.emp (slB_nil _)⟩
 simp only [Bool.not_eq_true', Bool.not_eq_false'] at hi1
 have hrt : rgt size ws 0 = true := hi1
 obtain ⟨n, rfl⟩ := Int.eq_ofNat_of_zero_le (show 0 ≤ size by omega)
 have hok : ∀ z ∈ ws, 0 ≤ z.1 ∧ z.1 + wL z ≤ (n : Int) ∧ 0 < wL z := fun z hz => by have h8 := rgt_all (n : Int) ws 0 (by omega) hrt z hz; exact ⟨h8.1, h8.2, rgt_pos (n : Int) ws 0 hrt z hz⟩
 refine wp_skip ?_
 refine then_n ?_
 refine wp_seq ?_
 refine wp_region_lit ?_
 refine s_m hf rfl ?_; clear hf a; intro a hf
 refine s_do hf rfl (y_makeB (m := n) (c := n) hs sl22 (hf.eval rfl) (hf.eval rfl) rfl rfl (by omega) (by omega) ?_); clear hf hs a; intro b w hs a hf
 refine s_a hf rfl ?_; clear hf a; intro a hf
 refine s_nil ?_
 refine then_n ?_
 refine wp_seq ?_
 refine wp_seq ?_
 refine wp_region_lit ?_
 refine s_a hf rfl ?_; clear hf a; intro a hf
 refine s_nil ?_
 refine then_n ?_
 refine wp_block ?_
 refine c_loop (L0 := [(0, _), (1, _), (2, _), (6, _), (7, _), (9, _)]) (fun M w m => ∃ i : Nat, M = [(10, .int .i64 (i : Int))] ∧ n - i = m ∧ i ≤ n ∧ i ≤ content.length ∧ St ⟨w0, None_⟩ w [bb b 5 (content.take i ++ List.replicate (n - i) 0)]) (M0 := _) (⟨0, rfl, rfl, Nat.zero_le _, Nat.zero_le _, by simpa using hs⟩) (hf.sub ⟨rfl, rfl, rfl, rfl, rfl, rfl, rfl, trivial⟩) ?_
 clear hf hs a
 rintro M m a w ⟨i, rfl, rfl, hi, hi9, hs⟩ hf
 refine wp_seq ?_
 refine wp_seq ?_
 refine wp_region_lit ?_
 refine s_m hf rfl ?_; clear hf a; intro a hf
 refine s_m hf rfl ?_; clear hf a; intro a hf
 refine s_v hf (x_bin (hf.eval rfl) (hf.eval rfl) (r_lt _ _ _ _)) ?_; clear hf a; intro a hf
 refine s_m hf rfl ?_; clear hf a; intro a hf
 refine s_bool hf (k := 31) rfl (fun hg8_3 hf' => ?_) (fun hg8_3 hf' => ?_)
 ·clear hf
  have hf := hf'
  clear hf'
  simp only [zd1, zd2, zd3, zd4] at hg8_3
  refine s_do hf (wanted_of hf rfl rfl rfl) (.value (x_move (hf.eval rfl) _) ?_); clear hf a; intro a hf
  refine s_do hf (wanted_of hf rfl rfl rfl) (.value (x_move (hf.eval rfl) _) ?_); clear hf a; intro a hf
  refine s_do hf (wanted_of hf rfl rfl rfl) (.value (x_len Tryz.underlying22 (hf.eval rfl) _) ?_); clear hf a; intro a hf
  refine s_do hf (wanted_of hf rfl rfl rfl) (.value (x_bin (hf.eval rfl) (hf.eval rfl) (r_lt _ _ _ _) _) ?_); clear hf a; intro a hf
  refine s_v hf (x_pick_t (hf.eval rfl) (hf.eval rfl)) ?_; clear hf a; intro a hf
  refine s_nil ?_
  refine then_n ?_
  refine c_cond hf rfl (fun hi2 => ?_) (fun hi2 => ?_)
  ·first | simp only [decide_eq_true_eq, decide_eq_false_iff_not] at hi2 | skip
   have hlt : i < content.length := by omega
   obtain ⟨a1, rfl⟩ := hr1.some (by omega)
   refine wp_skip ?_
   refine then_n ?_
   refine wp_seq ?_
   refine wp_block ?_
   refine wp_region_lit ?_
   refine s_m hf rfl ?_; clear hf a; intro a hf
   refine s_m hf rfl ?_; clear hf a; intro a hf
   refine s_m hf rfl ?_; clear hf a; intro a hf
   refine s_m hf rfl ?_; clear hf a; intro a hf
   refine s_v hf (x_indexAddr sl22 (hf.eval rfl) (hf.eval rfl) (by omega) (by omega)) ?_; clear hf a; intro a hf
   refine s_r hf (x_loadB (i := (i : Int)) sc5 (hs.oldB hr1) (hf.eval rfl) (by simpa using hlt)) ?_; clear hf a; intro a hf
   replace hf := hf.now (k := 44) (v' := u8v content[i]) rfl (rfl)
   refine s_v hf (x_indexAddr sl22 (hf.eval rfl) (hf.eval rfl) (by omega) (by omega)) ?_; clear hf a; intro a hf
   replace hf := hf.now (k := 45) (v' := .pointer (some ⟨b, i, none⟩)) rfl (by rw [at_addN])
   refine s_do0 hf rfl (y_storeB (k := i) (u := content[i]) hs sc5 (hf.eval rfl) (hf.eval rfl) rfl .k0 (by simp; omega) ?_); clear hf hs a; intro w hs a hf
   rw [base_step (by omega) hlt] at hs
   refine s_nil ?_
   refine blk_n ?_
   refine then_n ?_
   refine wp_region_lit ?_
   refine s_m hf rfl ?_; clear hf a; intro a hf
   refine s_v hf (x_bin (hf.eval rfl) (hf.eval rfl) (r_addi _ (by omega) (by omega))) ?_; clear hf a; intro a hf
   refine s_a hf rfl ?_; clear hf a; intro a hf
   refine s_nil ?_
   exact ⟨_, _, ⟨i + 1, rfl, rfl, by omega, by omega, hs⟩, by omega, hf.sub ⟨rfl, rfl, rfl, rfl, rfl, rfl, rfl, trivial⟩⟩
  first | simp only [decide_eq_true_eq, decide_eq_false_iff_not] at hi2 | skip
  first | rw [base_end (n := n) (content := content) (i := i) (by omega) (by omega) (by omega)] at hs | skip
  refine wp_exit ?_
  refine then_x ?_
  refine then_x ?_
  refine blk_x ?_
  refine then_n ?_
  refine wp_seq ?_
  refine wp_seq ?_
  refine wp_region_lit ?_
  refine s_a hf rfl ?_; clear hf a; intro a hf
  refine s_nil ?_
  refine then_n ?_
  refine wp_block ?_
  refine c_loop (L0 := [(0, _), (1, _), (2, _), (6, _), (7, _), (9, _), (10, _), (28, _), (29, _), (30, _), (31, _), (32, _), (33, _), (34, _), (35, _), (36, _)]) (fun M w m => ∃ i : Nat, M = [(11, .int .i64 (i : Int))] ∧ ws.length - i = m ∧ i ≤ ws.length ∧ St ⟨w0, None_⟩ w [bb b 5 (appW (baseW content n) (ws.take i))]) (M0 := [(11, .int .i64 0)]) (⟨0, rfl, rfl, Nat.zero_le _, hs⟩) (hf.sub ⟨rfl, rfl, rfl, rfl, rfl, rfl, rfl, rfl, rfl, rfl, rfl, rfl, rfl, rfl, rfl, rfl, rfl, trivial⟩) ?_
  clear hf hs a
  rintro M m a w ⟨i, rfl, rfl, hi, hs⟩ hf
  refine wp_seq ?_
  refine wp_seq ?_
  refine wp_region_lit ?_
  refine s_m hf rfl ?_; clear hf a; intro a hf
  refine s_m hf rfl ?_; clear hf a; intro a hf
  refine s_v hf (x_len Tryz.underlying23 (hf.eval rfl)) ?_; clear hf a; intro a hf
  refine s_v hf (x_bin (hf.eval rfl) (hf.eval rfl) (r_lt _ _ _ _)) ?_; clear hf a; intro a hf
  refine s_nil ?_
  refine then_n ?_
  refine c_cond hf rfl (fun hi3 => ?_) (fun hi3 => ?_)
  ·simp only [zd1, zd2, zd3, zd4, zd5, zd6, zd7] at hi3
   have hlt : i < ws.length := by omega
   obtain ⟨aw, rfl⟩ := hrw.some (by omega)
   obtain ⟨ab, ao2, rfl⟩ := rdS_plain (sz := 2) (fun _ => rfl) (by decide) hrw (by omega)
   have hgi := hgd _ (List.getElem_mem hlt)
   obtain ⟨hzi1, hzi2, hzi3⟩ := hok _ (List.getElem_mem hlt)
   have hwl0 : wL ws[i] = (ws[i].2.2.2.length : Int) := rfl
   have hal : (appW (baseW content n) (ws.take i)).length = n := by rw [appW_len, baseW_len]
   refine wp_skip ?_
   refine then_n ?_
   refine wp_seq ?_
   refine wp_block ?_
   refine wp_seq ?_
   refine wp_region_lit ?_
   refine s_a hf rfl ?_; clear hf a; intro a hf
   refine s_nil ?_
   refine then_n ?_
   refine wp_block ?_
   refine c_loop (L0 := [(0, _), (1, _), (2, _), (6, _), (7, _), (9, _), (10, _), (11, _), (28, _), (29, _), (30, _), (31, _), (32, _), (33, _), (34, _), (35, _), (36, _), (46, _), (47, _), (48, _), (49, _)]) (fun M w m => ∃ k : Nat, M = [(12, .int .i64 (k : Int))] ∧ ws[i].2.2.2.length - k = m ∧ k ≤ ws[i].2.2.2.length ∧ St ⟨w0, None_⟩ w [bb b 5 (putP (appW (baseW content n) (ws.take i)) (ws[i].1.toNat, ws[i].2.2.2.take k))]) (M0 := [(12, .int .i64 0)]) (⟨0, rfl, rfl, Nat.zero_le _, by rw [putP_zero]; exact hs⟩) (hf.sub ⟨rfl, rfl, rfl, rfl, rfl, rfl, rfl, rfl, rfl, rfl, rfl, rfl, rfl, rfl, rfl, rfl, rfl, rfl, rfl, rfl, rfl, rfl, trivial⟩) ?_
   clear hf hs a
   rintro M m a w ⟨k, rfl, rfl, hk, hs⟩ hf
   refine wp_seq ?_
   refine wp_seq ?_
   refine wp_region_lit ?_
   refine s_m hf rfl ?_; clear hf a; intro a hf
   refine s_m hf rfl ?_; clear hf a; intro a hf
   refine s_m hf rfl ?_; clear hf a; intro a hf
   refine s_v hf (x_indexAddr sl23 (hf.eval rfl) (hf.eval rfl) (by omega) (by omega)) ?_; clear hf a; intro a hf
   replace hf := hf.now (k := 55) (v' := .pointer (some ⟨ab, ao2 + i * 2, none⟩)) rfl (by rw [addr_add]; rfl)
   refine s_v hf (x_fieldAddr fo54_1 (hf.eval rfl)) ?_; clear hf a; intro a hf
   refine s_r hf (x_load sc22 (hf.eval rfl) (rdS_cellAt (f := wF) (sz := 2) (fun _ => rfl) (hs.old hrw) (k := 1) hlt rfl)) ?_; clear hf a; intro a hf
   refine s_v hf (x_len Tryz.underlying22 (hf.eval rfl)) ?_; clear hf a; intro a hf
   refine s_v hf (x_bin (hf.eval rfl) (hf.eval rfl) (r_lt _ _ _ _)) ?_; clear hf a; intro a hf
   refine s_nil ?_
   refine then_n ?_
   refine c_cond hf rfl (fun hi4 => ?_) (fun hi4 => ?_)
   ·simp only [zd1, zd2, zd3, zd4, zd5, zd6, zd7] at hi4
    have hkl : k < ws[i].2.2.2.length := by omega
    obtain ⟨da, hda⟩ : ∃ x, ws[i].2.1 = some x := by
      rcases hgi.1.2 with ⟨c9, e9, hn9⟩ | ⟨x9, c9, e9, _⟩
      · omega
      · injection e9 with e9; exact ⟨x9, e9⟩
    have hgk : RdB (hp w0) (.slice (some da) ws[i].2.2.2.length ws[i].2.2.1) ws[i].2.2.2 := by rw [← hda]; exact hgi.1
    refine wp_skip ?_
    refine then_n ?_
    refine wp_seq ?_
    refine wp_block ?_
    refine c_draw hs (fun _ => True) [.held, .held, .held, .held, .held, .read, .held, .held, .held, .held, .held, .held, .read, .held, .held, .read, .held, .fin] (by kernel_rfl) (by kernel_rfl) (fun _ _ _ => trivial) ?_
    clear hs; intro w hs hC hw
    refine m_held hf rfl (fun w' _ => x_move (hf.eval rfl) w') ?_; clear hf a; intro a hf
    refine m_held hf rfl (fun w' _ => x_move (hf.eval rfl) w') ?_; clear hf a; intro a hf
    refine m_held hf rfl (fun w' _ => x_move (hf.eval rfl) w') ?_; clear hf a; intro a hf
    refine m_held hf rfl (fun w' _ => x_indexAddr sl23 (hf.eval rfl) (hf.eval rfl) (by omega) (by omega) w') ?_; clear hf a; intro a hf
    replace hf := hf.now (k := 65) (v' := .pointer (some ⟨ab, ao2 + i * 2, none⟩)) rfl (by rw [addr_add]; rfl)
    refine m_held hf rfl (fun w' _ => x_fieldAddr fo54_0 (hf.eval rfl) w') ?_; clear hf a; intro a hf
    refine m_read hf rfl (x_load sc3 (hf.eval rfl) (rdS_cellAt (f := wF) (sz := 2) (fun _ => rfl) (hs.old hrw) (k := 0) hlt rfl)) ?_; clear hf a; intro a hf
    refine m_held hf rfl (fun w' _ => x_move (hf.eval rfl) w') ?_; clear hf a; intro a hf
    refine m_held hf rfl (fun w' _ => x_bin (hf.eval rfl) (hf.eval rfl) (r_addi _ (by omega) (by omega)) w') ?_; clear hf a; intro a hf
    replace hf := hf.now (k := 69) (v' := .int .i64 ((ws[i].1.toNat + k : Nat) : Int)) rfl (by congr 1; omega)
    refine m_held hf rfl (fun w' _ => x_move (hf.eval rfl) w') ?_; clear hf a; intro a hf
    refine m_held hf rfl (fun w' _ => x_move (hf.eval rfl) w') ?_; clear hf a; intro a hf
    refine m_held hf rfl (fun w' _ => x_indexAddr sl23 (hf.eval rfl) (hf.eval rfl) (by omega) (by omega) w') ?_; clear hf a; intro a hf
    replace hf := hf.now (k := 72) (v' := .pointer (some ⟨ab, ao2 + i * 2, none⟩)) rfl (by rw [addr_add]; rfl)
    refine m_held hf rfl (fun w' _ => x_fieldAddr fo54_1 (hf.eval rfl) w') ?_; clear hf a; intro a hf
    refine m_read hf rfl (x_load sc22 (hf.eval rfl) (rdS_cellAt (f := wF) (sz := 2) (fun _ => rfl) (hs.old hrw) (k := 1) hlt rfl)) ?_; clear hf a; intro a hf
    replace hf := hf.now (k := 74) (v' := .slice (some da) ws[i].2.2.2.length ws[i].2.2.1) rfl (by rw [← hda])
    refine m_held hf rfl (fun w' _ => x_move (hf.eval rfl) w') ?_; clear hf a; intro a hf
    refine m_held hf rfl (fun w' _ => x_indexAddr sl22 (hf.eval rfl) (hf.eval rfl) (by omega) (by omega) w') ?_; clear hf a; intro a hf
    refine m_read hf rfl (x_loadB (i := (k : Int)) sc5 (hs.oldB hgk) (hf.eval rfl) (by simpa using hkl)) ?_; clear hf a; intro a hf
    replace hf := hf.now (k := 77) (v' := u8v ws[i].2.2.2[k]) rfl (rfl)
    refine m_held hf rfl (fun w' _ => x_indexAddr sl22 (hf.eval rfl) (hf.eval rfl) (by omega) (by omega) w') ?_; clear hf a; intro a hf
    replace hf := hf.now (k := 78) (v' := .pointer (some ⟨b, ws[i].1.toNat + k, none⟩)) rfl (by rw [at_addN])
    refine m_fin0 hf rfl (y_storeB (k := ws[i].1.toNat + k) (u := ws[i].2.2.2[k]) hs sc5 (hf.eval rfl) (hf.eval rfl) rfl .k0 (by rw [putP_len, hal]; omega) ?_); clear hf hs a; intro w hs; intro a hf
    rw [putP_step (by rw [hal]; omega) hkl] at hs
    refine blk_n ?_
    refine then_n ?_
    refine wp_region_lit ?_
    refine s_m hf rfl ?_; clear hf a; intro a hf
    refine s_v hf (x_bin (hf.eval rfl) (hf.eval rfl) (r_addi _ (by omega) (by omega))) ?_; clear hf a; intro a hf
    refine s_a hf rfl ?_; clear hf a; intro a hf
    refine s_nil ?_
    exact ⟨_, _, ⟨k + 1, rfl, rfl, by omega, hs⟩, by omega, hf.sub ⟨rfl, rfl, rfl, rfl, rfl, rfl, rfl, rfl, rfl, rfl, rfl, rfl, rfl, rfl, rfl, rfl, rfl, rfl, rfl, rfl, rfl, rfl, trivial⟩⟩
   simp only [zd1, zd2, zd3, zd4, zd5, zd6, zd7] at hi4
   rw [show List.take k ws[i].2.2.2 = ws[i].2.2.2 from List.take_of_length_le (by omega), ← appW_succ hlt] at hs
   refine wp_exit ?_
   refine then_x ?_
   refine then_x ?_
   refine blk_x ?_
   refine blk_n ?_
   refine then_n ?_
   refine wp_region_lit ?_
   refine s_m hf rfl ?_; clear hf a; intro a hf
   refine s_v hf (x_bin (hf.eval rfl) (hf.eval rfl) (r_addi _ (by omega) (by omega))) ?_; clear hf a; intro a hf
   refine s_a hf rfl ?_; clear hf a; intro a hf
   refine s_nil ?_
   exact ⟨_, _, ⟨i + 1, rfl, rfl, by omega, hs⟩, by omega, hf.sub ⟨rfl, rfl, rfl, rfl, rfl, rfl, rfl, rfl, rfl, rfl, rfl, rfl, rfl, rfl, rfl, rfl, rfl, trivial⟩⟩
  simp only [zd1, zd2, zd3, zd4, zd5, zd6, zd7] at hi3
  refine wp_exit ?_
  refine then_x ?_
  refine then_x ?_
  refine blk_x ?_
  refine then_n ?_
  refine wp_seq ?_
  refine wp_region_lit ?_
  refine s_m hf rfl ?_; clear hf a; intro a hf
  refine s_a hf rfl ?_; clear hf a; intro a hf
  refine s_a hf rfl ?_; clear hf a; intro a hf
  refine s_nil ?_
  refine then_n ?_
  refine wp_ret ?_
  refine r_2 hf Tryz.results69 rfl rfl ?_
  obtain rfl : i = ws.length := by omega
  rw [List.take_length] at hs
  have hE0 : E = 0 := by rw [hE]; unfold aplE; rw [if_neg (by omega), if_neg (by rw [hrt]; simp)]
  have hV0 : V = appW (baseW content n) ws := by rw [hV]; unfold aplR; rw [if_pos (by rw [← hE, hE0]), Int.toNat_natCast]
  have hVl : V.length = n := by rw [hV0, appW_len, baseW_len]
  rw [hE0, hVl]
  rw [← hV0] at hs
  exact ⟨_, _, rfl, St.ofBb hs hVl (by omega)⟩
 clear hf
 have hf := hf'
 clear hf'
 simp only [zd1, zd2, zd3, zd4] at hg8_3
 rw [base_end (n := n) (content := content) (i := i) (by omega) (by omega) (by omega)] at hs
 refine s_pass hf rfl rfl ?_; clear hf a; intro a hf
 refine s_pass hf rfl rfl ?_; clear hf a; intro a hf
 refine s_pass hf rfl rfl ?_; clear hf a; intro a hf
 refine s_pass hf rfl rfl ?_; clear hf a; intro a hf
 refine s_v hf (x_pick_f (hf.eval rfl) (hf.eval rfl)) ?_; clear hf a; intro a hf
 refine s_nil ?_
 refine then_n ?_
 refine c_cond_f hf rfl rfl ?_
 first | rw [base_end (n := n) (content := content) (i := i) (by omega) (by omega) (by omega)] at hs | skip
 refine wp_exit ?_
 refine then_x ?_
 refine then_x ?_
 refine blk_x ?_
 refine then_n ?_
 refine wp_seq ?_
 refine wp_seq ?_
 refine wp_region_lit ?_
 refine s_a hf rfl ?_; clear hf a; intro a hf
 refine s_nil ?_
 refine then_n ?_
 refine wp_block ?_
 refine c_loop (L0 := [(0, _), (1, _), (2, _), (6, _), (7, _), (9, _), (10, _), (28, _), (29, _), (30, _), (31, _), (32, _), (33, _), (34, _), (35, _), (36, _)]) (fun M w m => ∃ i : Nat, M = [(11, .int .i64 (i : Int))] ∧ ws.length - i = m ∧ i ≤ ws.length ∧ St ⟨w0, None_⟩ w [bb b 5 (appW (baseW content n) (ws.take i))]) (M0 := [(11, .int .i64 0)]) (⟨0, rfl, rfl, Nat.zero_le _, hs⟩) (hf.sub ⟨rfl, rfl, rfl, rfl, rfl, rfl, rfl, rfl, rfl, rfl, rfl, rfl, rfl, rfl, rfl, rfl, rfl, trivial⟩) ?_
 clear hf hs a
 rintro M m a w ⟨i, rfl, rfl, hi, hs⟩ hf
 refine wp_seq ?_
 refine wp_seq ?_
 refine wp_region_lit ?_
 refine s_m hf rfl ?_; clear hf a; intro a hf
 refine s_m hf rfl ?_; clear hf a; intro a hf
 refine s_v hf (x_len Tryz.underlying23 (hf.eval rfl)) ?_; clear hf a; intro a hf
 refine s_v hf (x_bin (hf.eval rfl) (hf.eval rfl) (r_lt _ _ _ _)) ?_; clear hf a; intro a hf
 refine s_nil ?_
 refine then_n ?_
 refine c_cond hf rfl (fun hi3 => ?_) (fun hi3 => ?_)
 ·simp only [zd1, zd2, zd3, zd4, zd5, zd6, zd7] at hi3
  have hlt : i < ws.length := by omega
  obtain ⟨aw, rfl⟩ := hrw.some (by omega)
  obtain ⟨ab, ao2, rfl⟩ := rdS_plain (sz := 2) (fun _ => rfl) (by decide) hrw (by omega)
  have hgi := hgd _ (List.getElem_mem hlt)
  obtain ⟨hzi1, hzi2, hzi3⟩ := hok _ (List.getElem_mem hlt)
  have hwl0 : wL ws[i] = (ws[i].2.2.2.length : Int) := rfl
  have hal : (appW (baseW content n) (ws.take i)).length = n := by rw [appW_len, baseW_len]
  refine wp_skip ?_
  refine then_n ?_
  refine wp_seq ?_
  refine wp_block ?_
  refine wp_seq ?_
  refine wp_region_lit ?_
  refine s_a hf rfl ?_; clear hf a; intro a hf
  refine s_nil ?_
  refine then_n ?_
  refine wp_block ?_
  refine c_loop (L0 := [(0, _), (1, _), (2, _), (6, _), (7, _), (9, _), (10, _), (11, _), (28, _), (29, _), (30, _), (31, _), (32, _), (33, _), (34, _), (35, _), (36, _), (46, _), (47, _), (48, _), (49, _)]) (fun M w m => ∃ k : Nat, M = [(12, .int .i64 (k : Int))] ∧ ws[i].2.2.2.length - k = m ∧ k ≤ ws[i].2.2.2.length ∧ St ⟨w0, None_⟩ w [bb b 5 (putP (appW (baseW content n) (ws.take i)) (ws[i].1.toNat, ws[i].2.2.2.take k))]) (M0 := [(12, .int .i64 0)]) (⟨0, rfl, rfl, Nat.zero_le _, by rw [putP_zero]; exact hs⟩) (hf.sub ⟨rfl, rfl, rfl, rfl, rfl, rfl, rfl, rfl, rfl, rfl, rfl, rfl, rfl, rfl, rfl, rfl, rfl, rfl, rfl, rfl, rfl, rfl, trivial⟩) ?_
  clear hf hs a
  rintro M m a w ⟨k, rfl, rfl, hk, hs⟩ hf
  refine wp_seq ?_
  refine wp_seq ?_
  refine wp_region_lit ?_
  refine s_m hf rfl ?_; clear hf a; intro a hf
  refine s_m hf rfl ?_; clear hf a; intro a hf
  refine s_m hf rfl ?_; clear hf a; intro a hf
  refine s_v hf (x_indexAddr sl23 (hf.eval rfl) (hf.eval rfl) (by omega) (by omega)) ?_; clear hf a; intro a hf
  replace hf := hf.now (k := 55) (v' := .pointer (some ⟨ab, ao2 + i * 2, none⟩)) rfl (by rw [addr_add]; rfl)
  refine s_v hf (x_fieldAddr fo54_1 (hf.eval rfl)) ?_; clear hf a; intro a hf
  refine s_r hf (x_load sc22 (hf.eval rfl) (rdS_cellAt (f := wF) (sz := 2) (fun _ => rfl) (hs.old hrw) (k := 1) hlt rfl)) ?_; clear hf a; intro a hf
  refine s_v hf (x_len Tryz.underlying22 (hf.eval rfl)) ?_; clear hf a; intro a hf
  refine s_v hf (x_bin (hf.eval rfl) (hf.eval rfl) (r_lt _ _ _ _)) ?_; clear hf a; intro a hf
  refine s_nil ?_
  refine then_n ?_
  refine c_cond hf rfl (fun hi4 => ?_) (fun hi4 => ?_)
  ·simp only [zd1, zd2, zd3, zd4, zd5, zd6, zd7] at hi4
   have hkl : k < ws[i].2.2.2.length := by omega
   obtain ⟨da, hda⟩ : ∃ x, ws[i].2.1 = some x := by
     rcases hgi.1.2 with ⟨c9, e9, hn9⟩ | ⟨x9, c9, e9, _⟩
     · omega
     · injection e9 with e9; exact ⟨x9, e9⟩
   have hgk : RdB (hp w0) (.slice (some da) ws[i].2.2.2.length ws[i].2.2.1) ws[i].2.2.2 := by rw [← hda]; exact hgi.1
   refine wp_skip ?_
   refine then_n ?_
   refine wp_seq ?_
   refine wp_block ?_
   refine c_draw hs (fun _ => True) [.held, .held, .held, .held, .held, .read, .held, .held, .held, .held, .held, .held, .read, .held, .held, .read, .held, .fin] (by kernel_rfl) (by kernel_rfl) (fun _ _ _ => trivial) ?_
   clear hs; intro w hs hC hw
   refine m_held hf rfl (fun w' _ => x_move (hf.eval rfl) w') ?_; clear hf a; intro a hf
   refine m_held hf rfl (fun w' _ => x_move (hf.eval rfl) w') ?_; clear hf a; intro a hf
   refine m_held hf rfl (fun w' _ => x_move (hf.eval rfl) w') ?_; clear hf a; intro a hf
   refine m_held hf rfl (fun w' _ => x_indexAddr sl23 (hf.eval rfl) (hf.eval rfl) (by omega) (by omega) w') ?_; clear hf a; intro a hf
   replace hf := hf.now (k := 65) (v' := .pointer (some ⟨ab, ao2 + i * 2, none⟩)) rfl (by rw [addr_add]; rfl)
   refine m_held hf rfl (fun w' _ => x_fieldAddr fo54_0 (hf.eval rfl) w') ?_; clear hf a; intro a hf
   refine m_read hf rfl (x_load sc3 (hf.eval rfl) (rdS_cellAt (f := wF) (sz := 2) (fun _ => rfl) (hs.old hrw) (k := 0) hlt rfl)) ?_; clear hf a; intro a hf
   refine m_held hf rfl (fun w' _ => x_move (hf.eval rfl) w') ?_; clear hf a; intro a hf
   refine m_held hf rfl (fun w' _ => x_bin (hf.eval rfl) (hf.eval rfl) (r_addi _ (by omega) (by omega)) w') ?_; clear hf a; intro a hf
   replace hf := hf.now (k := 69) (v' := .int .i64 ((ws[i].1.toNat + k : Nat) : Int)) rfl (by congr 1; omega)
   refine m_held hf rfl (fun w' _ => x_move (hf.eval rfl) w') ?_; clear hf a; intro a hf
   refine m_held hf rfl (fun w' _ => x_move (hf.eval rfl) w') ?_; clear hf a; intro a hf
   refine m_held hf rfl (fun w' _ => x_indexAddr sl23 (hf.eval rfl) (hf.eval rfl) (by omega) (by omega) w') ?_; clear hf a; intro a hf
   replace hf := hf.now (k := 72) (v' := .pointer (some ⟨ab, ao2 + i * 2, none⟩)) rfl (by rw [addr_add]; rfl)
   refine m_held hf rfl (fun w' _ => x_fieldAddr fo54_1 (hf.eval rfl) w') ?_; clear hf a; intro a hf
   refine m_read hf rfl (x_load sc22 (hf.eval rfl) (rdS_cellAt (f := wF) (sz := 2) (fun _ => rfl) (hs.old hrw) (k := 1) hlt rfl)) ?_; clear hf a; intro a hf
   replace hf := hf.now (k := 74) (v' := .slice (some da) ws[i].2.2.2.length ws[i].2.2.1) rfl (by rw [← hda])
   refine m_held hf rfl (fun w' _ => x_move (hf.eval rfl) w') ?_; clear hf a; intro a hf
   refine m_held hf rfl (fun w' _ => x_indexAddr sl22 (hf.eval rfl) (hf.eval rfl) (by omega) (by omega) w') ?_; clear hf a; intro a hf
   refine m_read hf rfl (x_loadB (i := (k : Int)) sc5 (hs.oldB hgk) (hf.eval rfl) (by simpa using hkl)) ?_; clear hf a; intro a hf
   replace hf := hf.now (k := 77) (v' := u8v ws[i].2.2.2[k]) rfl (rfl)
   refine m_held hf rfl (fun w' _ => x_indexAddr sl22 (hf.eval rfl) (hf.eval rfl) (by omega) (by omega) w') ?_; clear hf a; intro a hf
   replace hf := hf.now (k := 78) (v' := .pointer (some ⟨b, ws[i].1.toNat + k, none⟩)) rfl (by rw [at_addN])
   refine m_fin0 hf rfl (y_storeB (k := ws[i].1.toNat + k) (u := ws[i].2.2.2[k]) hs sc5 (hf.eval rfl) (hf.eval rfl) rfl .k0 (by rw [putP_len, hal]; omega) ?_); clear hf hs a; intro w hs; intro a hf
   rw [putP_step (by rw [hal]; omega) hkl] at hs
   refine blk_n ?_
   refine then_n ?_
   refine wp_region_lit ?_
   refine s_m hf rfl ?_; clear hf a; intro a hf
   refine s_v hf (x_bin (hf.eval rfl) (hf.eval rfl) (r_addi _ (by omega) (by omega))) ?_; clear hf a; intro a hf
   refine s_a hf rfl ?_; clear hf a; intro a hf
   refine s_nil ?_
   exact ⟨_, _, ⟨k + 1, rfl, rfl, by omega, hs⟩, by omega, hf.sub ⟨rfl, rfl, rfl, rfl, rfl, rfl, rfl, rfl, rfl, rfl, rfl, rfl, rfl, rfl, rfl, rfl, rfl, rfl, rfl, rfl, rfl, rfl, trivial⟩⟩
  simp only [zd1, zd2, zd3, zd4, zd5, zd6, zd7] at hi4
  rw [show List.take k ws[i].2.2.2 = ws[i].2.2.2 from List.take_of_length_le (by omega), ← appW_succ hlt] at hs
  refine wp_exit ?_
  refine then_x ?_
  refine then_x ?_
  refine blk_x ?_
  refine blk_n ?_
  refine then_n ?_
  refine wp_region_lit ?_
  refine s_m hf rfl ?_; clear hf a; intro a hf
  refine s_v hf (x_bin (hf.eval rfl) (hf.eval rfl) (r_addi _ (by omega) (by omega))) ?_; clear hf a; intro a hf
  refine s_a hf rfl ?_; clear hf a; intro a hf
  refine s_nil ?_
  exact ⟨_, _, ⟨i + 1, rfl, rfl, by omega, hs⟩, by omega, hf.sub ⟨rfl, rfl, rfl, rfl, rfl, rfl, rfl, rfl, rfl, rfl, rfl, rfl, rfl, rfl, rfl, rfl, rfl, trivial⟩⟩
 simp only [zd1, zd2, zd3, zd4, zd5, zd6, zd7] at hi3
 refine wp_exit ?_
 refine then_x ?_
 refine then_x ?_
 refine blk_x ?_
 refine then_n ?_
 refine wp_seq ?_
 refine wp_region_lit ?_
 refine s_m hf rfl ?_; clear hf a; intro a hf
 refine s_a hf rfl ?_; clear hf a; intro a hf
 refine s_a hf rfl ?_; clear hf a; intro a hf
 refine s_nil ?_
 refine then_n ?_
 refine wp_ret ?_
 refine r_2 hf Tryz.results69 rfl rfl ?_
 obtain rfl : i = ws.length := by omega
 rw [List.take_length] at hs
 have hE0 : E = 0 := by rw [hE]; unfold aplE; rw [if_neg (by omega), if_neg (by rw [hrt]; simp)]
 have hV0 : V = appW (baseW content n) ws := by rw [hV]; unfold aplR; rw [if_pos (by rw [← hE, hE0]), Int.toNat_natCast]
 have hVl : V.length = n := by rw [hV0, appW_len, baseW_len]
 rw [hE0, hVl]
 rw [← hV0] at hs
 exact ⟨_, _, rfl, St.ofBb hs hVl (by omega)⟩
theorem rneed_all (w0 : World) (cl : Nat) (size : Int) (aw : Option Addr) (cw : Nat) (ws : List Wr) (hrw : RdS wF 2 (hp w0) (.slice aw ws.length cw) ws) (hlw : ws.length ≤ 1048576) : Calls Tryz.prog 70 #[.int .i64 (cl : Int), .int .i64 size, .slice aw ws.length cw] w0 fun e w' => e = .returned (.tuple #[.int .i64 (if aplE cl size ws = 0 then filZ (cl : Int) size (lonZ (savL (cl : Int) ws)) else 0), .int .i64 (aplE cl size ws)]) ∧ Kept w0 w' None_ := by
  by_cases hb : ((cl : Int) ≤ 16777216 ∧ 0 ≤ size ∧ size ≤ 16777216)
  · cases hr : rgt size ws 0 with
    | false =>
      have e : aplE cl size ws = 143 := by unfold aplE; rw [if_neg (fun h => h hb), if_pos hr]
      rw [e, if_neg (by decide)]
      exact rneed_b2 w0 cl size aw cw ws hrw hlw ⟨by omega, hb.1⟩ hb.2 hr
    | true =>
      have e : aplE cl size ws = 0 := by unfold aplE; rw [if_neg (fun h => h hb), if_neg (by rw [hr]; simp)]
      rw [e, if_pos rfl]
      exact rneed_ok w0 cl size aw cw ws hrw hlw ⟨by omega, hb.1⟩ hb.2 hr
  · have e : aplE cl size ws = 1 := by unfold aplE; rw [if_pos hb]
    rw [e, if_neg (by decide)]
    exact rneed_b1 w0 cl size aw cw ws hrw hlw (by omega)
theorem fil_fil {c : List UInt8} {size : Int} {ws : List Wr} (h : rgt size ws 0 = true) : filZ (c.length : Int) size (lonZ (savL (c.length : Int) ws)) = filU c size ws := by
  have hs := sav_spc (old := (c.length : Int)) h
  have e1 := lonZ_eq hs
  have e2 := body_len hs
  unfold filU bodU
  rw [e1, e2]
def toP (z : Wr) : Pt := (z.1.toNat, .slice z.2.1 z.2.2.2.length z.2.2.1, z.2.2.2)
def dkY (z : Wr) : Int × List UInt8 := (z.1, z.2.2.2)
theorem dkY_key : ∀ {l m : List Wr}, l.map dkY = m.map dkY → l.length = m.length ∧ (∀ size e, rgt size l e = rgt size m e) ∧ (∀ old, savL old l = savL old m) ∧ ∀ x, appW x l = appW x m
  | [], [], _ => ⟨rfl, fun _ _ => rfl, fun _ => rfl, fun _ => rfl⟩
  | [], _ :: _, h => by simp at h
  | _ :: _, [], h => by simp at h
  | x :: l, y :: m, h => by
    simp only [List.map_cons, List.cons.injEq, dkY, Prod.mk.injEq] at h
    obtain ⟨⟨h1, h2⟩, h3⟩ := h
    obtain ⟨k1, k2, k3, k4⟩ := dkY_key h3
    have hw : wL x = wL y := by unfold wL; rw [h2]
    refine ⟨by simp [k1], fun size e => ?_, fun old => ?_, fun z => ?_⟩
    · unfold rgt; rw [h1, hw, k2]
    · have e1 : ∀ (z : Wr) (r : List Wr), savL old (z :: r) = (if z.1 < min old (z.1 + wL z) then [(z.1, min old (z.1 + wL z))] else []) ++ savL old r := fun _ _ => rfl
      rw [e1, e1, h1, hw, k3]
    · show appW (putP z (x.1.toNat, x.2.2.2)) l = appW (putP z (y.1.toNat, y.2.2.2)) m
      rw [h1, h2, k4]
theorem dkY_wrs : ∀ {l m : List Wr}, l.map dkY = m.map dkY → wrsU l = wrsU m := fun {l m} h => by
  have e : ∀ l : List Wr, wrsU l = (l.map dkY).map fun p => ((2 : Int), p.1, p.2) := fun l => by unfold wrsU; rw [List.map_map]; rfl
  rw [e, e, h]
theorem dkY_U {l m : List Wr} (h : l.map dkY = m.map dkY) (s : DS) (seq size : Int) : refE s seq size l = refE s seq size m ∧ opsU s.now seq size l = opsU s.now seq size m ∧ opsA s.now seq size l = opsA s.now seq size m ∧ aplR s.now size l = aplR s.now size m ∧ updR s seq size l = updR s seq size m := by
  obtain ⟨k1, k2, k3, k4⟩ := dkY_key h
  have e1 : ∀ cl, aplE cl size l = aplE cl size m := fun cl => by unfold aplE; rw [k2]
  have e2 : ∀ c, aplR c size l = aplR c size m := fun c => by unfold aplR; rw [e1, k4]
  have e3 : ∀ c, bodU c l = bodU c m := fun c => by unfold bodU; rw [k3]
  have e4 : ∀ c, filU c size l = filU c size m := fun c => by unfold filU; rw [e3]
  have e5 : ∀ c, seaU c size l = seaU c size m := fun c => by unfold seaU; rw [e4]
  have e6 : ∀ c st, slU st seq c size l = slU st seq c size m := fun c st => by unfold slU; rw [e3, k3]
  have e7 : opsA s.now seq size l = opsA s.now seq size m := by unfold opsA clmU savU armU; rw [e3, e4, e5, e6, e6, dkY_wrs h]
  have e8 : opsU s.now seq size l = opsU s.now seq size m := by unfold opsU armU; rw [e7, e5, e6]
  have e9 : refE s seq size l = refE s seq size m := by unfold refE; rw [e1, e2, e4]
  exact ⟨e9, e8, e7, e2 _, by unfold updR; rw [e9, e8]⟩
theorem datW_rdy {T : Nat} {σ : Sig} {R R' : List Asrt} {us : List Wr} (tk : Take (datA T (us.map toP)) R R') : ∀ z ∈ us, Rdy σ R (.slice z.2.1 z.2.2.2.length z.2.2.1) z.2.2.2 := fun z hz w L hs => by
  have := hs.dats (take_append tk L) (p := toP z) (List.mem_map_of_mem hz)
  exact this
theorem copiedWrites_own (w0 : World) (aw : Option Addr) (cw : Nat) (ws : List Wr) (hrw : RdS wF 2 (hp w0) (.slice aw ws.length cw) ws) (hlw : ws.length ≤ 1048576) (hgd : ∀ z ∈ ws, RdB (hp w0) (.slice z.2.1 z.2.2.2.length z.2.2.1) z.2.2.2 ∧ z.2.2.2.length ≤ 1048576) : Calls Tryz.prog 31 #[.slice aw ws.length cw] w0 fun e w' => ∃ (a : Option Addr) (c : Nat) (us : List Wr), e = .returned (.slice a us.length c) ∧ us.length = ws.length ∧ us.map dkY = ws.map dkY ∧ St ⟨w0, None_⟩ w' [sl 54 2 (.slice a us.length c) us.length (us.flatMap wF), datA 5 (us.map toP)] := by
 have hs := ((St.start w0 None_).emp (A := datA 5 (([] : List Wr).map toP)) (fun h => trivial)).emp (A := sl 54 2 (.slice none 0 0) 0 []) (fun h => ⟨rfl, .inl ⟨rfl, rfl⟩⟩)
 refine c_enter (N := 27) Tryz.func31 rfl Tryz.ntmps31 (by simp) ?_
 intro a hf
 refine wp_seq ?_
 refine wp_region_lit ?_
 refine s_a hf rfl ?_; clear hf a; intro a hf
 refine s_nil ?_
 refine then_n ?_
 refine wp_seq ?_
 refine wp_region_lit ?_
 refine s_a hf rfl ?_; clear hf a; intro a hf
 refine s_nil ?_
 refine then_n ?_
 refine wp_seq ?_
 refine wp_seq ?_
 refine wp_region_lit ?_
 refine s_a hf rfl ?_; clear hf a; intro a hf
 refine s_nil ?_
 refine then_n ?_
 refine wp_block ?_
 refine c_loop (L0 := [(0, _), (2, _)]) (fun M w m => ∃ (i : Nat) (v : Value) (us : List Wr), M = [(3, v), (4, .int .i64 (i : Int))] ∧ ws.length - i = m ∧ i ≤ ws.length ∧ us.length = i ∧ us.map dkY = (ws.take i).map dkY ∧ St ⟨w0, None_⟩ w [sl 54 2 v us.length (us.flatMap wF), datA 5 (us.map toP)]) (M0 := [(3, .slice none 0 0), (4, .int .i64 0)]) (⟨0, _, [], rfl, rfl, Nat.zero_le _, rfl, rfl, hs⟩) (hf.sub ⟨rfl, rfl, rfl, rfl, trivial⟩) ?_
 clear hf hs a
 rintro M m a w ⟨i, v, us, rfl, rfl, hi, hul, huk, hs⟩ hf
 refine wp_seq ?_
 refine wp_seq ?_
 refine wp_region_lit ?_
 refine s_m hf rfl ?_; clear hf a; intro a hf
 refine s_m hf rfl ?_; clear hf a; intro a hf
 refine s_v hf (x_len Tryz.underlying23 (hf.eval rfl)) ?_; clear hf a; intro a hf
 refine s_v hf (x_bin (hf.eval rfl) (hf.eval rfl) (r_lt _ _ _ _)) ?_; clear hf a; intro a hf
 refine s_nil ?_
 refine then_n ?_
 refine c_cond hf rfl (fun hi0 => ?_) (fun hi0 => ?_)
 ·simp only [zd1, zd2, zd3, zd4, zd5, zd6, zd7] at hi0
  have hlt : i < ws.length := by omega
  obtain ⟨aw, rfl⟩ := hrw.some (by omega)
  obtain ⟨ab, ao2, rfl⟩ := rdS_plain (sz := 2) (fun _ => rfl) (by decide) hrw (by omega)
  have hg := hgd _ (List.getElem_mem hlt)
  refine wp_skip ?_
  refine then_n ?_
  refine wp_seq ?_
  refine wp_block ?_
  refine c_draw hs (fun w' => Kept w0 w' None_) [.held, .held, .held, .held, .held, .held, .held, .held, .held, .held, .held, .eff, .held, .eff, .eff, .held] (by kernel_rfl) (by kernel_rfl) (fun w' _ hs => hs.kept) ?_
  clear hs; intro w hs hC hw
  refine m_held hf rfl (fun w' _ => x_move (hf.eval rfl) w') ?_; clear hf a; intro a hf
  refine m_held hf rfl (fun w' _ => x_move (hf.eval rfl) w') ?_; clear hf a; intro a hf
  refine m_held hf rfl (fun w' _ => x_move (hf.eval rfl) w') ?_; clear hf a; intro a hf
  refine m_held hf rfl (fun w' _ => x_indexAddr sl23 (hf.eval rfl) (hf.eval rfl) (by omega) (by omega) w') ?_; clear hf a; intro a hf
  replace hf := hf.now (k := 14) (v' := .pointer (some ⟨ab, ao2 + i * 2, none⟩)) rfl (by rw [addr_add]; rfl)
  refine m_held hf rfl (fun w' _ => x_fieldAddr fo54_0 (hf.eval rfl) w') ?_; clear hf a; intro a hf
  refine m_held hf rfl (fun w' hc => x_load sc3 (hf.eval rfl) (rdS_cellAt (f := wF) (sz := 2) (fun _ => rfl) (RdC.mono hc.hle hrw) (k := 0) hlt rfl)) ?_; clear hf a; intro a hf
  refine m_held hf rfl (fun w' _ => x_move (hf.eval rfl) w') ?_; clear hf a; intro a hf
  refine m_held hf rfl (fun w' _ => x_move (hf.eval rfl) w') ?_; clear hf a; intro a hf
  refine m_held hf rfl (fun w' _ => x_indexAddr sl23 (hf.eval rfl) (hf.eval rfl) (by omega) (by omega) w') ?_; clear hf a; intro a hf
  replace hf := hf.now (k := 19) (v' := .pointer (some ⟨ab, ao2 + i * 2, none⟩)) rfl (by rw [addr_add]; rfl)
  refine m_held hf rfl (fun w' _ => x_fieldAddr fo54_1 (hf.eval rfl) w') ?_; clear hf a; intro a hf
  refine m_held hf rfl (fun w' hc => x_load sc22 (hf.eval rfl) (rdS_cellAt (f := wF) (sz := 2) (fun _ => rfl) (RdC.mono hc.hle hrw) (k := 1) hlt rfl)) ?_; clear hf a; intro a hf
  refine m_eff hf rfl (y_call (hf.eval rfl) (hf.evals rfl) Tryz.call30 ((copied_spec _ _ _ ws[i].2.2.2 (hs.oldB hg.1) (by omega)).mono ?_))
  rintro e w1 ⟨e4, f4, rfl, hj⟩
  replace hs := hs.join hj
  simp only [List.cons_append, List.nil_append] at hs
  refine ⟨_, rfl, ⟨hs.kept, ?_⟩⟩; clear hf a; intro a hf
  refine m_held hf rfl (fun w' hc => x_build (v := .agg #[.int .i64 ws[i].1, .slice e4 ws[i].2.2.2.length f4]) (hf.parts rfl) (fun w => by kernel_rfl) _) ?_; clear hf a; intro a hf
  refine m_eff hf rfl (y_lit (xs := [.tmp 23]) hs sl23 (hf.evals rfl) rfl (by simp [Value.cells]) (by decide) ?_); clear hf hs a; intro b2 w hs; refine ⟨hs.kept, ?_⟩; intro a hf
  refine m_eff hf rfl (y_append (n := us.length) (m := 1) (ys := [.int .i64 ws[i].1, .slice e4 ws[i].2.2.2.length f4]) hs sl23 (hf.eval rfl) (hf.eval rfl) .k2 (hs.rd .k0 fun h hb => rd_rows hb rfl) (by simp [Value.oneCell']) (by omega) (by rw [maxLen_eq]; omega) ?_); clear hf hs a; intro v2 w hs hv; refine ⟨hs.kept, ?_⟩; intro a hf
  replace hs := hs.lose .k1
  replace hs := hs.take (A := slB 5 (.slice e4 ws[i].2.2.2.length f4) ws[i].2.2.2) (by first | exact .k0 | exact .k1 | exact .k2 | exact .k3 | exact .k4 | exact .k5 | exact .k6 | exact .k7 | exact .k8 | exact .k9 | exact .k10 | exact .k11 | exact .k12 | exact .k13)
  replace hs := hs.take (A := datA 5 (us.map toP)) (by first | exact .k0 | exact .k1 | exact .k2 | exact .k3 | exact .k4 | exact .k5 | exact .k6 | exact .k7 | exact .k8 | exact .k9 | exact .k10 | exact .k11 | exact .k12 | exact .k13)
  replace hs := datA_push (p := toP ((ws[i].1, e4, f4, ws[i].2.2.2) : Wr)) hs
  have hs5 : St ⟨w0, None_⟩ w [sl 54 2 v2 (us ++ [((ws[i].1, e4, f4, ws[i].2.2.2) : Wr)]).length ((us ++ [((ws[i].1, e4, f4, ws[i].2.2.2) : Wr)]).flatMap wF), datA 5 ((us ++ [((ws[i].1, e4, f4, ws[i].2.2.2) : Wr)]).map toP)] := by
    rw [List.length_append, List.flatMap_append, List.map_append]
    exact hs.take .k1
  refine m_held hf rfl (fun w' _ => x_assign (hf.eval rfl) w') ?_; clear hf a; intro a hf
  refine m_nil ?_
  refine blk_n ?_
  refine then_n ?_
  refine wp_region_lit ?_
  refine s_m hf rfl ?_; clear hf a; intro a hf
  refine s_v hf (x_bin (hf.eval rfl) (hf.eval rfl) (r_addi _ (by omega) (by omega))) ?_; clear hf a; intro a hf
  refine s_a hf rfl ?_; clear hf a; intro a hf
  refine s_nil ?_
  exact ⟨_, _, ⟨i + 1, _, us ++ [((ws[i].1, e4, f4, ws[i].2.2.2) : Wr)], rfl, rfl, by omega, by simp; omega, by rw [List.take_succ_eq_append_getElem hlt, List.map_append, List.map_append, huk]; rfl, hs5⟩, by omega, hf.sub ⟨rfl, rfl, rfl, rfl, trivial⟩⟩
 simp only [zd1, zd2, zd3, zd4, zd5, zd6, zd7] at hi0
 refine wp_exit ?_
 refine then_x ?_
 refine then_x ?_
 refine blk_x ?_
 refine then_n ?_
 refine wp_seq ?_
 refine wp_region_lit ?_
 refine s_m hf rfl ?_; clear hf a; intro a hf
 refine s_a hf rfl ?_; clear hf a; intro a hf
 refine s_nil ?_
 refine then_n ?_
 refine wp_ret ?_
 refine r_1 hf Tryz.results31 rfl ?_
 have hi9 : i = ws.length := by omega
 obtain ⟨a2, c2, rfl⟩ := sl_shape hs
 exact ⟨a2, c2, us, rfl, by omega, by rw [huk, hi9, List.take_length], hs⟩
attribute [local irreducible] Vw.sl Vw.lkV Vw.aplR Vw.aplE Vw.filU Vw.filZ Vw.lonZ Vw.savL
theorem linField_spec (w : World) (v : Int) : Calls Tryz.prog 71 #[.int .i64 v] w fun e w' => e = .returned (.bool (inF v)) ∧ w' = w := by
 refine c_enter (N := 9) Tryz.func71 rfl Tryz.ntmps71 (by simp) ?_
 intro a hf
 refine wp_seq ?_
 refine wp_region_lit ?_
 refine s_a hf rfl ?_; clear hf a; intro a hf
 refine s_nil ?_
 refine then_n ?_
 refine wp_seq ?_
 refine wp_region_lit ?_
 refine s_m hf rfl ?_; clear hf a; intro a hf
 refine s_v hf (x_bin (hf.eval rfl) (hf.eval rfl) (r_ge _ _ _ _)) ?_; clear hf a; intro a hf
 refine s_m hf rfl ?_; clear hf a; intro a hf
 refine s_bool hf (k := 5) rfl (fun hg1_2 hf' => ?_) (fun hg1_2 hf' => ?_)
 ·clear hf
  have hf := hf'
  clear hf'
  first | simp only [zd1, zd2, zd3, zd4, ne_eq, Classical.not_not] at hg1_2 | skip
  refine s_do hf (wanted_of hf rfl rfl rfl) (.value (x_move (hf.eval rfl) _) ?_); clear hf a; intro a hf
  refine s_do hf (wanted_of hf rfl rfl rfl) (.value (x_bin (hf.eval rfl) (hf.eval rfl) (r_le _ _ _ _) _) ?_); clear hf a; intro a hf
  refine s_v hf (x_pick_t (hf.eval rfl) (hf.eval rfl)) ?_; clear hf a; intro a hf
  refine s_a hf rfl ?_; clear hf a; intro a hf
  refine s_nil ?_
  refine then_n ?_
  refine wp_ret ?_
  refine r_1 hf Tryz.results71 rfl ?_
  exact ⟨by unfold inF; first | rw [decide_eq_false (show ¬ (0 ≤ v ∧ v ≤ 4294967295) by omega)] | (congr 2; exact decide_eq_decide.2 (by omega)), rfl⟩
 clear hf
 have hf := hf'
 clear hf'
 first | simp only [zd1, zd2, zd3, zd4, ne_eq, Classical.not_not] at hg1_2 | skip
 refine s_pass hf rfl rfl ?_; clear hf a; intro a hf
 refine s_pass hf rfl rfl ?_; clear hf a; intro a hf
 refine s_v hf (x_pick_f (hf.eval rfl) (hf.eval rfl)) ?_; clear hf a; intro a hf
 refine s_a hf rfl ?_; clear hf a; intro a hf
 refine s_nil ?_
 refine then_n ?_
 refine wp_ret ?_
 refine r_1 hf Tryz.results71 rfl ?_
 exact ⟨by unfold inF; first | rw [decide_eq_false (show ¬ (0 ≤ v ∧ v ≤ 4294967295) by omega)] | (congr 2; exact decide_eq_decide.2 (by omega)), rfl⟩
def mayR (c : List UInt8) (seq size : Int) (ws : List Wr) : List UInt8 × Int × Bool := if aplE c.length size ws ≠ 0 ∨ inF seq = false ∨ 16777216 < filU c size ws then ([], 0, false) else (aplR c size ws, filU c size ws, decide ((lkV c).1.1 = 0) && decide ((lkV (aplR c size ws)).1.1 = 0))
theorem may_no {c : List UInt8} {seq size : Int} {ws : List Wr} (h : aplE c.length size ws ≠ 0 ∨ inF seq = false ∨ 16777216 < filU c size ws) : mayR c seq size ws = ([], 0, false) := by unfold mayR; rw [if_pos h]
theorem may_yes {c : List UInt8} {seq size : Int} {ws : List Wr} (h : ¬ (aplE c.length size ws ≠ 0 ∨ inF seq = false ∨ 16777216 < filU c size ws)) : mayR c seq size ws = (aplR c size ws, filU c size ws, decide ((lkV c).1.1 = 0) && decide ((lkV (aplR c size ws)).1.1 = 0)) := by unfold mayR; rw [if_neg h]
theorem may_spec (w0 : World) (hT : Tab 0 (hp w0)) (a1 : Option Addr) (c1 : Nat) (c : List UInt8) (hr1 : RdB (hp w0) (.slice a1 c.length c1) c) (hl1 : c.length ≤ 16777216) (seq size : Int) (aw : Option Addr) (cw : Nat) (ws : List Wr) (hrw : RdS wF 2 (hp w0) (.slice aw ws.length cw) ws) (hlw : ws.length ≤ 1048576) (hgd : ∀ z ∈ ws, RdB (hp w0) (.slice z.2.1 z.2.2.2.length z.2.2.1) z.2.2.2 ∧ z.2.2.2.length ≤ 1048576) : Calls Tryz.prog 29 #[.slice a1 c.length c1, .int .i64 seq, .int .i64 size, .slice aw ws.length cw] w0 fun e w' => ∃ a cc, e = .returned (.tuple #[.slice a (mayR c seq size ws).1.length cc, .int .i64 (mayR c seq size ws).2.1, .bool (mayR c seq size ws).2.2]) ∧ St ⟨w0, None_⟩ w' [slB 5 (.slice a (mayR c seq size ws).1.length cc) (mayR c seq size ws).1] := by
 have hs := St.start w0 None_
 refine c_enter (N := 53) Tryz.func29 rfl Tryz.ntmps29 (by simp) ?_
 intro a hf
 refine wp_seq ?_
 refine wp_region_lit ?_
 refine s_a hf rfl ?_; clear hf a; intro a hf
 refine s_a hf rfl ?_; clear hf a; intro a hf
 refine s_a hf rfl ?_; clear hf a; intro a hf
 refine s_nil ?_
 refine then_n ?_
 refine wp_seq ?_
 refine wp_region_lit ?_
 refine s_m hf rfl ?_; clear hf a; intro a hf
 refine s_m hf rfl ?_; clear hf a; intro a hf
 refine s_m hf rfl ?_; clear hf a; intro a hf
 refine s_do hf rfl (y_call (hf.eval rfl) (hf.evals rfl) Tryz.call69 ((rapply_spec _ a1 c1 c (hs.oldB hr1) (by omega) size aw cw ws (hs.old hrw) hlw (fun z hz => ⟨hs.oldB (hgd z hz).1, (hgd z hz).2⟩) (aplR c size ws) rfl (aplE c.length size ws) rfl).mono ?_))
 rintro e w1 ⟨ga, gc, rfl, hj⟩
 replace hs := hs.join hj
 simp only [List.cons_append, List.nil_append] at hs
 refine ⟨_, rfl, ?_⟩; clear hf a; intro a hf
 refine s_m hf rfl ?_; clear hf a; intro a hf
 refine s_v hf (x_extract (hf.eval rfl) rfl) ?_; clear hf a; intro a hf
 refine s_v hf (x_extract (hf.eval rfl) rfl) ?_; clear hf a; intro a hf
 refine s_a hf rfl ?_; clear hf a; intro a hf
 refine s_a hf rfl ?_; clear hf a; intro a hf
 refine s_nil ?_
 refine then_n ?_
 refine wp_seq ?_
 refine wp_region_lit ?_
 refine s_m hf rfl ?_; clear hf a; intro a hf
 refine s_v hf (x_len Tryz.underlying22 (hf.eval rfl)) ?_; clear hf a; intro a hf
 refine s_m hf rfl ?_; clear hf a; intro a hf
 refine s_m hf rfl ?_; clear hf a; intro a hf
 refine s_do hf rfl (y_call (hf.eval rfl) (hf.evals rfl) Tryz.call70 ((rneed_all _ c.length size aw cw ws (hs.old hrw) hlw).mono ?_))
 rintro e w1 ⟨rfl, hk⟩
 replace hs := hs.ext hk
 refine ⟨_, rfl, ?_⟩; clear hf a; intro a hf
 refine s_m hf rfl ?_; clear hf a; intro a hf
 refine s_v hf (x_extract (hf.eval rfl) rfl) ?_; clear hf a; intro a hf
 refine s_v hf (x_extract (hf.eval rfl) rfl) ?_; clear hf a; intro a hf
 refine s_a hf rfl ?_; clear hf a; intro a hf
 refine s_a hf rfl ?_; clear hf a; intro a hf
 refine s_nil ?_
 refine then_n ?_
 refine wp_seq ?_
 refine wp_seq ?_
 refine wp_region_lit ?_
 refine s_m hf rfl ?_; clear hf a; intro a hf
 refine s_v hf (x_bin (hf.eval rfl) (hf.eval rfl) (r_ne _ _ _ _)) ?_; clear hf a; intro a hf
 refine s_m hf rfl ?_; clear hf a; intro a hf
 refine s_bool hf (k := 32) rfl (fun hg3_2 hf' => ?_) (fun hg3_2 hf' => ?_)
 ·clear hf
  have hf := hf'
  clear hf'
  first | simp only [zd1, zd2, zd3, zd4, ne_eq, Classical.not_not] at hg3_2 | skip
  refine s_pass hf rfl rfl ?_; clear hf a; intro a hf
  refine s_pass hf rfl rfl ?_; clear hf a; intro a hf
  refine s_v hf (x_pick_t (hf.eval rfl) (hf.eval rfl)) ?_; clear hf a; intro a hf
  refine s_m hf rfl ?_; clear hf a; intro a hf
  refine s_pass hf rfl rfl ?_; clear hf a; intro a hf
  refine s_pass hf rfl rfl ?_; clear hf a; intro a hf
  refine s_pass hf rfl rfl ?_; clear hf a; intro a hf
  refine s_v hf (x_pick_t (hf.eval rfl) (hf.eval rfl)) ?_; clear hf a; intro a hf
  refine s_m hf rfl ?_; clear hf a; intro a hf
  refine s_pass hf rfl rfl ?_; clear hf a; intro a hf
  refine s_pass hf rfl rfl ?_; clear hf a; intro a hf
  refine s_v hf (x_pick_t (hf.eval rfl) (hf.eval rfl)) ?_; clear hf a; intro a hf
  refine s_nil ?_
  refine then_n ?_
  refine c_cond_t hf rfl rfl ?_
  refine wp_seq ?_
  refine wp_region_lit ?_
  refine s_a hf rfl ?_; clear hf a; intro a hf
  refine s_a hf rfl ?_; clear hf a; intro a hf
  refine s_a hf rfl ?_; clear hf a; intro a hf
  refine s_nil ?_
  refine then_n ?_
  refine wp_ret ?_
  refine then_r ?_
  refine r_3 hf Tryz.results29 rfl rfl rfl ?_
  have hm : mayR c seq size ws = ([], 0, false) := may_no (by first | exact .inl hg3_2 | exact .inl hg3_6 | exact .inr (.inl (by simpa using hg3_11)) | (have hap : aplE c.length size ws = 0 := (by simpa using hg3_2); obtain ⟨u1, u2, u3⟩ := aplE_0 hap; rw [if_pos hap, fil_fil u3] at hi0; exact .inr (.inr hi0)))
  rw [hm]
  exact ⟨none, 0, rfl, (St.keep [] _ hs).emp (slB_nil _)⟩
 clear hf
 have hf := hf'
 clear hf'
 first | simp only [zd1, zd2, zd3, zd4, ne_eq, Classical.not_not] at hg3_2 | skip
 refine s_do hf (wanted_of hf rfl rfl rfl) (.value (x_move (hf.eval rfl) _) ?_); clear hf a; intro a hf
 refine s_do hf (wanted_of hf rfl rfl rfl) (.value (x_bin (hf.eval rfl) (hf.eval rfl) (r_ne _ _ _ _) _) ?_); clear hf a; intro a hf
 refine s_v hf (x_pick_f (hf.eval rfl) (hf.eval rfl)) ?_; clear hf a; intro a hf
 refine s_m hf rfl ?_; clear hf a; intro a hf
 refine s_bool hf (k := 36) rfl (fun hg3_6 hf' => ?_) (fun hg3_6 hf' => ?_)
 ·clear hf
  have hf := hf'
  clear hf'
  first | simp only [zd1, zd2, zd3, zd4, ne_eq, Classical.not_not] at hg3_6 | skip
  refine s_pass hf rfl rfl ?_; clear hf a; intro a hf
  refine s_pass hf rfl rfl ?_; clear hf a; intro a hf
  refine s_pass hf rfl rfl ?_; clear hf a; intro a hf
  refine s_v hf (x_pick_t (hf.eval rfl) (hf.eval rfl)) ?_; clear hf a; intro a hf
  refine s_m hf rfl ?_; clear hf a; intro a hf
  refine s_pass hf rfl rfl ?_; clear hf a; intro a hf
  refine s_pass hf rfl rfl ?_; clear hf a; intro a hf
  refine s_v hf (x_pick_t (hf.eval rfl) (hf.eval rfl)) ?_; clear hf a; intro a hf
  refine s_nil ?_
  refine then_n ?_
  refine c_cond_t hf rfl rfl ?_
  refine wp_seq ?_
  refine wp_region_lit ?_
  refine s_a hf rfl ?_; clear hf a; intro a hf
  refine s_a hf rfl ?_; clear hf a; intro a hf
  refine s_a hf rfl ?_; clear hf a; intro a hf
  refine s_nil ?_
  refine then_n ?_
  refine wp_ret ?_
  refine then_r ?_
  refine r_3 hf Tryz.results29 rfl rfl rfl ?_
  have hm : mayR c seq size ws = ([], 0, false) := may_no (by first | exact .inl hg3_2 | exact .inl hg3_6 | exact .inr (.inl (by simpa using hg3_11)) | (have hap : aplE c.length size ws = 0 := (by simpa using hg3_2); obtain ⟨u1, u2, u3⟩ := aplE_0 hap; rw [if_pos hap, fil_fil u3] at hi0; exact .inr (.inr hi0)))
  rw [hm]
  exact ⟨none, 0, rfl, (St.keep [] _ hs).emp (slB_nil _)⟩
 clear hf
 have hf := hf'
 clear hf'
 first | simp only [zd1, zd2, zd3, zd4, ne_eq, Classical.not_not] at hg3_6 | skip
 refine s_do hf (wanted_of hf rfl rfl rfl) (.value (x_move (hf.eval rfl) _) ?_); clear hf a; intro a hf
 refine s_do hf (wanted_of hf rfl rfl rfl) (y_call (hf.eval rfl) (hf.evals rfl) Tryz.call71 ((linField_spec _ seq).mono ?_))
 rintro e w1 ⟨rfl, hw9⟩
 rw [hw9]
 clear hw9 w1
 refine ⟨_, rfl, ?_⟩; clear hf a; intro a hf
 refine s_do hf (wanted_of hf rfl rfl rfl) (.value (x_not (hf.eval rfl) _) ?_); clear hf a; intro a hf
 refine s_v hf (x_pick_f (hf.eval rfl) (hf.eval rfl)) ?_; clear hf a; intro a hf
 refine s_m hf rfl ?_; clear hf a; intro a hf
 refine s_bool hf (k := 41) rfl (fun hg3_11 hf' => ?_) (fun hg3_11 hf' => ?_)
 ·clear hf
  have hf := hf'
  clear hf'
  first | simp only [zd1, zd2, zd3, zd4, ne_eq, Classical.not_not] at hg3_11 | skip
  refine s_pass hf rfl rfl ?_; clear hf a; intro a hf
  refine s_pass hf rfl rfl ?_; clear hf a; intro a hf
  refine s_v hf (x_pick_t (hf.eval rfl) (hf.eval rfl)) ?_; clear hf a; intro a hf
  refine s_nil ?_
  refine then_n ?_
  refine c_cond_t hf rfl rfl ?_
  refine wp_seq ?_
  refine wp_region_lit ?_
  refine s_a hf rfl ?_; clear hf a; intro a hf
  refine s_a hf rfl ?_; clear hf a; intro a hf
  refine s_a hf rfl ?_; clear hf a; intro a hf
  refine s_nil ?_
  refine then_n ?_
  refine wp_ret ?_
  refine then_r ?_
  refine r_3 hf Tryz.results29 rfl rfl rfl ?_
  have hm : mayR c seq size ws = ([], 0, false) := may_no (by first | exact .inl hg3_2 | exact .inl hg3_6 | exact .inr (.inl (by simpa using hg3_11)) | (have hap : aplE c.length size ws = 0 := (by simpa using hg3_2); obtain ⟨u1, u2, u3⟩ := aplE_0 hap; rw [if_pos hap, fil_fil u3] at hi0; exact .inr (.inr hi0)))
  rw [hm]
  exact ⟨none, 0, rfl, (St.keep [] _ hs).emp (slB_nil _)⟩
 clear hf
 have hf := hf'
 clear hf'
 first | simp only [zd1, zd2, zd3, zd4, ne_eq, Classical.not_not] at hg3_11 | skip
 refine s_do hf (wanted_of hf rfl rfl rfl) (.value (x_move (hf.eval rfl) _) ?_); clear hf a; intro a hf
 refine s_do hf (wanted_of hf rfl rfl rfl) (.value (x_bin (hf.eval rfl) (hf.eval rfl) (r_gt _ _ _ _) _) ?_); clear hf a; intro a hf
 refine s_v hf (x_pick_f (hf.eval rfl) (hf.eval rfl)) ?_; clear hf a; intro a hf
 refine s_nil ?_
 refine then_n ?_
 refine c_cond hf rfl (fun hi0 => ?_) (fun hi0 => ?_)
 ·first | simp only [zd1, zd2, zd3, zd4, ne_eq, Classical.not_not] at hi0 | skip
  refine wp_seq ?_
  refine wp_region_lit ?_
  refine s_a hf rfl ?_; clear hf a; intro a hf
  refine s_a hf rfl ?_; clear hf a; intro a hf
  refine s_a hf rfl ?_; clear hf a; intro a hf
  refine s_nil ?_
  refine then_n ?_
  refine wp_ret ?_
  refine then_r ?_
  refine r_3 hf Tryz.results29 rfl rfl rfl ?_
  have hm : mayR c seq size ws = ([], 0, false) := may_no (by first | exact .inl hg3_2 | exact .inl hg3_6 | exact .inr (.inl (by simpa using hg3_11)) | (have hap : aplE c.length size ws = 0 := (by simpa using hg3_2); obtain ⟨u1, u2, u3⟩ := aplE_0 hap; rw [if_pos hap, fil_fil u3] at hi0; exact .inr (.inr hi0)))
  rw [hm]
  exact ⟨none, 0, rfl, (St.keep [] _ hs).emp (slB_nil _)⟩
 first | simp only [zd1, zd2, zd3, zd4, ne_eq, Classical.not_not] at hi0 | skip
 have hap : aplE c.length size ws = 0 := by simpa using hg3_2
 obtain ⟨u1, u2, u3⟩ := aplE_0 hap
 rw [if_pos hap, fil_fil u3] at hf hi0
 have hVl := aplR_len c size ws
 have hm := may_yes (c := c) (seq := seq) (size := size) (ws := ws) (by rintro (h | h | h); exact h hap; rw [h] at hg3_11; simp at hg3_11; omega)
 refine wp_skip ?_
 refine then_n ?_
 refine wp_seq ?_
 refine wp_region_lit ?_
 refine s_m hf rfl ?_; clear hf a; intro a hf
 refine s_m hf rfl ?_; clear hf a; intro a hf
 refine s_m hf rfl ?_; clear hf a; intro a hf
 refine s_do hf rfl (y_call (hf.eval rfl) (hf.evals rfl) Tryz.call35 ((rquiet_spec _ _ _ c (hs.oldB hr1) hl1).mono ?_))
 rintro e w1 ⟨rfl, hk⟩
 replace hs := hs.ext hk
 refine ⟨_, rfl, ?_⟩; clear hf a; intro a hf
 refine s_m hf rfl ?_; clear hf a; intro a hf
 refine s_bool hf (k := 49) rfl (fun hg5_4 hf' => ?_) (fun hg5_4 hf' => ?_)
 ·clear hf
  have hf := hf'
  clear hf'
  first | simp only [zd1, zd2, zd3, zd4, ne_eq, Classical.not_not] at hg5_4 | skip
  refine s_do hf (wanted_of hf rfl rfl rfl) (.value (x_move (hf.eval rfl) _) ?_); clear hf a; intro a hf
  refine s_do hf (wanted_of hf rfl rfl rfl) (y_call (hf.eval rfl) (hf.evals rfl) Tryz.call35 ((rquiet_spec _ _ gc (aplR c size ws) (hs.rdB (A := slB 5 (.slice ga (aplR c size ws).length gc) (aplR c size ws)) (by first | exact .k0 | exact .k1 | exact .k2 | exact .k3 | exact .k4 | exact .k5 | exact .k6 | exact .k7 | exact .k8 | exact .k9 | exact .k10 | exact .k11 | exact .k12 | exact .k13) fun h => slB_rd) (by omega)).mono ?_))
  rintro e w1 ⟨rfl, hk⟩
  replace hs := hs.ext hk
  refine ⟨_, rfl, ?_⟩; clear hf a; intro a hf
  refine s_v hf (x_pick_t (hf.eval rfl) (hf.eval rfl)) ?_; clear hf a; intro a hf
  refine s_a hf rfl ?_; clear hf a; intro a hf
  refine s_a hf rfl ?_; clear hf a; intro a hf
  refine s_a hf rfl ?_; clear hf a; intro a hf
  refine s_nil ?_
  refine then_n ?_
  refine wp_ret ?_
  refine r_3 hf Tryz.results29 rfl rfl rfl ?_
  rw [hm]
  replace hs := hs.take (A := slB 5 (.slice ga (aplR c size ws).length gc) (aplR c size ws)) (by first | exact .k0 | exact .k1 | exact .k2 | exact .k3 | exact .k4 | exact .k5 | exact .k6 | exact .k7 | exact .k8 | exact .k9 | exact .k10 | exact .k11 | exact .k12 | exact .k13)
  exact ⟨ga, gc, by simp [hg5_4], St.keep [_] _ hs⟩
 clear hf
 have hf := hf'
 clear hf'
 first | simp only [zd1, zd2, zd3, zd4, ne_eq, Classical.not_not] at hg5_4 | skip
 refine s_pass hf rfl rfl ?_; clear hf a; intro a hf
 refine s_pass hf rfl rfl ?_; clear hf a; intro a hf
 refine s_v hf (x_pick_f (hf.eval rfl) (hf.eval rfl)) ?_; clear hf a; intro a hf
 refine s_a hf rfl ?_; clear hf a; intro a hf
 refine s_a hf rfl ?_; clear hf a; intro a hf
 refine s_a hf rfl ?_; clear hf a; intro a hf
 refine s_nil ?_
 refine then_n ?_
 refine wp_ret ?_
 refine r_3 hf Tryz.results29 rfl rfl rfl ?_
 rw [hm]
 replace hs := hs.take (A := slB 5 (.slice ga (aplR c size ws).length gc) (aplR c size ws)) (by first | exact .k0 | exact .k1 | exact .k2 | exact .k3 | exact .k4 | exact .k5 | exact .k6 | exact .k7 | exact .k8 | exact .k9 | exact .k10 | exact .k11 | exact .k12 | exact .k13)
 exact ⟨ga, gc, by simp [hg5_4], St.keep [_] _ hs⟩
end Go.Proofs.YtehakfbfjpolfaaGreatDoor

namespace Go.Proofs.YtehakfbfjpolfaaGreatDoor
open Go Vw
abbrev ChQ := Int × (Option Addr × Nat × List Int) × Int
def chF (c : ChQ) : List Value := [.int .i64 c.1, .slice c.2.1.1 c.2.1.2.2.length c.2.1.2.1, .int .i64 c.2.2]
structure ChG (h : Heaplet) (c : ChQ) : Prop where
  rd : RdS iF 1 h (.slice c.2.1.1 c.2.1.2.2.length c.2.1.2.1) c.2.1.2.2
  len : c.2.1.2.2.length ≤ 1048576
abbrev CutQ := Int × ChQ
def cuF (c : CutQ) : List Value := .int .i64 c.1 :: chF c.2
theorem may_true {c : List UInt8} {seq size : Int} {ws : List Wr} (h : (mayR c seq size ws).2.2 = true) : mayR c seq size ws = (aplR c size ws, filU c size ws, true) ∧ aplE c.length size ws = 0 ∧ (0 ≤ seq ∧ seq ≤ 4294967295) ∧ filU c size ws ≤ 16777216 ∧ (lkV c).1.1 = 0 ∧ (lkV (aplR c size ws)).1.1 = 0 := by
  by_cases hb : aplE c.length size ws ≠ 0 ∨ inF seq = false ∨ 16777216 < filU c size ws
  · rw [may_no hb] at h; cases h
  · have hm := may_yes hb
    rw [hm] at h
    simp only [Bool.and_eq_true, decide_eq_true_eq] at h
    simp only [not_or, Bool.not_eq_false, Int.not_lt, ne_eq, Classical.not_not] at hb
    have hf : 0 ≤ seq ∧ seq ≤ 4294967295 := by have h9 := hb.2.1; unfold inF at h9; simpa using h9
    refine ⟨?_, hb.1, hf, hb.2.2, h.1, h.2⟩
    rw [hm, h.1, h.2]; rfl
def Good (s : DS) (c n : List UInt8) (o t : Bool) : Prop := ∀ ch, ((lkV (outS s ch)).2 = c ∨ (lkV (outS s ch)).2 = n) ∧ (o = true → (lkV (outS s ch)).2 = c) ∧ (t = true → (lkV (outS s ch)).2 = n)
theorem ref_zero {c : List UInt8} {seq size room f : Int} {ws : List Wr} (h1 : aplE c.length size ws = 0) (h2 : 0 ≤ seq ∧ seq ≤ 4294967295) (h3 : filU c size ws ≤ room) (h4 : (lkV c).1.1 = 0) (h5 : (lkV (aplR c size ws)).1.1 = 0) : refE (fuS (newS c room) f) seq size ws = 0 := by
  obtain ⟨u1, u2, u3⟩ := aplE_0 h1
  have e1 : (fuS (newS c room) f).now = c := rfl
  have e2 : (fuS (newS c room) f).dead = false := rfl
  have e3 : (fuS (newS c room) f).room = room := rfl
  unfold refE
  rw [if_neg (by omega), e1, e2, e3, if_neg (by simp), if_neg (fun h => h h1), if_neg (by rw [h4, h5]; simp), if_neg (by omega)]
theorem upd_good {c : List UInt8} {seq size room f : Int} {ws : List Wr} (hr : refE (fuS (newS c room) f) seq size ws = 0) (hn : c.length ≤ 16777216) (hq2 : (lkV (aplR c size ws)).1.1 = 0) :
    (¬ (0 ≤ f ∧ f < ((opsA c seq size ws).length : Int) + 4) → (updR (fuS (newS c room) f) seq size ws).1 = 0 ∧ (updR (fuS (newS c room) f) seq size ws).2.now = aplR c size ws) ∧
    ((0 ≤ f ∧ f < ((opsA c seq size ws).length : Int) + 4) → (updR (fuS (newS c room) f) seq size ws).1 = 12) ∧
    Good (updR (fuS (newS c room) f) seq size ws).2 c (aplR c size ws) (decide ((0 ≤ f ∧ f < ((opsA c seq size ws).length : Int) + 4) ∧ f ≤ ((opsA c seq size ws).length : Int))) (decide (¬ (0 ≤ f ∧ f < ((opsA c seq size ws).length : Int) + 4) ∨ ((opsA c seq size ws).length : Int) + 2 ≤ f)) := by
  obtain ⟨i1, i2, i3, i4⟩ := idle_fuse (idle_new c room) f
  have e1 : (fuS (newS c room) f).now = c := rfl
  have hl := opsU_len c seq size ws
  obtain ⟨k1, k2⟩ := upd_run i1 hr hn
  rw [i3, e1] at k1 k2
  by_cases hc : 0 ≤ f ∧ f < ((opsA c seq size ws).length : Int) + 4
  · obtain ⟨b1, b2, b3⟩ := k2 (by omega) (by omega)
    refine ⟨fun h => absurd hc h, fun _ => b1, fun ch => ?_⟩
    obtain ⟨d1, d2, d3⟩ := b3 ch
    refine ⟨d2, fun h => d1 ?_, fun h => d3 ?_⟩
    · have := of_decide_eq_true h; omega
    · have := of_decide_eq_true h; rcases this with h9 | h9
      · exact absurd hc h9
      · omega
  · obtain ⟨b1, b2, b3⟩ := k1 (by omega)
    refine ⟨fun _ => ⟨b1, b3⟩, fun h => absurd h hc, fun ch => ?_⟩
    have ho : (lkV (outS (updR (fuS (newS c room) f) seq size ws).2 ch)).2 = aplR c size ws := by rw [idle_out b2, b3, (quiet_self hq2).1]
    exact ⟨.inr ho, fun h => absurd (of_decide_eq_true h).1 hc, fun _ => ho⟩
theorem rec_good {im x : List UInt8} {room f : Int} (hl : (im.length : Int) ≤ room) (hx : (lkV im).2 = x) (hq : (lkV x).1.1 = 0) :
    ((recV (fuS (newS im room) f)).2 = 0 ∧ (recS (fuS (newS im room) f)).now = x ∨ (recV (fuS (newS im room) f)).2 = 12 ∧ 0 ≤ f) ∧ ∀ ch, (lkV (outS (recS (fuS (newS im room) f)) ch)).2 = x := by
  obtain ⟨i1, i2, i3, i4⟩ := idle_fuse (idle_new im room) f
  have e1 : (fuS (newS im room) f).now = im := rfl
  have e2 : (fuS (newS im room) f).dead = false := rfl
  obtain ⟨k1, k2⟩ := rec_run i1 (by rw [e1]; exact hl)
  rw [i3, e1, hx] at k1 k2
  by_cases hc : max f (-1) < 0 ∨ ((opsR im).length : Int) ≤ max f (-1)
  · obtain ⟨b1, b2, b3, b4⟩ := k1 hc
    obtain ⟨r1, r2⟩ := rec_ok (s := fuS (newS im room) f) e2 (by rw [e1]; exact b1)
    rw [e1] at r1 r2
    rw [r1, r2]
    exact ⟨.inl ⟨rfl, b3⟩, fun ch => by rw [idle_out b2, b3, (quiet_self hq).1]⟩
  · obtain ⟨b1, b2, b3⟩ := k2 (by omega) (by omega)
    obtain ⟨r1, r2⟩ := rec_bad (s := fuS (newS im room) f) e2 (by rw [e1, b1]; decide)
    rw [e1] at r1 r2
    rw [r1, r2, b1]
    exact ⟨.inr ⟨rfl, by omega⟩, b3 hq⟩
theorem bod_nil {c : List UInt8} {size : Int} {ws : List Wr} (h : rgt size ws 0 = true) : bodU c ws = [] ↔ (savL (c.length : Int) ws).length = 0 := by
  have := body_len (sav_spc (old := (c.length : Int)) h)
  unfold bodU
  constructor
  · intro h9; rw [h9] at this; simp only [List.length_nil] at this; omega
  · intro h9
    have h8 : savL (c.length : Int) ws = [] := List.eq_nil_of_length_eq_zero h9
    rw [h8]; rfl
theorem x_loadFA {α : Type} {P : Program} {ρ : Operand → Value} {d : Option Nat} {ty : TypeId} {pos : String} {after : Array Edge} {g : Option (Nat × Bool)} {f : α → List Value} {sz t m c k : Nat} {x : Operand} {p : Addr} {l : List α} {i : Nat} {vs : List Value} {w : World} (ht : AgT P t m) (hf : ∀ x, (f x).length = sz) (hr : RdS f sz (hp w) (.slice (some p) l.length c) l)
    (hx : ρ x = .pointer (some ((p.add (i * sz)).add k))) (hi : i < l.length) (hn : vs.length = m) (hk : k + m ≤ sz) (hv : ∀ j v, vs[j]? = some v → (f l[i])[k + j]? = some v) :
    (execOp ρ ⟨d, .load t x, ty, pos, after, g⟩).run P w = .ok (.value (.agg vs.toArray)) w := by
  refine x_loadAgg ht hx hn fun j v hj => ?_
  have hlt : j < vs.length := (List.getElem?_eq_some_iff.1 hj).1
  rw [Addr_add_add, Addr_add_add, cell_hp]
  refine RdC.get (show RdC _ _ sz l.length (l.flatMap f) from hr) ?_
  rw [flatMap_get hf l _ _ hi (by omega)]
  exact hv j v hj
theorem dkY_len {us ws : List Wr} (h : us.map dkY = ws.map dkY) {N : Nat} (hN : ∀ z ∈ ws, z.2.2.2.length ≤ N) : ∀ z ∈ us, z.2.2.2.length ≤ N := fun z hz => by
  have h1 : dkY z ∈ us.map dkY := List.mem_map_of_mem hz
  rw [h] at h1
  obtain ⟨y, hy, e⟩ := List.mem_map.1 h1
  have h2 : (dkY y).2 = (dkY z).2 := congrArg Prod.snd e
  replace h2 : y.2.2.2 = z.2.2.2 := h2
  rw [← h2]; exact hN y hy
theorem good_next {s : DS} {c n x im : List UInt8} (h : ∀ ch, (lkV (outS s ch)).2 = x) (hx : (lkV im).2 = x) (h1 : x = c ∨ x = n) : Good s c n (decide (x = c) && !decide (x = n)) (decide (x = n) && !decide (x = c)) := fun ch => by
  rw [h ch]
  refine ⟨h1, fun h9 => ?_, fun h9 => ?_⟩
  · simp only [Bool.and_eq_true, decide_eq_true_eq] at h9; exact h9.1
  · simp only [Bool.and_eq_true, decide_eq_true_eq] at h9; exact h9.1
theorem upd_ok {s : DS} (h : DOk s) (seq size : Int) (ws : List Wr) : DOk (updR s seq size ws).2 := by
  unfold updR; split
  · exact h
  · exact runS_ok _ h
theorem upd_b {s : DS} (ho : DOk s) {k : Nat} (h : DB s k) (seq size : Int) (ws : List Wr) : DB (updR s seq size ws).2 (k + (20 + ws.length)) := by
  unfold updR; split
  · exact h.up (by omega)
  · exact (runS_b _ ho h).up (by rw [opsU_len, opsA_len]; split <;> omega)
attribute [local irreducible] Vw.sl Vw.lkV Vw.runS Vw.opsU Vw.opsA Vw.opsR Vw.aplR Vw.aplE Vw.updR recV recS Vw.filU Vw.savL mayR Vw.outS
set_option maxHeartbeats 1600000
theorem oneOfTwo_spec (w0 : World) (hT : Tab 0 (hp w0)) (a1 : Option Addr) (c1 : Nat) (c : List UInt8) (hr1 : RdB (hp w0) (.slice a1 c.length c1) c) (hl1 : c.length ≤ 1048576) (seq size : Int) (aw : Option Addr) (cw : Nat) (ws : List Wr) (hrw : RdS wF 2 (hp w0) (.slice aw ws.length cw) ws) (hlw : ws.length ≤ 1048576) (hgd : ∀ z ∈ ws, RdB (hp w0) (.slice z.2.1 z.2.2.2.length z.2.2.1) z.2.2.2 ∧ z.2.2.2.length ≤ 1048576) (ax : Option Addr) (cx : Nat) (cuts : List CutQ) (hrx : RdS cuF 4 (hp w0) (.slice ax cuts.length cx) cuts) (hgx : ∀ z ∈ cuts, ChG (hp w0) z.2 ∧ z.1 ≤ 9223372036854775807) (hlx : cuts.length ≤ 1048576) : Calls Tryz.prog 5 #[.slice a1 c.length c1, .int .i64 seq, .int .i64 size, .slice aw ws.length cw, .slice ax cuts.length cx] w0 fun e w' => e = .returned (.bool true) ∧ Kept w0 w' None_ := by
 have hs := St.start w0 None_
 refine c_enter (N := 223) Tryz.func5 rfl Tryz.ntmps5 (by simp) ?_
 intro a hf
 refine wp_seq ?_
 refine wp_region_lit ?_
 refine s_a hf rfl ?_; clear hf a; intro a hf
 refine s_nil ?_
 refine then_n ?_
 refine wp_seq ?_
 refine wp_region_lit ?_
 refine s_do hf rfl (y_call (hf.eval rfl) (hf.evals rfl) Tryz.call28 ((small_spec _ hT).mono ?_))
 rintro e w1 ⟨rfl, hk⟩
 replace hs := hs.ext hk
 refine ⟨_, rfl, ?_⟩; clear hf a; intro a hf
 refine s_a hf rfl ?_; clear hf a; intro a hf
 refine s_nil ?_
 refine then_n ?_
 refine wp_seq ?_
 refine wp_region_lit ?_
 refine s_m hf rfl ?_; clear hf a; intro a hf
 refine s_m hf rfl ?_; clear hf a; intro a hf
 refine s_m hf rfl ?_; clear hf a; intro a hf
 refine s_m hf rfl ?_; clear hf a; intro a hf
 refine s_do hf rfl (y_call (hf.eval rfl) (hf.evals rfl) Tryz.call29 ((may_spec _ (hT.kept hs.kept) a1 c1 c (hs.oldB hr1) (by omega) seq size aw cw ws (hs.old hrw) hlw (fun z hz => ⟨hs.oldB (hgd z hz).1, (hgd z hz).2⟩)).mono ?_))
 rintro e w1 ⟨ga, gc, rfl, hj⟩
 replace hs := hs.join hj
 simp only [List.cons_append, List.nil_append] at hs
 refine ⟨_, rfl, ?_⟩; clear hf a; intro a hf
 refine s_m hf rfl ?_; clear hf a; intro a hf
 refine s_v hf (x_extract (hf.eval rfl) rfl) ?_; clear hf a; intro a hf
 refine s_v hf (x_extract (hf.eval rfl) rfl) ?_; clear hf a; intro a hf
 refine s_v hf (x_extract (hf.eval rfl) rfl) ?_; clear hf a; intro a hf
 refine s_a hf rfl ?_; clear hf a; intro a hf
 refine s_a hf rfl ?_; clear hf a; intro a hf
 refine s_a hf rfl ?_; clear hf a; intro a hf
 refine s_nil ?_
 refine then_n ?_
 refine wp_seq ?_
 refine wp_seq ?_
 refine wp_region_lit ?_
 refine s_m hf rfl ?_; clear hf a; intro a hf
 refine s_v hf (x_not (hf.eval rfl)) ?_; clear hf a; intro a hf
 refine s_m hf rfl ?_; clear hf a; intro a hf
 replace hf := hf.now (k := 40) (v' := .bool false) rfl (congrArg Value.bool (by first | rfl | simp))
 refine s_do hf (wanted_of hf rfl rfl rfl) (.value (x_move (hf.eval rfl) _) ?_); clear hf a; intro a hf
 refine s_do hf (wanted_of hf rfl rfl rfl) (.value (x_not (hf.eval rfl) _) ?_); clear hf a; intro a hf
 refine s_v hf (x_pick_f (hf.eval rfl) (hf.eval rfl)) ?_; clear hf a; intro a hf
 refine s_nil ?_
 refine then_n ?_
 refine c_cond hf rfl (fun hi0 => ?_) (fun hi0 => ?_)
 ·first | simp only [zd1, zd2, zd3, zd4, ne_eq, Classical.not_not] at hi0 | skip
  refine wp_seq ?_
  refine wp_region_lit ?_
  refine s_m hf rfl ?_; clear hf a; intro a hf
  refine s_a hf rfl ?_; clear hf a; intro a hf
  refine s_nil ?_
  refine then_n ?_
  refine wp_ret ?_
  refine then_r ?_
  refine r_1 hf Tryz.results5 rfl ?_
  exact ⟨rfl, hs.kept⟩
 first | simp only [zd1, zd2, zd3, zd4, ne_eq, Classical.not_not] at hi0 | skip
 obtain ⟨hm, q1, q2, q3, q4, q5⟩ := may_true hi0
 rw [hm] at hs hf
 obtain ⟨u1, u2, u3⟩ := aplE_0 q1
 have hUo : UOk c seq size ws := ⟨q2, by omega, u2, u3⟩
 obtain ⟨F, bp, kg, g⟩ := geo hUo
 have g1 := g.fil
 have g2 := g.f1
 have hVl := aplR_len c size ws
 have hbn := bod_nil (c := c) u3
 have hAl := opsA_len c seq size ws
 have hAb : (opsA c seq size ws).length ≤ 7 + ws.length := by rw [hAl]; split <;> omega
 have hok : ∀ z ∈ ws, 0 ≤ z.1 ∧ z.1 + wL z ≤ 16777216 := fun z hz => by have h8 := rgt_all size ws 0 (Int.le_refl _) u3 z hz; omega
 refine wp_skip ?_
 refine then_n ?_
 refine wp_seq ?_
 refine wp_region_lit ?_
 refine s_m hf rfl ?_; clear hf a; intro a hf
 refine s_do hf rfl (y_call (hf.eval rfl) (hf.evals rfl) Tryz.call30 ((copied_spec _ _ _ c (hs.oldB hr1) (by omega)).mono ?_))
 rintro e w1 ⟨a2, c2, rfl, hj⟩
 replace hs := hs.join hj
 simp only [List.cons_append, List.nil_append] at hs
 refine ⟨_, rfl, ?_⟩; clear hf a; intro a hf
 refine s_m hf rfl ?_; clear hf a; intro a hf
 refine s_do hf rfl (y_call (hf.eval rfl) (hf.evals rfl) Tryz.call7 ((dNew_in _ _ _ c (hs.rdB .k0 fun h => slB_rd) (by omega) (filU c size ws) (by omega) (by omega) (by omega)).mono ?_))
 rintro e w1 ⟨p, rfl, hj⟩
 replace hs := hs.join hj
 simp only [List.cons_append, List.nil_append] at hs
 refine ⟨_, rfl, ?_⟩; clear hf a; intro a hf
 refine s_m hf rfl ?_; clear hf a; intro a hf
 refine s_v hf (x_extract (hf.eval rfl) rfl) ?_; clear hf a; intro a hf
 refine s_v hf (x_extract (hf.eval rfl) rfl) ?_; clear hf a; intro a hf
 refine s_a hf rfl ?_; clear hf a; intro a hf
 refine s_a hf rfl ?_; clear hf a; intro a hf
 refine s_nil ?_
 refine then_n ?_
 refine wp_seq ?_
 refine wp_region_lit ?_
 refine s_a hf rfl ?_; clear hf a; intro a hf
 refine s_nil ?_
 refine then_n ?_
 refine c_join (N := 223) (L0 := [(0, _), (1, _), (2, _), (3, _), (4, _), (10, _), (12, _), (15, _)]) (fun M w => ∃ f : Int, M = [(17, .int .i64 f)] ∧ f ≤ 9223372036854775807 ∧ St ⟨w0, None_⟩ w [diskA 85 127 5 3 p (newS c (filU c size ws)), slB 5 (.slice ga (aplR c size ws).length gc) (aplR c size ws)]) (hf.sub ⟨rfl, rfl, rfl, rfl, rfl, rfl, rfl, rfl, trivial⟩) ?_ ?_
 ·refine wp_seq ?_
  refine wp_region_lit ?_
  refine s_m hf rfl ?_; clear hf a; intro a hf
  refine s_v hf (x_len Tryz.underlying57 (hf.eval rfl)) ?_; clear hf a; intro a hf
  refine s_v hf (x_bin (hf.eval rfl) (hf.eval rfl) (r_gt _ _ _ _)) ?_; clear hf a; intro a hf
  refine s_nil ?_
  refine then_n ?_
  refine c_cond hf rfl (fun hi1 => ?_) (fun hi1 => ?_)
  ·first | simp only [zd1, zd2, zd3, zd4, ne_eq, Classical.not_not] at hi1 | skip
   obtain ⟨ax, rfl⟩ := hrx.some (by omega)
   have hlt0 : 0 < cuts.length := by omega
   have hg0 := (hgx _ (List.getElem_mem hlt0)).2
   refine wp_region_lit ?_
   refine s_m hf rfl ?_; clear hf a; intro a hf
   refine s_v hf (x_indexAddr sl57 (hf.eval rfl) (hf.eval rfl) (by omega) (by omega)) ?_; clear hf a; intro a hf
   refine s_v hf (x_fieldAddrG fo66_0 (hf.eval rfl)) ?_; clear hf a; intro a hf
   refine s_r hf (x_loadF (k := 0) (i := 0) (f := cuF) (l := cuts) (u := .int .i64 cuts[0].1) sc3 (by intro _; rfl) (hs.old hrx) (hf.eval rfl) (by exact hlt0) rfl) ?_; clear hf a; intro a hf
   refine s_a hf rfl ?_; clear hf a; intro a hf
   refine s_nil ?_
   refine then_n ?_
   replace hs := hs.take (A := slB 5 (.slice ga (aplR c size ws).length gc) (aplR c size ws)) (by first | exact .k0 | exact .k1 | exact .k2 | exact .k3 | exact .k4 | exact .k5 | exact .k6 | exact .k7 | exact .k8 | exact .k9 | exact .k10 | exact .k11 | exact .k12 | exact .k13)
   replace hs := hs.take (A := diskA 85 127 5 3 p (newS c (filU c size ws))) (by first | exact .k0 | exact .k1 | exact .k2 | exact .k3 | exact .k4 | exact .k5 | exact .k6 | exact .k7 | exact .k8 | exact .k9 | exact .k10 | exact .k11 | exact .k12 | exact .k13)
   replace hs := St.keep [_, _] _ hs
   exact ⟨_, ⟨_, rfl, by first | exact hg0 | omega, hs⟩, hf.sub ⟨rfl, rfl, rfl, rfl, rfl, rfl, rfl, rfl, rfl, trivial⟩⟩
  first | simp only [zd1, zd2, zd3, zd4, ne_eq, Classical.not_not] at hi1 | skip
  refine wp_skip ?_
  refine then_n ?_
  replace hs := hs.take (A := slB 5 (.slice ga (aplR c size ws).length gc) (aplR c size ws)) (by first | exact .k0 | exact .k1 | exact .k2 | exact .k3 | exact .k4 | exact .k5 | exact .k6 | exact .k7 | exact .k8 | exact .k9 | exact .k10 | exact .k11 | exact .k12 | exact .k13)
  replace hs := hs.take (A := diskA 85 127 5 3 p (newS c (filU c size ws))) (by first | exact .k0 | exact .k1 | exact .k2 | exact .k3 | exact .k4 | exact .k5 | exact .k6 | exact .k7 | exact .k8 | exact .k9 | exact .k10 | exact .k11 | exact .k12 | exact .k13)
  replace hs := St.keep [_, _] _ hs
  exact ⟨_, ⟨_, rfl, by first | exact hg0 | omega, hs⟩, hf.sub ⟨rfl, rfl, rfl, rfl, rfl, rfl, rfl, rfl, rfl, trivial⟩⟩
 clear hf hs a
 rintro M a w ⟨f, rfl, hfu, hs⟩ hf
 have hr0 := ref_zero (f := f) (room := (filU c size ws)) q1 q2 (by omega) q4 q5
 obtain ⟨w1_, w2_, w3_⟩ := upd_good hr0 (by omega) q5
 have ho0 := fuS_ok (newS_ok (image := c) (room := (filU c size ws)) (by omega) (by omega) (by omega)) hfu
 have hb0 := fuS_b (newS_b c (filU c size ws) 0) f
 refine wp_seq ?_
 refine wp_region_lit ?_
 refine s_m hf rfl ?_; clear hf a; intro a hf
 refine s_m hf rfl ?_; clear hf a; intro a hf
 refine s_do hf rfl (y_call (hf.eval rfl) (hf.evals rfl) Tryz.call9 ((dFuse_spec _ _ _ p _ hs f).mono ?_))
 rintro e w1 ⟨rfl, hs⟩
 refine ⟨_, rfl, ?_⟩; clear hf a; intro a hf
 refine s_nil ?_
 refine then_n ?_
 refine wp_seq ?_
 refine wp_region_lit ?_
 refine s_m hf rfl ?_; clear hf a; intro a hf
 refine s_m hf rfl ?_; clear hf a; intro a hf
 refine s_m hf rfl ?_; clear hf a; intro a hf
 refine s_m hf rfl ?_; clear hf a; intro a hf
 refine s_do hf rfl (y_call (hf.eval rfl) (hf.evals rfl) Tryz.call31 ((copiedWrites_own _ aw cw ws (hs.old hrw) hlw (fun z hz => ⟨hs.oldB (hgd z hz).1, (hgd z hz).2⟩)).mono ?_))
 rintro e w1 ⟨aq, cq, us, rfl, hul, huk, hj⟩
 replace hs := hs.join hj
 simp only [List.cons_append, List.nil_append] at hs
 refine ⟨_, rfl, ?_⟩; clear hf a; intro a hf
 replace hs := hs.take (A := datA 5 (us.map toP)) (by first | exact .k0 | exact .k1 | exact .k2 | exact .k3 | exact .k4 | exact .k5 | exact .k6 | exact .k7 | exact .k8 | exact .k9 | exact .k10 | exact .k11 | exact .k12 | exact .k13)
 replace hs := hs.take (A := sl 54 2 (.slice aq us.length cq) us.length (us.flatMap wF)) (by first | exact .k0 | exact .k1 | exact .k2 | exact .k3 | exact .k4 | exact .k5 | exact .k6 | exact .k7 | exact .k8 | exact .k9 | exact .k10 | exact .k11 | exact .k12 | exact .k13)
 replace hs := hs.take (A := diskA 85 127 5 3 p (fuS (newS c (filU c size ws)) f)) (by first | exact .k0 | exact .k1 | exact .k2 | exact .k3 | exact .k4 | exact .k5 | exact .k6 | exact .k7 | exact .k8 | exact .k9 | exact .k10 | exact .k11 | exact .k12 | exact .k13)
 refine s_do hf rfl (y_call (hf.eval rfl) (hf.evals rfl) Tryz.call13 ((jupdate_spec w0 _ _ p (fuS (newS c (filU c size ws)) f) hT hs ho0 0 hb0 (by omega) seq size aq cq us (RdyS.own .k0) (by omega) (fun z hz => ⟨datW_rdy .k1 z hz, dkY_len huk (fun y hy => (hgd y hy).2) z hz⟩)).mono ?_))
 rintro e w1 ⟨rfl, hs⟩
 rw [(dkY_U huk (fuS (newS c (filU c size ws)) f) seq size).2.2.2.2] at hs ⊢
 have hto := upd_ok ho0 seq size ws
 have htb := upd_b ho0 hb0 seq size ws
 have hln9 : 0 + (20 + ws.length) ≤ 3200000 := by omega
 obtain ⟨t1, ht1⟩ : ∃ t1, t1 = (updR (fuS (newS c (filU c size ws)) f) seq size ws).2 := ⟨_, rfl⟩
 rw [← ht1] at hs hto htb w1_ w3_
 obtain ⟨E, hE⟩ : ∃ E, E = (updR (fuS (newS c (filU c size ws)) f) seq size ws).1 := ⟨_, rfl⟩
 rw [← hE] at w1_ w2_ ⊢
 have hE12 : decide (E = 12) = decide (0 ≤ f ∧ f < ((opsA c seq size ws).length : Int) + 4) := decide_eq_decide.2 ⟨fun h => Classical.byContradiction fun h9 => (by rw [(w1_ h9).1] at h; omega), w2_⟩
 refine ⟨_, rfl, ?_⟩; clear hf a; intro a hf
 refine s_a hf rfl ?_; clear hf a; intro a hf
 refine s_nil ?_
 refine then_n ?_
 refine wp_seq ?_
 refine wp_region_lit ?_
 refine s_m hf rfl ?_; clear hf a; intro a hf
 refine s_v hf (x_len Tryz.underlying23 (hf.eval rfl)) ?_; clear hf a; intro a hf
 refine s_v hf (x_bin (hf.eval rfl) (hf.eval rfl) (r_addi _ (by omega) (by omega))) ?_; clear hf a; intro a hf
 refine s_a hf rfl ?_; clear hf a; intro a hf
 refine s_nil ?_
 refine then_n ?_
 refine c_join (N := 223) (L0 := [(0, _), (4, _), (10, _), (12, _), (15, _), (17, _), (18, _)]) (fun M w => M = [(19, .int .i64 ((opsA c seq size ws).length : Int))] ∧ St ⟨w0, None_⟩ w [diskA 85 127 5 3 p t1, slB 5 (.slice ga (aplR c size ws).length gc) (aplR c size ws)]) (hf.sub ⟨rfl, rfl, rfl, rfl, rfl, rfl, rfl, trivial⟩) ?_ ?_
 ·refine wp_seq ?_
  refine wp_region_lit ?_
  refine s_m hf rfl ?_; clear hf a; intro a hf
  refine s_v hf (x_len Tryz.underlying22 (hf.eval rfl)) ?_; clear hf a; intro a hf
  refine s_m hf rfl ?_; clear hf a; intro a hf
  refine s_do hf rfl (y_call (hf.eval rfl) (hf.evals rfl) Tryz.call32 ((spans_spec _ (c.length : Int) (by omega) (by omega) aw cw ws (hs.old hrw) hlw hok).mono ?_))
  rintro e w1 ⟨vs, rfl, hj⟩
  replace hs := hs.join hj
  simp only [List.cons_append, List.nil_append] at hs
  obtain ⟨avs, cvs, rfl⟩ := sl_shape hs
  refine ⟨_, rfl, ?_⟩; clear hf a; intro a hf
  refine s_v hf (x_len Tryz.underlying68 (hf.eval rfl)) ?_; clear hf a; intro a hf
  refine s_v hf (x_bin (hf.eval rfl) (hf.eval rfl) (r_gt _ _ _ _)) ?_; clear hf a; intro a hf
  refine s_nil ?_
  refine then_n ?_
  refine c_cond hf rfl (fun hi2 => ?_) (fun hi2 => ?_)
  ·first | simp only [zd1, zd2, zd3, zd4, ne_eq, Classical.not_not] at hi2 | skip
   have hA9 : (opsA c seq size ws).length = 6 + ws.length + 1 := by have h9 := hAl; rw [if_neg (fun h => by have := hbn.1 h; omega)] at h9; exact h9
   refine wp_region_lit ?_
   refine s_m hf rfl ?_; clear hf a; intro a hf
   refine s_v hf (x_bin (hf.eval rfl) (hf.eval rfl) (r_addi _ (by omega) (by omega))) ?_; clear hf a; intro a hf
   refine s_a hf rfl ?_; clear hf a; intro a hf
   refine s_nil ?_
   refine then_n ?_
   replace hs := hs.take (A := slB 5 (.slice ga (aplR c size ws).length gc) (aplR c size ws)) (by first | exact .k0 | exact .k1 | exact .k2 | exact .k3 | exact .k4 | exact .k5 | exact .k6 | exact .k7 | exact .k8 | exact .k9 | exact .k10 | exact .k11 | exact .k12 | exact .k13)
   replace hs := hs.take (A := diskA 85 127 5 3 p t1) (by first | exact .k0 | exact .k1 | exact .k2 | exact .k3 | exact .k4 | exact .k5 | exact .k6 | exact .k7 | exact .k8 | exact .k9 | exact .k10 | exact .k11 | exact .k12 | exact .k13)
   replace hs := St.keep [_, _] _ hs
   replace hf := hf.now (k := 19) (v' := .int .i64 ((opsA c seq size ws).length : Int)) rfl (congrArg (Value.int .i64) (by omega))
   exact ⟨_, ⟨rfl, hs⟩, hf.sub ⟨rfl, rfl, rfl, rfl, rfl, rfl, rfl, rfl, trivial⟩⟩
  first | simp only [zd1, zd2, zd3, zd4, ne_eq, Classical.not_not] at hi2 | skip
  have hA9 : (opsA c seq size ws).length = 6 + ws.length := by have h9 := hAl; rw [if_pos (hbn.2 (by omega))] at h9; exact h9
  refine wp_skip ?_
  refine then_n ?_
  replace hs := hs.take (A := slB 5 (.slice ga (aplR c size ws).length gc) (aplR c size ws)) (by first | exact .k0 | exact .k1 | exact .k2 | exact .k3 | exact .k4 | exact .k5 | exact .k6 | exact .k7 | exact .k8 | exact .k9 | exact .k10 | exact .k11 | exact .k12 | exact .k13)
  replace hs := hs.take (A := diskA 85 127 5 3 p t1) (by first | exact .k0 | exact .k1 | exact .k2 | exact .k3 | exact .k4 | exact .k5 | exact .k6 | exact .k7 | exact .k8 | exact .k9 | exact .k10 | exact .k11 | exact .k12 | exact .k13)
  replace hs := St.keep [_, _] _ hs
  replace hf := hf.now (k := 19) (v' := .int .i64 ((opsA c seq size ws).length : Int)) rfl (congrArg (Value.int .i64) (by omega))
  exact ⟨_, ⟨rfl, hs⟩, hf.sub ⟨rfl, rfl, rfl, rfl, rfl, rfl, rfl, rfl, trivial⟩⟩
 clear hf hs a
 rintro M a w ⟨rfl, hs⟩ hf
 refine c_join (N := 223) (L0 := [(0, _), (4, _), (10, _), (12, _), (15, _), (17, _), (18, _), (19, _)]) (fun M w => M = [(20, .bool (decide (0 ≤ f ∧ f < ((opsA c seq size ws).length : Int) + 4)))] ∧ St ⟨w0, None_⟩ w [diskA 85 127 5 3 p t1, slB 5 (.slice ga (aplR c size ws).length gc) (aplR c size ws)]) (hf.sub ⟨rfl, rfl, rfl, rfl, rfl, rfl, rfl, rfl, trivial⟩) ?_ ?_
 ·refine wp_region_lit ?_
  refine s_m hf rfl ?_; clear hf a; intro a hf
  refine s_v hf (x_bin (hf.eval rfl) (hf.eval rfl) (r_ge _ _ _ _)) ?_; clear hf a; intro a hf
  refine s_m hf rfl ?_; clear hf a; intro a hf
  refine s_bool hf (k := 81) rfl (fun hg14_2 hf' => ?_) (fun hg14_2 hf' => ?_)
  ·clear hf
   have hf := hf'
   clear hf'
   first | simp only [zd1, zd2, zd3, zd4, ne_eq, Classical.not_not] at hg14_2 | skip
   refine s_do hf (wanted_of hf rfl rfl rfl) (.value (x_move (hf.eval rfl) _) ?_); clear hf a; intro a hf
   refine s_do hf (wanted_of hf rfl rfl rfl) (.value (x_move (hf.eval rfl) _) ?_); clear hf a; intro a hf
   refine s_do hf (wanted_of hf rfl rfl rfl) (.value (x_bin (hf.eval rfl) (hf.eval rfl) (r_addi _ (by omega) (by omega)) _) ?_); clear hf a; intro a hf
   refine s_do hf (wanted_of hf rfl rfl rfl) (.value (x_bin (hf.eval rfl) (hf.eval rfl) (r_lt _ _ _ _) _) ?_); clear hf a; intro a hf
   refine s_v hf (x_pick_t (hf.eval rfl) (hf.eval rfl)) ?_; clear hf a; intro a hf
   refine s_a hf rfl ?_; clear hf a; intro a hf
   refine s_nil ?_
   refine then_n ?_
   replace hf := hf.now (k := 20) (v' := .bool (decide (0 ≤ f ∧ f < ((opsA c seq size ws).length : Int) + 4))) rfl (by first | rfl | exact congrArg Value.bool (decide_eq_decide.2 (by omega)) | exact congrArg Value.bool (decide_eq_false (by omega)).symm | exact congrArg Value.bool (decide_eq_true (by omega)).symm)
   exact ⟨_, ⟨rfl, hs⟩, hf.sub ⟨rfl, rfl, rfl, rfl, rfl, rfl, rfl, rfl, rfl, trivial⟩⟩
  clear hf
  have hf := hf'
  clear hf'
  first | simp only [zd1, zd2, zd3, zd4, ne_eq, Classical.not_not] at hg14_2 | skip
  refine s_pass hf rfl rfl ?_; clear hf a; intro a hf
  refine s_pass hf rfl rfl ?_; clear hf a; intro a hf
  refine s_pass hf rfl rfl ?_; clear hf a; intro a hf
  refine s_pass hf rfl rfl ?_; clear hf a; intro a hf
  refine s_v hf (x_pick_f (hf.eval rfl) (hf.eval rfl)) ?_; clear hf a; intro a hf
  refine s_a hf rfl ?_; clear hf a; intro a hf
  refine s_nil ?_
  refine then_n ?_
  replace hf := hf.now (k := 20) (v' := .bool (decide (0 ≤ f ∧ f < ((opsA c seq size ws).length : Int) + 4))) rfl (by first | rfl | exact congrArg Value.bool (decide_eq_decide.2 (by omega)) | exact congrArg Value.bool (decide_eq_false (by omega)).symm | exact congrArg Value.bool (decide_eq_true (by omega)).symm)
  exact ⟨_, ⟨rfl, hs⟩, hf.sub ⟨rfl, rfl, rfl, rfl, rfl, rfl, rfl, rfl, rfl, trivial⟩⟩
 clear hf hs a
 rintro M a w ⟨rfl, hs⟩ hf
 refine wp_seq ?_
 refine c_join (N := 223) (L0 := [(0, _), (4, _), (10, _), (12, _), (15, _), (17, _), (18, _), (19, _), (20, _)]) (fun M w => M = [(107, .bool false)] ∧ St ⟨w0, None_⟩ w [diskA 85 127 5 3 p t1, slB 5 (.slice ga (aplR c size ws).length gc) (aplR c size ws)]) (hf.sub ⟨rfl, rfl, rfl, rfl, rfl, rfl, rfl, rfl, rfl, trivial⟩) ?_ ?_
 ·refine wp_region_lit ?_
  refine s_m hf rfl ?_; clear hf a; intro a hf
  refine s_m hf rfl ?_; clear hf a; intro a hf
  refine s_do hf rfl (y_call (hf.eval rfl) (hf.evals rfl) Tryz.call17 ((num_spec _ _).mono ?_))
  rintro e w1 ⟨rfl, hw9⟩
  rw [hw9]
  clear hw9 w1
  refine ⟨_, rfl, ?_⟩; clear hf a; intro a hf
  refine s_v hf (x_bin (hf.eval rfl) (hf.eval rfl) (r_eq _ _ _ _)) ?_; clear hf a; intro a hf
  refine s_v hf (x_boolNe Tryz.underlying4 (hf.eval rfl) (hf.eval rfl)) ?_; clear hf a; intro a hf
  refine s_m hf rfl ?_; clear hf a; intro a hf
  replace hf := hf.now (k := 92) (v' := .bool false) rfl (congrArg Value.bool (by rw [hE12]; cases decide (0 ≤ f ∧ f < ((opsA c seq size ws).length : Int) + 4) <;> rfl))
  refine s_do hf (wanted_of hf rfl rfl rfl) (.value (x_move (hf.eval rfl) _) ?_); clear hf a; intro a hf
  refine s_do hf (wanted_of hf rfl rfl rfl) (.value (x_not (hf.eval rfl) _) ?_); clear hf a; intro a hf
  refine s_do hf (wanted_of hf rfl rfl rfl) (.value (x_move (hf.eval rfl) _) ?_); clear hf a; intro a hf
  refine s_bool hf (k := 95) rfl (fun hg15_8 hf' => ?_) (fun hg15_8 hf' => ?_)
  ·clear hf
   have hf := hf'
   clear hf'
   simp only [Bool.not_eq_true', Bool.not_eq_false', decide_eq_true_eq, decide_eq_false_iff_not] at hg15_8
   obtain ⟨y1, y2⟩ := w1_ hg15_8
   refine s_do hf (wanted_of hf rfl rfl rfl) (.value (x_move (hf.eval rfl) _) ?_); clear hf a; intro a hf
   refine s_do hf (wanted_of hf rfl rfl rfl) (y_call (hf.eval rfl) (hf.evals rfl) Tryz.call17 ((num_spec _ _).mono ?_))
   rintro e w1 ⟨rfl, hw9⟩
   rw [hw9]
   clear hw9 w1
   refine ⟨_, rfl, ?_⟩; clear hf a; intro a hf
   refine s_do hf (wanted_of hf rfl rfl rfl) (.value (x_bin (hf.eval rfl) (hf.eval rfl) (r_ne _ _ _ _) _) ?_); clear hf a; intro a hf
   refine s_do hf (wanted_of hf rfl rfl rfl) (.value (x_move (hf.eval rfl) _) ?_); clear hf a; intro a hf
   replace hf := hf.now (k := 99) (v' := .bool false) rfl (congrArg Value.bool (by rw [y1]; rfl))
   refine s_do hf (wanted_of hf rfl rfl rfl) (.value (x_move (hf.eval rfl) _) ?_); clear hf a; intro a hf
   refine s_do hf (wanted_of hf rfl rfl rfl) (y_call (hf.eval rfl) (hf.evals rfl) Tryz.call21 ((dImage_spec _ _ _ p t1 hs (by rw [y2]; omega)).mono ?_))
   rintro e w1 ⟨e1, f1, rfl, hs⟩
   rw [y2] at hs ⊢
   refine ⟨_, rfl, ?_⟩; clear hf a; intro a hf
   refine s_do hf (wanted_of hf rfl rfl rfl) (.value (x_move (hf.eval rfl) _) ?_); clear hf a; intro a hf
   refine s_do hf (wanted_of hf rfl rfl rfl) (y_call (hf.eval rfl) (hf.evals rfl) Tryz.call20 ((same_spec _ _ _ (aplR c size ws) (hs.rdB .k0 fun h => slB_rd) _ _ (aplR c size ws) (hs.rdB (A := slB 5 (.slice ga (aplR c size ws).length gc) (aplR c size ws)) (by first | exact .k0 | exact .k1 | exact .k2 | exact .k3 | exact .k4 | exact .k5 | exact .k6 | exact .k7 | exact .k8 | exact .k9 | exact .k10 | exact .k11 | exact .k12 | exact .k13) fun h => slB_rd) (by omega)).mono ?_))
   rintro e w1 ⟨rfl, hk⟩
   replace hs := hs.ext hk
   refine ⟨_, rfl, ?_⟩; clear hf a; intro a hf
   refine s_do hf (wanted_of hf rfl rfl rfl) (.value (x_not (hf.eval rfl) _) ?_); clear hf a; intro a hf
   refine s_do hf (wanted_of hf rfl rfl rfl) (.value (x_pick_f (hf.eval rfl) (hf.eval rfl) _) ?_); clear hf a; intro a hf
   refine s_do hf (wanted_of hf rfl rfl rfl) (.value (x_pick_t (hf.eval rfl) (hf.eval rfl) _) ?_); clear hf a; intro a hf
   refine s_v hf (x_pick_f (hf.eval rfl) (hf.eval rfl)) ?_; clear hf a; intro a hf
   refine s_nil ?_
   refine then_n ?_
   replace hs := hs.take (A := slB 5 (.slice ga (aplR c size ws).length gc) (aplR c size ws)) (by first | exact .k0 | exact .k1 | exact .k2 | exact .k3 | exact .k4 | exact .k5 | exact .k6 | exact .k7 | exact .k8 | exact .k9 | exact .k10 | exact .k11 | exact .k12 | exact .k13)
   replace hs := hs.take (A := diskA 85 127 5 3 p t1) (by first | exact .k0 | exact .k1 | exact .k2 | exact .k3 | exact .k4 | exact .k5 | exact .k6 | exact .k7 | exact .k8 | exact .k9 | exact .k10 | exact .k11 | exact .k12 | exact .k13)
   replace hs := St.keep [_, _] _ hs
   replace hf := hf.now (k := 107) (v' := .bool false) rfl (by first | rfl | (simp; done) | (congr 1; simp))
   exact ⟨_, ⟨rfl, hs⟩, hf.sub ⟨rfl, rfl, rfl, rfl, rfl, rfl, rfl, rfl, rfl, rfl, trivial⟩⟩
  clear hf
  have hf := hf'
  clear hf'
  simp only [Bool.not_eq_true', Bool.not_eq_false', decide_eq_true_eq, decide_eq_false_iff_not] at hg15_8
  refine s_pass hf rfl rfl ?_; clear hf a; intro a hf
  refine s_pass hf rfl rfl ?_; clear hf a; intro a hf
  refine s_pass hf rfl rfl ?_; clear hf a; intro a hf
  refine s_pass hf rfl rfl ?_; clear hf a; intro a hf
  refine s_passU hf rfl rfl ?_; clear hf a; intro a hf
  refine s_passU hf rfl rfl ?_; clear hf a; intro a hf
  refine s_passU hf rfl rfl ?_; clear hf a; intro a hf
  refine s_passU hf rfl rfl ?_; clear hf a; intro a hf
  refine s_passU hf rfl rfl ?_; clear hf a; intro a hf
  refine s_pass hf rfl rfl ?_; clear hf a; intro a hf
  refine s_do hf (wanted_of hf rfl rfl rfl) (.value (x_pick_f (hf.eval rfl) (hf.eval rfl) _) ?_); clear hf a; intro a hf
  refine s_v hf (x_pick_f (hf.eval rfl) (hf.eval rfl)) ?_; clear hf a; intro a hf
  refine s_nil ?_
  refine then_n ?_
  replace hs := hs.take (A := slB 5 (.slice ga (aplR c size ws).length gc) (aplR c size ws)) (by first | exact .k0 | exact .k1 | exact .k2 | exact .k3 | exact .k4 | exact .k5 | exact .k6 | exact .k7 | exact .k8 | exact .k9 | exact .k10 | exact .k11 | exact .k12 | exact .k13)
  replace hs := hs.take (A := diskA 85 127 5 3 p t1) (by first | exact .k0 | exact .k1 | exact .k2 | exact .k3 | exact .k4 | exact .k5 | exact .k6 | exact .k7 | exact .k8 | exact .k9 | exact .k10 | exact .k11 | exact .k12 | exact .k13)
  replace hs := St.keep [_, _] _ hs
  replace hf := hf.now (k := 107) (v' := .bool false) rfl (by first | rfl | (simp; done) | (congr 1; simp))
  exact ⟨_, ⟨rfl, hs⟩, hf.sub ⟨rfl, rfl, rfl, rfl, rfl, rfl, rfl, rfl, rfl, rfl, trivial⟩⟩
 clear hf hs a
 rintro M a w ⟨rfl, hs⟩ hf
 refine c_cond_f hf rfl rfl ?_
 refine wp_skip ?_
 refine then_n ?_
 refine c_join (N := 223) (L0 := [(0, _), (4, _), (10, _), (12, _), (15, _), (17, _), (18, _), (19, _), (20, _)]) (fun M w => M = [(21, .bool (decide ((0 ≤ f ∧ f < ((opsA c seq size ws).length : Int) + 4) ∧ f ≤ ((opsA c seq size ws).length : Int))))] ∧ St ⟨w0, None_⟩ w [diskA 85 127 5 3 p t1, slB 5 (.slice ga (aplR c size ws).length gc) (aplR c size ws)]) (hf.sub ⟨rfl, rfl, rfl, rfl, rfl, rfl, rfl, rfl, rfl, trivial⟩) ?_ ?_
 ·refine wp_region_lit ?_
  refine s_m hf rfl ?_; clear hf a; intro a hf
  refine s_m hf rfl ?_; clear hf a; intro a hf
  refine s_bool hf (k := 109) rfl (fun hg17_1 hf' => ?_) (fun hg17_1 hf' => ?_)
  ·clear hf
   have hf := hf'
   clear hf'
   first | simp only [zd1, zd2, zd3, zd4, ne_eq, Classical.not_not] at hg17_1 | skip
   refine s_do hf (wanted_of hf rfl rfl rfl) (.value (x_move (hf.eval rfl) _) ?_); clear hf a; intro a hf
   refine s_do hf (wanted_of hf rfl rfl rfl) (.value (x_move (hf.eval rfl) _) ?_); clear hf a; intro a hf
   refine s_do hf (wanted_of hf rfl rfl rfl) (.value (x_bin (hf.eval rfl) (hf.eval rfl) (r_le _ _ _ _) _) ?_); clear hf a; intro a hf
   refine s_v hf (x_pick_t (hf.eval rfl) (hf.eval rfl)) ?_; clear hf a; intro a hf
   refine s_a hf rfl ?_; clear hf a; intro a hf
   refine s_nil ?_
   refine then_n ?_
   replace hf := hf.now (k := 21) (v' := .bool (decide ((0 ≤ f ∧ f < ((opsA c seq size ws).length : Int) + 4) ∧ f ≤ ((opsA c seq size ws).length : Int)))) rfl (by first | rfl | exact congrArg Value.bool (decide_eq_decide.2 (by omega)) | exact congrArg Value.bool (decide_eq_false (by omega)).symm | exact congrArg Value.bool (decide_eq_true (by omega)).symm)
   exact ⟨_, ⟨rfl, hs⟩, hf.sub ⟨rfl, rfl, rfl, rfl, rfl, rfl, rfl, rfl, rfl, rfl, trivial⟩⟩
  clear hf
  have hf := hf'
  clear hf'
  first | simp only [zd1, zd2, zd3, zd4, ne_eq, Classical.not_not] at hg17_1 | skip
  refine s_pass hf rfl rfl ?_; clear hf a; intro a hf
  refine s_pass hf rfl rfl ?_; clear hf a; intro a hf
  refine s_pass hf rfl rfl ?_; clear hf a; intro a hf
  refine s_v hf (x_pick_f (hf.eval rfl) (hf.eval rfl)) ?_; clear hf a; intro a hf
  refine s_a hf rfl ?_; clear hf a; intro a hf
  refine s_nil ?_
  refine then_n ?_
  replace hf := hf.now (k := 21) (v' := .bool (decide ((0 ≤ f ∧ f < ((opsA c seq size ws).length : Int) + 4) ∧ f ≤ ((opsA c seq size ws).length : Int)))) rfl (by first | rfl | exact congrArg Value.bool (decide_eq_decide.2 (by omega)) | exact congrArg Value.bool (decide_eq_false (by omega)).symm | exact congrArg Value.bool (decide_eq_true (by omega)).symm)
  exact ⟨_, ⟨rfl, hs⟩, hf.sub ⟨rfl, rfl, rfl, rfl, rfl, rfl, rfl, rfl, rfl, rfl, trivial⟩⟩
 clear hf hs a
 rintro M a w ⟨rfl, hs⟩ hf
 refine c_join (N := 223) (L0 := [(0, _), (4, _), (10, _), (12, _), (15, _), (17, _), (18, _), (21, _)]) (fun M w => M = [(22, .bool (decide (¬ (0 ≤ f ∧ f < ((opsA c seq size ws).length : Int) + 4) ∨ ((opsA c seq size ws).length : Int) + 2 ≤ f)))] ∧ St ⟨w0, None_⟩ w [diskA 85 127 5 3 p t1, slB 5 (.slice ga (aplR c size ws).length gc) (aplR c size ws)]) (hf.sub ⟨rfl, rfl, rfl, rfl, rfl, rfl, rfl, rfl, trivial⟩) ?_ ?_
 ·refine wp_region_lit ?_
  refine s_m hf rfl ?_; clear hf a; intro a hf
  refine s_v hf (x_not (hf.eval rfl)) ?_; clear hf a; intro a hf
  refine s_m hf rfl ?_; clear hf a; intro a hf
  refine s_bool hf (k := 116) rfl (fun hg18_2 hf' => ?_) (fun hg18_2 hf' => ?_)
  ·clear hf
   have hf := hf'
   clear hf'
   simp only [Bool.not_eq_true', Bool.not_eq_false', decide_eq_true_eq, decide_eq_false_iff_not] at hg18_2
   refine s_pass hf rfl rfl ?_; clear hf a; intro a hf
   refine s_pass hf rfl rfl ?_; clear hf a; intro a hf
   refine s_pass hf rfl rfl ?_; clear hf a; intro a hf
   refine s_pass hf rfl rfl ?_; clear hf a; intro a hf
   refine s_v hf (x_pick_t (hf.eval rfl) (hf.eval rfl)) ?_; clear hf a; intro a hf
   refine s_a hf rfl ?_; clear hf a; intro a hf
   refine s_nil ?_
   refine then_n ?_
   replace hf := hf.now (k := 22) (v' := .bool (decide (¬ (0 ≤ f ∧ f < ((opsA c seq size ws).length : Int) + 4) ∨ ((opsA c seq size ws).length : Int) + 2 ≤ f))) rfl (by first | rfl | exact congrArg Value.bool (decide_eq_decide.2 (by omega)) | exact congrArg Value.bool (decide_eq_false (by omega)).symm | exact congrArg Value.bool (decide_eq_true (by omega)).symm)
   exact ⟨_, ⟨rfl, hs⟩, hf.sub ⟨rfl, rfl, rfl, rfl, rfl, rfl, rfl, rfl, rfl, trivial⟩⟩
  clear hf
  have hf := hf'
  clear hf'
  simp only [Bool.not_eq_true', Bool.not_eq_false', decide_eq_true_eq, decide_eq_false_iff_not] at hg18_2
  refine s_do hf (wanted_of hf rfl rfl rfl) (.value (x_move (hf.eval rfl) _) ?_); clear hf a; intro a hf
  refine s_do hf (wanted_of hf rfl rfl rfl) (.value (x_move (hf.eval rfl) _) ?_); clear hf a; intro a hf
  refine s_do hf (wanted_of hf rfl rfl rfl) (.value (x_bin (hf.eval rfl) (hf.eval rfl) (r_addi _ (by omega) (by omega)) _) ?_); clear hf a; intro a hf
  refine s_do hf (wanted_of hf rfl rfl rfl) (.value (x_bin (hf.eval rfl) (hf.eval rfl) (r_ge _ _ _ _) _) ?_); clear hf a; intro a hf
  refine s_v hf (x_pick_f (hf.eval rfl) (hf.eval rfl)) ?_; clear hf a; intro a hf
  refine s_a hf rfl ?_; clear hf a; intro a hf
  refine s_nil ?_
  refine then_n ?_
  replace hf := hf.now (k := 22) (v' := .bool (decide (¬ (0 ≤ f ∧ f < ((opsA c seq size ws).length : Int) + 4) ∨ ((opsA c seq size ws).length : Int) + 2 ≤ f))) rfl (by first | rfl | exact congrArg Value.bool (decide_eq_decide.2 (by omega)) | exact congrArg Value.bool (decide_eq_false (by omega)).symm | exact congrArg Value.bool (decide_eq_true (by omega)).symm)
  exact ⟨_, ⟨rfl, hs⟩, hf.sub ⟨rfl, rfl, rfl, rfl, rfl, rfl, rfl, rfl, rfl, trivial⟩⟩
 clear hf hs a
 rintro M a w ⟨rfl, hs⟩ hf
 refine wp_seq ?_
 refine wp_seq ?_
 refine wp_region_lit ?_
 refine s_a hf rfl ?_; clear hf a; intro a hf
 refine s_nil ?_
 refine then_n ?_
 refine wp_block ?_
 refine c_loop (L0 := [(0, _), (4, _), (12, _)]) (fun M w m => ∃ (i P : Nat) (s : DS) (o t : Bool), M = [(15, .pointer (some ⟨P, 0, none⟩)), (21, .bool o), (22, .bool t), (23, .int .i64 (i : Int))] ∧ cuts.length - i = m ∧ i ≤ cuts.length ∧ DOk s ∧ DB s 3200000 ∧ Good s c (aplR c size ws) o t ∧ St ⟨w0, None_⟩ w [diskA 85 127 5 3 P s, slB 5 (.slice ga (aplR c size ws).length gc) (aplR c size ws)]) (M0 := [(15, .pointer (some ⟨p, 0, none⟩)), (21, .bool (decide ((0 ≤ f ∧ f < ((opsA c seq size ws).length : Int) + 4) ∧ f ≤ ((opsA c seq size ws).length : Int)))), (22, .bool (decide (¬ (0 ≤ f ∧ f < ((opsA c seq size ws).length : Int) + 4) ∨ ((opsA c seq size ws).length : Int) + 2 ≤ f))), (23, .int .i64 0)]) (⟨0, p, t1, _, _, rfl, rfl, Nat.zero_le _, hto, htb.up hln9, w3_, hs⟩) (hf.sub ⟨rfl, rfl, rfl, rfl, rfl, rfl, rfl, trivial⟩) ?_
 clear hf hs a
 rintro M m a w ⟨i, P, s, o, t, rfl, rfl, hi, hso, hsb, hgd9, hs⟩ hf
 refine wp_seq ?_
 refine wp_seq ?_
 refine wp_region_lit ?_
 refine s_m hf rfl ?_; clear hf a; intro a hf
 refine s_m hf rfl ?_; clear hf a; intro a hf
 refine s_v hf (x_len Tryz.underlying57 (hf.eval rfl)) ?_; clear hf a; intro a hf
 refine s_v hf (x_bin (hf.eval rfl) (hf.eval rfl) (r_lt _ _ _ _)) ?_; clear hf a; intro a hf
 refine s_nil ?_
 refine then_n ?_
 refine c_cond hf rfl (fun hi4 => ?_) (fun hi4 => ?_)
 ·first | simp only [zd1, zd2, zd3, zd4, ne_eq, Classical.not_not] at hi4 | skip
  have hlt : i < cuts.length := by omega
  obtain ⟨ax, rfl⟩ := hrx.some (by omega)
  obtain ⟨hg1, hg2⟩ := hgx _ (List.getElem_mem hlt)
  have hs1 := hsb.sizes
  have hs2 := hsb.pcs
  have hr9 := hso.room1
  refine wp_skip ?_
  refine then_n ?_
  refine wp_seq ?_
  refine wp_block ?_
  refine wp_seq ?_
  refine wp_region_lit ?_
  refine s_m hf rfl ?_; clear hf a; intro a hf
  refine s_m hf rfl ?_; clear hf a; intro a hf
  refine s_m hf rfl ?_; clear hf a; intro a hf
  refine s_v hf (x_indexAddr sl57 (hf.eval rfl) (hf.eval rfl) (by omega) (by omega)) ?_; clear hf a; intro a hf
  refine s_v hf (x_fieldAddrG fo66_1 (hf.eval rfl)) ?_; clear hf a; intro a hf
  refine s_r hf (x_loadFA (k := 1) (i := i) (m := 3) (f := cuF) (l := cuts) (vs := chF cuts[i].2) ag64 (fun _ => rfl) (hs.old hrx) (hf.eval rfl) hlt rfl (by omega) (fun j v hj => by rw [Nat.add_comm]; exact hj)) ?_; clear hf a; intro a hf
  replace hf := hf.now (k := 134) (v' := .agg #[.int .i64 cuts[i].2.1, .slice cuts[i].2.2.1.1 cuts[i].2.2.1.2.2.length cuts[i].2.2.1.2.1, .int .i64 cuts[i].2.2.2]) rfl (rfl)
  refine s_do hf rfl (y_call (hf.eval rfl) (hf.evals rfl) Tryz.call33 ((dCrash_spec _ _ _ P s hs cuts[i].2.1 cuts[i].2.2.1.1 cuts[i].2.2.1.2.1 cuts[i].2.2.1.2.2 cuts[i].2.2.2 hso (RdyS.old hg1.rd) (by omega) (by omega)).mono ?_))
  rintro e w1 ⟨p2, rfl, hs⟩
  have hil := outN_le hso (cuts[i].2.1, cuts[i].2.2.1.2.2, cuts[i].2.2.2)
  rw [← outS_length] at hil
  obtain ⟨hx1, hx2, hx3⟩ := hgd9 (cuts[i].2.1, cuts[i].2.2.1.2.2, cuts[i].2.2.2)
  obtain ⟨im, him⟩ : ∃ im, im = outS s (cuts[i].2.1, cuts[i].2.2.1.2.2, cuts[i].2.2.2) := ⟨_, rfl⟩
  rw [← him] at hs hil hx1 hx2 hx3
  have hlz := (lk_size im).2
  obtain ⟨x, hxx⟩ : ∃ x, (lkV im).2 = x := ⟨_, rfl⟩
  rw [hxx] at hx1 hx2 hx3 hlz
  have hq9 : (lkV x).1.1 = 0 := by rcases hx1 with h | h <;> rw [h] <;> assumption
  refine ⟨_, rfl, ?_⟩; clear hf a; intro a hf
  refine s_m hf rfl ?_; clear hf a; intro a hf
  refine s_v hf (x_extract (hf.eval rfl) rfl) ?_; clear hf a; intro a hf
  refine s_v hf (x_extract (hf.eval rfl) rfl) ?_; clear hf a; intro a hf
  refine s_a hf rfl ?_; clear hf a; intro a hf
  refine s_nil ?_
  refine then_n ?_
  refine wp_seq ?_
  refine wp_region_lit ?_
  refine s_m hf rfl ?_; clear hf a; intro a hf
  refine s_do hf rfl (y_call (hf.eval rfl) (hf.evals rfl) Tryz.call21 ((dImage_spec _ _ _ p2 (newS im s.room) hs (by show im.length ≤ 140737488351232; omega)).mono ?_))
  rintro e w1 ⟨e3, f3, rfl, hs⟩
  replace hs : St _ _ (slB 5 (.slice e3 im.length f3) im :: _) := hs
  refine ⟨_, rfl, ?_⟩; clear hf a; intro a hf
  refine s_do hf rfl (y_call (hf.eval rfl) (hf.evals rfl) Tryz.call34 ((look_spec _ (hT.kept hs.kept) _ _ im (hs.rdB .k0 fun h => slB_rd) (by omega)).mono ?_))
  rintro e w1 ⟨gx, cx9, rfl, hj⟩
  replace hs := hs.join hj
  simp only [List.cons_append, List.nil_append] at hs
  rw [hxx] at hs ⊢
  refine ⟨_, rfl, ?_⟩; clear hf a; intro a hf
  refine s_m hf rfl ?_; clear hf a; intro a hf
  refine s_v hf (x_extract (hf.eval rfl) rfl) ?_; clear hf a; intro a hf
  refine s_v hf (x_extract (hf.eval rfl) rfl) ?_; clear hf a; intro a hf
  refine s_do hf rfl (y_alloc hs Tryz.zeroValue37 ?_); clear hf hs a; intro b24 w hs a hf
  change St _ _ (cb b24 37 (vdF (0, 0, 0)) :: _) at hs
  refine s_do0 hf rfl (y_storeAgg (cs := vdF (lkV im).1) hs (n := 3) (by kernel_rfl) (hf.eval rfl) (hf.eval rfl) (by simp [Value.oneCell', vdF]) rfl rfl .k0 ?_); clear hf hs a; intro w hs a hf
  refine s_a hf rfl ?_; clear hf a; intro a hf
  refine s_nil ?_
  refine then_n ?_
  refine wp_seq ?_
  refine wp_region_lit ?_
  refine s_m hf rfl ?_; clear hf a; intro a hf
  refine s_m hf rfl ?_; clear hf a; intro a hf
  replace hs := hs.take (A := slB 5 (.slice gx x.length cx9) x) (by first | exact .k0 | exact .k1 | exact .k2 | exact .k3 | exact .k4 | exact .k5 | exact .k6 | exact .k7 | exact .k8 | exact .k9 | exact .k10 | exact .k11 | exact .k12 | exact .k13)
  refine s_do hf rfl (y_call (hf.eval rfl) (hf.evals rfl) Tryz.call20 ((same_spec _ _ _ x (hs.rdB .k0 fun h => slB_rd) _ _ c (hs.oldB hr1) (by omega)).mono ?_))
  rintro e w1 ⟨rfl, hk⟩
  replace hs := hs.ext hk
  refine ⟨_, rfl, ?_⟩; clear hf a; intro a hf
  refine s_a hf rfl ?_; clear hf a; intro a hf
  refine s_nil ?_
  refine then_n ?_
  refine wp_seq ?_
  refine wp_region_lit ?_
  refine s_m hf rfl ?_; clear hf a; intro a hf
  refine s_m hf rfl ?_; clear hf a; intro a hf
  refine s_do hf rfl (y_call (hf.eval rfl) (hf.evals rfl) Tryz.call20 ((same_spec _ _ _ x (hs.rdB .k0 fun h => slB_rd) _ _ (aplR c size ws) (hs.rdB (A := slB 5 (.slice ga (aplR c size ws).length gc) (aplR c size ws)) (by first | exact .k0 | exact .k1 | exact .k2 | exact .k3 | exact .k4 | exact .k5 | exact .k6 | exact .k7 | exact .k8 | exact .k9 | exact .k10 | exact .k11 | exact .k12 | exact .k13) fun h => slB_rd) (by omega)).mono ?_))
  rintro e w1 ⟨rfl, hk⟩
  replace hs := hs.ext hk
  refine ⟨_, rfl, ?_⟩; clear hf a; intro a hf
  refine s_a hf rfl ?_; clear hf a; intro a hf
  refine s_nil ?_
  refine then_n ?_
  refine wp_seq ?_
  refine c_join (N := 223) (L0 := [(0, _), (4, _), (12, _), (15, _), (21, _), (22, _), (23, _), (24, _), (25, _), (26, _), (27, _), (122, _), (123, _), (124, _), (125, _), (128, _), (129, _), (130, _), (131, _), (132, _), (133, _), (134, _), (135, _), (136, _), (138, _), (139, _), (140, _), (141, _), (142, _), (143, _), (144, _), (145, _), (146, _), (147, _), (148, _), (149, _)]) (fun M w => M = [(169, .bool false)] ∧ St ⟨w0, None_⟩ w [slB 5 (.slice gx x.length cx9) x, diskA 85 127 5 3 p2 (newS im s.room), slB 5 (.slice ga (aplR c size ws).length gc) (aplR c size ws)]) (hf.sub ⟨rfl, rfl, rfl, rfl, rfl, rfl, rfl, rfl, rfl, rfl, rfl, rfl, rfl, rfl, rfl, rfl, rfl, rfl, rfl, rfl, rfl, rfl, rfl, rfl, rfl, rfl, rfl, rfl, rfl, rfl, rfl, rfl, rfl, rfl, rfl, rfl, trivial⟩) ?_ ?_
  ·refine wp_region_lit ?_
   refine s_m hf rfl ?_; clear hf a; intro a hf
   refine s_v hf (x_not (hf.eval rfl)) ?_; clear hf a; intro a hf
   refine s_m hf rfl ?_; clear hf a; intro a hf
   refine s_bool hf (k := 152) rfl (fun hg26_2 hf' => ?_) (fun hg26_2 hf' => ?_)
   ·clear hf
    have hf := hf'
    clear hf'
    simp only [Bool.not_eq_true', Bool.not_eq_false', decide_eq_true_eq, decide_eq_false_iff_not] at hg26_2
    have hxn : x = (aplR c size ws) := hx1.resolve_left hg26_2
    refine s_do hf (wanted_of hf rfl rfl rfl) (.value (x_move (hf.eval rfl) _) ?_); clear hf a; intro a hf
    refine s_do hf (wanted_of hf rfl rfl rfl) (.value (x_not (hf.eval rfl) _) ?_); clear hf a; intro a hf
    refine s_v hf (x_pick_t (hf.eval rfl) (hf.eval rfl)) ?_; clear hf a; intro a hf
    refine s_m hf rfl ?_; clear hf a; intro a hf
    replace hf := hf.now (k := 156) (v' := .bool false) rfl (congrArg Value.bool (by rw [decide_eq_true hxn]; rfl))
    refine s_do hf (wanted_of hf rfl rfl rfl) (.value (x_move (hf.eval rfl) _) ?_); clear hf a; intro a hf
    refine s_do hf (wanted_of hf rfl rfl rfl) (.value (x_move (hf.eval rfl) _) ?_); clear hf a; intro a hf
    refine s_bool hf (k := 158) rfl (fun hg26_8 hf' => ?_) (fun hg26_8 hf' => ?_)
    ·clear hf
     have hf := hf'
     clear hf'
     have hxo := hx2 hg26_8
     refine s_do hf (wanted_of hf rfl rfl rfl) (.value (x_move (hf.eval rfl) _) ?_); clear hf a; intro a hf
     refine s_do hf (wanted_of hf rfl rfl rfl) (.value (x_not (hf.eval rfl) _) ?_); clear hf a; intro a hf
     refine s_do hf (wanted_of hf rfl rfl rfl) (.value (x_pick_t (hf.eval rfl) (hf.eval rfl) _) ?_); clear hf a; intro a hf
     refine s_v hf (x_pick_f (hf.eval rfl) (hf.eval rfl)) ?_; clear hf a; intro a hf
     refine s_m hf rfl ?_; clear hf a; intro a hf
     replace hf := hf.now (k := 163) (v' := .bool false) rfl (congrArg Value.bool (by rw [decide_eq_true hxo]; rfl))
     refine s_do hf (wanted_of hf rfl rfl rfl) (.value (x_move (hf.eval rfl) _) ?_); clear hf a; intro a hf
     refine s_do hf (wanted_of hf rfl rfl rfl) (.value (x_move (hf.eval rfl) _) ?_); clear hf a; intro a hf
     refine s_bool hf (k := 165) rfl (fun hg26_15 hf' => ?_) (fun hg26_15 hf' => ?_)
     ·clear hf
      have hf := hf'
      clear hf'
      have hxt := hx3 hg26_15
      refine s_do hf (wanted_of hf rfl rfl rfl) (.value (x_move (hf.eval rfl) _) ?_); clear hf a; intro a hf
      refine s_do hf (wanted_of hf rfl rfl rfl) (.value (x_not (hf.eval rfl) _) ?_); clear hf a; intro a hf
      refine s_do hf (wanted_of hf rfl rfl rfl) (.value (x_pick_t (hf.eval rfl) (hf.eval rfl) _) ?_); clear hf a; intro a hf
      refine s_v hf (x_pick_f (hf.eval rfl) (hf.eval rfl)) ?_; clear hf a; intro a hf
      refine s_nil ?_
      refine then_n ?_
      replace hs := hs.take (A := slB 5 (.slice ga (aplR c size ws).length gc) (aplR c size ws)) (by first | exact .k0 | exact .k1 | exact .k2 | exact .k3 | exact .k4 | exact .k5 | exact .k6 | exact .k7 | exact .k8 | exact .k9 | exact .k10 | exact .k11 | exact .k12 | exact .k13)
      replace hs := hs.take (A := diskA 85 127 5 3 p2 (newS im s.room)) (by first | exact .k0 | exact .k1 | exact .k2 | exact .k3 | exact .k4 | exact .k5 | exact .k6 | exact .k7 | exact .k8 | exact .k9 | exact .k10 | exact .k11 | exact .k12 | exact .k13)
      replace hs := hs.take (A := slB 5 (.slice gx x.length cx9) x) (by first | exact .k0 | exact .k1 | exact .k2 | exact .k3 | exact .k4 | exact .k5 | exact .k6 | exact .k7 | exact .k8 | exact .k9 | exact .k10 | exact .k11 | exact .k12 | exact .k13)
      replace hs := St.keep [_, _, _] _ hs
      replace hf := hf.now (k := 169) (v' := .bool false) rfl (by first | rfl | (rw [decide_eq_true hxt]; rfl))
      exact ⟨_, ⟨rfl, hs⟩, hf.sub ⟨rfl, rfl, rfl, rfl, rfl, rfl, rfl, rfl, rfl, rfl, rfl, rfl, rfl, rfl, rfl, rfl, rfl, rfl, rfl, rfl, rfl, rfl, rfl, rfl, rfl, rfl, rfl, rfl, rfl, rfl, rfl, rfl, rfl, rfl, rfl, rfl, rfl, trivial⟩⟩
     clear hf
     have hf := hf'
     clear hf'
     refine s_pass hf rfl rfl ?_; clear hf a; intro a hf
     refine s_pass hf rfl rfl ?_; clear hf a; intro a hf
     refine s_do hf (wanted_of hf rfl rfl rfl) (.value (x_pick_f (hf.eval rfl) (hf.eval rfl) _) ?_); clear hf a; intro a hf
     refine s_v hf (x_pick_f (hf.eval rfl) (hf.eval rfl)) ?_; clear hf a; intro a hf
     refine s_nil ?_
     refine then_n ?_
     replace hs := hs.take (A := slB 5 (.slice ga (aplR c size ws).length gc) (aplR c size ws)) (by first | exact .k0 | exact .k1 | exact .k2 | exact .k3 | exact .k4 | exact .k5 | exact .k6 | exact .k7 | exact .k8 | exact .k9 | exact .k10 | exact .k11 | exact .k12 | exact .k13)
     replace hs := hs.take (A := diskA 85 127 5 3 p2 (newS im s.room)) (by first | exact .k0 | exact .k1 | exact .k2 | exact .k3 | exact .k4 | exact .k5 | exact .k6 | exact .k7 | exact .k8 | exact .k9 | exact .k10 | exact .k11 | exact .k12 | exact .k13)
     replace hs := hs.take (A := slB 5 (.slice gx x.length cx9) x) (by first | exact .k0 | exact .k1 | exact .k2 | exact .k3 | exact .k4 | exact .k5 | exact .k6 | exact .k7 | exact .k8 | exact .k9 | exact .k10 | exact .k11 | exact .k12 | exact .k13)
     replace hs := St.keep [_, _, _] _ hs
     replace hf := hf.now (k := 169) (v' := .bool false) rfl (by first | rfl | (rw [decide_eq_true hxt]; rfl))
     exact ⟨_, ⟨rfl, hs⟩, hf.sub ⟨rfl, rfl, rfl, rfl, rfl, rfl, rfl, rfl, rfl, rfl, rfl, rfl, rfl, rfl, rfl, rfl, rfl, rfl, rfl, rfl, rfl, rfl, rfl, rfl, rfl, rfl, rfl, rfl, rfl, rfl, rfl, rfl, rfl, rfl, rfl, rfl, rfl, trivial⟩⟩
    clear hf
    have hf := hf'
    clear hf'
    refine s_pass hf rfl rfl ?_; clear hf a; intro a hf
    refine s_pass hf rfl rfl ?_; clear hf a; intro a hf
    refine s_do hf (wanted_of hf rfl rfl rfl) (.value (x_pick_f (hf.eval rfl) (hf.eval rfl) _) ?_); clear hf a; intro a hf
    refine s_v hf (x_pick_f (hf.eval rfl) (hf.eval rfl)) ?_; clear hf a; intro a hf
    refine s_m hf rfl ?_; clear hf a; intro a hf
    refine s_do hf (wanted_of hf rfl rfl rfl) (.value (x_move (hf.eval rfl) _) ?_); clear hf a; intro a hf
    refine s_do hf (wanted_of hf rfl rfl rfl) (.value (x_move (hf.eval rfl) _) ?_); clear hf a; intro a hf
    refine s_bool hf (k := 165) rfl (fun hg26_15 hf' => ?_) (fun hg26_15 hf' => ?_)
    ·clear hf
     have hf := hf'
     clear hf'
     have hxt := hx3 hg26_15
     refine s_do hf (wanted_of hf rfl rfl rfl) (.value (x_move (hf.eval rfl) _) ?_); clear hf a; intro a hf
     refine s_do hf (wanted_of hf rfl rfl rfl) (.value (x_not (hf.eval rfl) _) ?_); clear hf a; intro a hf
     refine s_do hf (wanted_of hf rfl rfl rfl) (.value (x_pick_t (hf.eval rfl) (hf.eval rfl) _) ?_); clear hf a; intro a hf
     refine s_v hf (x_pick_f (hf.eval rfl) (hf.eval rfl)) ?_; clear hf a; intro a hf
     refine s_nil ?_
     refine then_n ?_
     replace hs := hs.take (A := slB 5 (.slice ga (aplR c size ws).length gc) (aplR c size ws)) (by first | exact .k0 | exact .k1 | exact .k2 | exact .k3 | exact .k4 | exact .k5 | exact .k6 | exact .k7 | exact .k8 | exact .k9 | exact .k10 | exact .k11 | exact .k12 | exact .k13)
     replace hs := hs.take (A := diskA 85 127 5 3 p2 (newS im s.room)) (by first | exact .k0 | exact .k1 | exact .k2 | exact .k3 | exact .k4 | exact .k5 | exact .k6 | exact .k7 | exact .k8 | exact .k9 | exact .k10 | exact .k11 | exact .k12 | exact .k13)
     replace hs := hs.take (A := slB 5 (.slice gx x.length cx9) x) (by first | exact .k0 | exact .k1 | exact .k2 | exact .k3 | exact .k4 | exact .k5 | exact .k6 | exact .k7 | exact .k8 | exact .k9 | exact .k10 | exact .k11 | exact .k12 | exact .k13)
     replace hs := St.keep [_, _, _] _ hs
     replace hf := hf.now (k := 169) (v' := .bool false) rfl (by first | rfl | (rw [decide_eq_true hxt]; rfl))
     exact ⟨_, ⟨rfl, hs⟩, hf.sub ⟨rfl, rfl, rfl, rfl, rfl, rfl, rfl, rfl, rfl, rfl, rfl, rfl, rfl, rfl, rfl, rfl, rfl, rfl, rfl, rfl, rfl, rfl, rfl, rfl, rfl, rfl, rfl, rfl, rfl, rfl, rfl, rfl, rfl, rfl, rfl, rfl, rfl, trivial⟩⟩
    clear hf
    have hf := hf'
    clear hf'
    refine s_pass hf rfl rfl ?_; clear hf a; intro a hf
    refine s_pass hf rfl rfl ?_; clear hf a; intro a hf
    refine s_do hf (wanted_of hf rfl rfl rfl) (.value (x_pick_f (hf.eval rfl) (hf.eval rfl) _) ?_); clear hf a; intro a hf
    refine s_v hf (x_pick_f (hf.eval rfl) (hf.eval rfl)) ?_; clear hf a; intro a hf
    refine s_nil ?_
    refine then_n ?_
    replace hs := hs.take (A := slB 5 (.slice ga (aplR c size ws).length gc) (aplR c size ws)) (by first | exact .k0 | exact .k1 | exact .k2 | exact .k3 | exact .k4 | exact .k5 | exact .k6 | exact .k7 | exact .k8 | exact .k9 | exact .k10 | exact .k11 | exact .k12 | exact .k13)
    replace hs := hs.take (A := diskA 85 127 5 3 p2 (newS im s.room)) (by first | exact .k0 | exact .k1 | exact .k2 | exact .k3 | exact .k4 | exact .k5 | exact .k6 | exact .k7 | exact .k8 | exact .k9 | exact .k10 | exact .k11 | exact .k12 | exact .k13)
    replace hs := hs.take (A := slB 5 (.slice gx x.length cx9) x) (by first | exact .k0 | exact .k1 | exact .k2 | exact .k3 | exact .k4 | exact .k5 | exact .k6 | exact .k7 | exact .k8 | exact .k9 | exact .k10 | exact .k11 | exact .k12 | exact .k13)
    replace hs := St.keep [_, _, _] _ hs
    replace hf := hf.now (k := 169) (v' := .bool false) rfl (by first | rfl | (rw [decide_eq_true hxt]; rfl))
    exact ⟨_, ⟨rfl, hs⟩, hf.sub ⟨rfl, rfl, rfl, rfl, rfl, rfl, rfl, rfl, rfl, rfl, rfl, rfl, rfl, rfl, rfl, rfl, rfl, rfl, rfl, rfl, rfl, rfl, rfl, rfl, rfl, rfl, rfl, rfl, rfl, rfl, rfl, rfl, rfl, rfl, rfl, rfl, rfl, trivial⟩⟩
   clear hf
   have hf := hf'
   clear hf'
   simp only [Bool.not_eq_true', Bool.not_eq_false', decide_eq_true_eq, decide_eq_false_iff_not] at hg26_2
   have hxc : x = c := hg26_2
   refine s_pass hf rfl rfl ?_; clear hf a; intro a hf
   refine s_pass hf rfl rfl ?_; clear hf a; intro a hf
   refine s_v hf (x_pick_f (hf.eval rfl) (hf.eval rfl)) ?_; clear hf a; intro a hf
   refine s_m hf rfl ?_; clear hf a; intro a hf
   refine s_do hf (wanted_of hf rfl rfl rfl) (.value (x_move (hf.eval rfl) _) ?_); clear hf a; intro a hf
   refine s_do hf (wanted_of hf rfl rfl rfl) (.value (x_move (hf.eval rfl) _) ?_); clear hf a; intro a hf
   refine s_bool hf (k := 158) rfl (fun hg26_8 hf' => ?_) (fun hg26_8 hf' => ?_)
   ·clear hf
    have hf := hf'
    clear hf'
    have hxo := hx2 hg26_8
    refine s_do hf (wanted_of hf rfl rfl rfl) (.value (x_move (hf.eval rfl) _) ?_); clear hf a; intro a hf
    refine s_do hf (wanted_of hf rfl rfl rfl) (.value (x_not (hf.eval rfl) _) ?_); clear hf a; intro a hf
    refine s_do hf (wanted_of hf rfl rfl rfl) (.value (x_pick_t (hf.eval rfl) (hf.eval rfl) _) ?_); clear hf a; intro a hf
    refine s_v hf (x_pick_f (hf.eval rfl) (hf.eval rfl)) ?_; clear hf a; intro a hf
    refine s_m hf rfl ?_; clear hf a; intro a hf
    replace hf := hf.now (k := 163) (v' := .bool false) rfl (congrArg Value.bool (by rw [decide_eq_true hxo]; rfl))
    refine s_do hf (wanted_of hf rfl rfl rfl) (.value (x_move (hf.eval rfl) _) ?_); clear hf a; intro a hf
    refine s_do hf (wanted_of hf rfl rfl rfl) (.value (x_move (hf.eval rfl) _) ?_); clear hf a; intro a hf
    refine s_bool hf (k := 165) rfl (fun hg26_15 hf' => ?_) (fun hg26_15 hf' => ?_)
    ·clear hf
     have hf := hf'
     clear hf'
     have hxt := hx3 hg26_15
     refine s_do hf (wanted_of hf rfl rfl rfl) (.value (x_move (hf.eval rfl) _) ?_); clear hf a; intro a hf
     refine s_do hf (wanted_of hf rfl rfl rfl) (.value (x_not (hf.eval rfl) _) ?_); clear hf a; intro a hf
     refine s_do hf (wanted_of hf rfl rfl rfl) (.value (x_pick_t (hf.eval rfl) (hf.eval rfl) _) ?_); clear hf a; intro a hf
     refine s_v hf (x_pick_f (hf.eval rfl) (hf.eval rfl)) ?_; clear hf a; intro a hf
     refine s_nil ?_
     refine then_n ?_
     replace hs := hs.take (A := slB 5 (.slice ga (aplR c size ws).length gc) (aplR c size ws)) (by first | exact .k0 | exact .k1 | exact .k2 | exact .k3 | exact .k4 | exact .k5 | exact .k6 | exact .k7 | exact .k8 | exact .k9 | exact .k10 | exact .k11 | exact .k12 | exact .k13)
     replace hs := hs.take (A := diskA 85 127 5 3 p2 (newS im s.room)) (by first | exact .k0 | exact .k1 | exact .k2 | exact .k3 | exact .k4 | exact .k5 | exact .k6 | exact .k7 | exact .k8 | exact .k9 | exact .k10 | exact .k11 | exact .k12 | exact .k13)
     replace hs := hs.take (A := slB 5 (.slice gx x.length cx9) x) (by first | exact .k0 | exact .k1 | exact .k2 | exact .k3 | exact .k4 | exact .k5 | exact .k6 | exact .k7 | exact .k8 | exact .k9 | exact .k10 | exact .k11 | exact .k12 | exact .k13)
     replace hs := St.keep [_, _, _] _ hs
     replace hf := hf.now (k := 169) (v' := .bool false) rfl (by first | rfl | (rw [decide_eq_true hxt]; rfl))
     exact ⟨_, ⟨rfl, hs⟩, hf.sub ⟨rfl, rfl, rfl, rfl, rfl, rfl, rfl, rfl, rfl, rfl, rfl, rfl, rfl, rfl, rfl, rfl, rfl, rfl, rfl, rfl, rfl, rfl, rfl, rfl, rfl, rfl, rfl, rfl, rfl, rfl, rfl, rfl, rfl, rfl, rfl, rfl, rfl, trivial⟩⟩
    clear hf
    have hf := hf'
    clear hf'
    refine s_pass hf rfl rfl ?_; clear hf a; intro a hf
    refine s_pass hf rfl rfl ?_; clear hf a; intro a hf
    refine s_do hf (wanted_of hf rfl rfl rfl) (.value (x_pick_f (hf.eval rfl) (hf.eval rfl) _) ?_); clear hf a; intro a hf
    refine s_v hf (x_pick_f (hf.eval rfl) (hf.eval rfl)) ?_; clear hf a; intro a hf
    refine s_nil ?_
    refine then_n ?_
    replace hs := hs.take (A := slB 5 (.slice ga (aplR c size ws).length gc) (aplR c size ws)) (by first | exact .k0 | exact .k1 | exact .k2 | exact .k3 | exact .k4 | exact .k5 | exact .k6 | exact .k7 | exact .k8 | exact .k9 | exact .k10 | exact .k11 | exact .k12 | exact .k13)
    replace hs := hs.take (A := diskA 85 127 5 3 p2 (newS im s.room)) (by first | exact .k0 | exact .k1 | exact .k2 | exact .k3 | exact .k4 | exact .k5 | exact .k6 | exact .k7 | exact .k8 | exact .k9 | exact .k10 | exact .k11 | exact .k12 | exact .k13)
    replace hs := hs.take (A := slB 5 (.slice gx x.length cx9) x) (by first | exact .k0 | exact .k1 | exact .k2 | exact .k3 | exact .k4 | exact .k5 | exact .k6 | exact .k7 | exact .k8 | exact .k9 | exact .k10 | exact .k11 | exact .k12 | exact .k13)
    replace hs := St.keep [_, _, _] _ hs
    replace hf := hf.now (k := 169) (v' := .bool false) rfl (by first | rfl | (rw [decide_eq_true hxt]; rfl))
    exact ⟨_, ⟨rfl, hs⟩, hf.sub ⟨rfl, rfl, rfl, rfl, rfl, rfl, rfl, rfl, rfl, rfl, rfl, rfl, rfl, rfl, rfl, rfl, rfl, rfl, rfl, rfl, rfl, rfl, rfl, rfl, rfl, rfl, rfl, rfl, rfl, rfl, rfl, rfl, rfl, rfl, rfl, rfl, rfl, trivial⟩⟩
   clear hf
   have hf := hf'
   clear hf'
   refine s_pass hf rfl rfl ?_; clear hf a; intro a hf
   refine s_pass hf rfl rfl ?_; clear hf a; intro a hf
   refine s_do hf (wanted_of hf rfl rfl rfl) (.value (x_pick_f (hf.eval rfl) (hf.eval rfl) _) ?_); clear hf a; intro a hf
   refine s_v hf (x_pick_f (hf.eval rfl) (hf.eval rfl)) ?_; clear hf a; intro a hf
   refine s_m hf rfl ?_; clear hf a; intro a hf
   refine s_do hf (wanted_of hf rfl rfl rfl) (.value (x_move (hf.eval rfl) _) ?_); clear hf a; intro a hf
   refine s_do hf (wanted_of hf rfl rfl rfl) (.value (x_move (hf.eval rfl) _) ?_); clear hf a; intro a hf
   refine s_bool hf (k := 165) rfl (fun hg26_15 hf' => ?_) (fun hg26_15 hf' => ?_)
   ·clear hf
    have hf := hf'
    clear hf'
    have hxt := hx3 hg26_15
    refine s_do hf (wanted_of hf rfl rfl rfl) (.value (x_move (hf.eval rfl) _) ?_); clear hf a; intro a hf
    refine s_do hf (wanted_of hf rfl rfl rfl) (.value (x_not (hf.eval rfl) _) ?_); clear hf a; intro a hf
    refine s_do hf (wanted_of hf rfl rfl rfl) (.value (x_pick_t (hf.eval rfl) (hf.eval rfl) _) ?_); clear hf a; intro a hf
    refine s_v hf (x_pick_f (hf.eval rfl) (hf.eval rfl)) ?_; clear hf a; intro a hf
    refine s_nil ?_
    refine then_n ?_
    replace hs := hs.take (A := slB 5 (.slice ga (aplR c size ws).length gc) (aplR c size ws)) (by first | exact .k0 | exact .k1 | exact .k2 | exact .k3 | exact .k4 | exact .k5 | exact .k6 | exact .k7 | exact .k8 | exact .k9 | exact .k10 | exact .k11 | exact .k12 | exact .k13)
    replace hs := hs.take (A := diskA 85 127 5 3 p2 (newS im s.room)) (by first | exact .k0 | exact .k1 | exact .k2 | exact .k3 | exact .k4 | exact .k5 | exact .k6 | exact .k7 | exact .k8 | exact .k9 | exact .k10 | exact .k11 | exact .k12 | exact .k13)
    replace hs := hs.take (A := slB 5 (.slice gx x.length cx9) x) (by first | exact .k0 | exact .k1 | exact .k2 | exact .k3 | exact .k4 | exact .k5 | exact .k6 | exact .k7 | exact .k8 | exact .k9 | exact .k10 | exact .k11 | exact .k12 | exact .k13)
    replace hs := St.keep [_, _, _] _ hs
    replace hf := hf.now (k := 169) (v' := .bool false) rfl (by first | rfl | (rw [decide_eq_true hxt]; rfl))
    exact ⟨_, ⟨rfl, hs⟩, hf.sub ⟨rfl, rfl, rfl, rfl, rfl, rfl, rfl, rfl, rfl, rfl, rfl, rfl, rfl, rfl, rfl, rfl, rfl, rfl, rfl, rfl, rfl, rfl, rfl, rfl, rfl, rfl, rfl, rfl, rfl, rfl, rfl, rfl, rfl, rfl, rfl, rfl, rfl, trivial⟩⟩
   clear hf
   have hf := hf'
   clear hf'
   refine s_pass hf rfl rfl ?_; clear hf a; intro a hf
   refine s_pass hf rfl rfl ?_; clear hf a; intro a hf
   refine s_do hf (wanted_of hf rfl rfl rfl) (.value (x_pick_f (hf.eval rfl) (hf.eval rfl) _) ?_); clear hf a; intro a hf
   refine s_v hf (x_pick_f (hf.eval rfl) (hf.eval rfl)) ?_; clear hf a; intro a hf
   refine s_nil ?_
   refine then_n ?_
   replace hs := hs.take (A := slB 5 (.slice ga (aplR c size ws).length gc) (aplR c size ws)) (by first | exact .k0 | exact .k1 | exact .k2 | exact .k3 | exact .k4 | exact .k5 | exact .k6 | exact .k7 | exact .k8 | exact .k9 | exact .k10 | exact .k11 | exact .k12 | exact .k13)
   replace hs := hs.take (A := diskA 85 127 5 3 p2 (newS im s.room)) (by first | exact .k0 | exact .k1 | exact .k2 | exact .k3 | exact .k4 | exact .k5 | exact .k6 | exact .k7 | exact .k8 | exact .k9 | exact .k10 | exact .k11 | exact .k12 | exact .k13)
   replace hs := hs.take (A := slB 5 (.slice gx x.length cx9) x) (by first | exact .k0 | exact .k1 | exact .k2 | exact .k3 | exact .k4 | exact .k5 | exact .k6 | exact .k7 | exact .k8 | exact .k9 | exact .k10 | exact .k11 | exact .k12 | exact .k13)
   replace hs := St.keep [_, _, _] _ hs
   replace hf := hf.now (k := 169) (v' := .bool false) rfl (by first | rfl | (rw [decide_eq_true hxt]; rfl))
   exact ⟨_, ⟨rfl, hs⟩, hf.sub ⟨rfl, rfl, rfl, rfl, rfl, rfl, rfl, rfl, rfl, rfl, rfl, rfl, rfl, rfl, rfl, rfl, rfl, rfl, rfl, rfl, rfl, rfl, rfl, rfl, rfl, rfl, rfl, rfl, rfl, rfl, rfl, rfl, rfl, rfl, rfl, rfl, rfl, trivial⟩⟩
  clear hf hs a
  rintro M a w ⟨rfl, hs⟩ hf
  refine c_cond_f hf rfl rfl ?_
  refine wp_skip ?_
  refine then_n ?_
  refine c_join (N := 223) (L0 := [(0, _), (4, _), (12, _), (15, _), (22, _), (23, _), (24, _), (25, _), (26, _), (27, _), (122, _), (123, _), (124, _), (125, _), (128, _), (129, _), (130, _), (131, _), (132, _), (133, _), (134, _), (135, _), (136, _), (138, _), (139, _), (140, _), (141, _), (142, _), (143, _), (144, _), (145, _), (146, _), (147, _), (148, _), (149, _), (169, _)]) (fun M w => M = [(21, .bool (decide (x = c) && !decide (x = (aplR c size ws))))] ∧ St ⟨w0, None_⟩ w [slB 5 (.slice gx x.length cx9) x, diskA 85 127 5 3 p2 (newS im s.room), slB 5 (.slice ga (aplR c size ws).length gc) (aplR c size ws)]) (hf.sub ⟨rfl, rfl, rfl, rfl, rfl, rfl, rfl, rfl, rfl, rfl, rfl, rfl, rfl, rfl, rfl, rfl, rfl, rfl, rfl, rfl, rfl, rfl, rfl, rfl, rfl, rfl, rfl, rfl, rfl, rfl, rfl, rfl, rfl, rfl, rfl, rfl, trivial⟩) ?_ ?_
  ·refine wp_region_lit ?_
   refine s_m hf rfl ?_; clear hf a; intro a hf
   refine s_m hf rfl ?_; clear hf a; intro a hf
   refine s_bool hf (k := 171) rfl (fun hg28_1 hf' => ?_) (fun hg28_1 hf' => ?_)
   ·clear hf
    have hf := hf'
    clear hf'
    simp only [Bool.not_eq_true', Bool.not_eq_false', decide_eq_true_eq, decide_eq_false_iff_not] at hg28_1
    refine s_do hf (wanted_of hf rfl rfl rfl) (.value (x_move (hf.eval rfl) _) ?_); clear hf a; intro a hf
    refine s_do hf (wanted_of hf rfl rfl rfl) (.value (x_not (hf.eval rfl) _) ?_); clear hf a; intro a hf
    refine s_v hf (x_pick_t (hf.eval rfl) (hf.eval rfl)) ?_; clear hf a; intro a hf
    refine s_a hf rfl ?_; clear hf a; intro a hf
    refine s_nil ?_
    refine then_n ?_
    replace hf := hf.now (k := 21) (v' := .bool (decide (x = c) && !decide (x = (aplR c size ws)))) rfl (by first | (rw [decide_eq_true hg28_1]; rfl) | (rw [decide_eq_false hg28_1]; rfl))
    exact ⟨_, ⟨rfl, hs⟩, hf.sub ⟨rfl, rfl, rfl, rfl, rfl, rfl, rfl, rfl, rfl, rfl, rfl, rfl, rfl, rfl, rfl, rfl, rfl, rfl, rfl, rfl, rfl, rfl, rfl, rfl, rfl, rfl, rfl, rfl, rfl, rfl, rfl, rfl, rfl, rfl, rfl, rfl, rfl, trivial⟩⟩
   clear hf
   have hf := hf'
   clear hf'
   simp only [Bool.not_eq_true', Bool.not_eq_false', decide_eq_true_eq, decide_eq_false_iff_not] at hg28_1
   refine s_pass hf rfl rfl ?_; clear hf a; intro a hf
   refine s_pass hf rfl rfl ?_; clear hf a; intro a hf
   refine s_v hf (x_pick_f (hf.eval rfl) (hf.eval rfl)) ?_; clear hf a; intro a hf
   refine s_a hf rfl ?_; clear hf a; intro a hf
   refine s_nil ?_
   refine then_n ?_
   replace hf := hf.now (k := 21) (v' := .bool (decide (x = c) && !decide (x = (aplR c size ws)))) rfl (by first | (rw [decide_eq_true hg28_1]; rfl) | (rw [decide_eq_false hg28_1]; rfl))
   exact ⟨_, ⟨rfl, hs⟩, hf.sub ⟨rfl, rfl, rfl, rfl, rfl, rfl, rfl, rfl, rfl, rfl, rfl, rfl, rfl, rfl, rfl, rfl, rfl, rfl, rfl, rfl, rfl, rfl, rfl, rfl, rfl, rfl, rfl, rfl, rfl, rfl, rfl, rfl, rfl, rfl, rfl, rfl, rfl, trivial⟩⟩
  clear hf hs a
  rintro M a w ⟨rfl, hs⟩ hf
  refine c_join (N := 223) (L0 := [(0, _), (4, _), (12, _), (15, _), (21, _), (23, _), (24, _), (25, _), (26, _), (27, _), (122, _), (123, _), (124, _), (125, _), (128, _), (129, _), (130, _), (131, _), (132, _), (133, _), (134, _), (135, _), (136, _), (138, _), (139, _), (140, _), (141, _), (142, _), (143, _), (144, _), (145, _), (146, _), (147, _), (148, _), (149, _), (169, _)]) (fun M w => M = [(22, .bool (decide (x = (aplR c size ws)) && !decide (x = c)))] ∧ St ⟨w0, None_⟩ w [slB 5 (.slice gx x.length cx9) x, diskA 85 127 5 3 p2 (newS im s.room), slB 5 (.slice ga (aplR c size ws).length gc) (aplR c size ws)]) (hf.sub ⟨rfl, rfl, rfl, rfl, rfl, rfl, rfl, rfl, rfl, rfl, rfl, rfl, rfl, rfl, rfl, rfl, rfl, rfl, rfl, rfl, rfl, rfl, rfl, rfl, rfl, rfl, rfl, rfl, rfl, rfl, rfl, rfl, rfl, rfl, rfl, rfl, trivial⟩) ?_ ?_
  ·refine wp_region_lit ?_
   refine s_m hf rfl ?_; clear hf a; intro a hf
   refine s_m hf rfl ?_; clear hf a; intro a hf
   refine s_bool hf (k := 176) rfl (fun hg29_1 hf' => ?_) (fun hg29_1 hf' => ?_)
   ·clear hf
    have hf := hf'
    clear hf'
    simp only [Bool.not_eq_true', Bool.not_eq_false', decide_eq_true_eq, decide_eq_false_iff_not] at hg29_1
    refine s_do hf (wanted_of hf rfl rfl rfl) (.value (x_move (hf.eval rfl) _) ?_); clear hf a; intro a hf
    refine s_do hf (wanted_of hf rfl rfl rfl) (.value (x_not (hf.eval rfl) _) ?_); clear hf a; intro a hf
    refine s_v hf (x_pick_t (hf.eval rfl) (hf.eval rfl)) ?_; clear hf a; intro a hf
    refine s_a hf rfl ?_; clear hf a; intro a hf
    refine s_nil ?_
    refine then_n ?_
    replace hf := hf.now (k := 22) (v' := .bool (decide (x = (aplR c size ws)) && !decide (x = c))) rfl (by first | (rw [decide_eq_true hg29_1]; rfl) | (rw [decide_eq_false hg29_1]; rfl))
    exact ⟨_, ⟨rfl, hs⟩, hf.sub ⟨rfl, rfl, rfl, rfl, rfl, rfl, rfl, rfl, rfl, rfl, rfl, rfl, rfl, rfl, rfl, rfl, rfl, rfl, rfl, rfl, rfl, rfl, rfl, rfl, rfl, rfl, rfl, rfl, rfl, rfl, rfl, rfl, rfl, rfl, rfl, rfl, rfl, trivial⟩⟩
   clear hf
   have hf := hf'
   clear hf'
   simp only [Bool.not_eq_true', Bool.not_eq_false', decide_eq_true_eq, decide_eq_false_iff_not] at hg29_1
   refine s_pass hf rfl rfl ?_; clear hf a; intro a hf
   refine s_pass hf rfl rfl ?_; clear hf a; intro a hf
   refine s_v hf (x_pick_f (hf.eval rfl) (hf.eval rfl)) ?_; clear hf a; intro a hf
   refine s_a hf rfl ?_; clear hf a; intro a hf
   refine s_nil ?_
   refine then_n ?_
   replace hf := hf.now (k := 22) (v' := .bool (decide (x = (aplR c size ws)) && !decide (x = c))) rfl (by first | (rw [decide_eq_true hg29_1]; rfl) | (rw [decide_eq_false hg29_1]; rfl))
   exact ⟨_, ⟨rfl, hs⟩, hf.sub ⟨rfl, rfl, rfl, rfl, rfl, rfl, rfl, rfl, rfl, rfl, rfl, rfl, rfl, rfl, rfl, rfl, rfl, rfl, rfl, rfl, rfl, rfl, rfl, rfl, rfl, rfl, rfl, rfl, rfl, rfl, rfl, rfl, rfl, rfl, rfl, rfl, rfl, trivial⟩⟩
  clear hf hs a
  rintro M a w ⟨rfl, hs⟩ hf
  refine wp_seq ?_
  refine wp_region_lit ?_
  refine s_a hf rfl ?_; clear hf a; intro a hf
  refine s_nil ?_
  refine then_n ?_
  refine c_join (N := 223) (L0 := [(0, _), (4, _), (12, _), (15, _), (21, _), (22, _), (23, _), (24, _), (25, _), (26, _), (27, _), (122, _), (123, _), (124, _), (125, _), (128, _), (129, _), (130, _), (131, _), (132, _), (133, _), (134, _), (135, _), (136, _), (138, _), (139, _), (140, _), (141, _), (142, _), (143, _), (144, _), (145, _), (146, _), (147, _), (148, _), (149, _), (169, _)]) (fun M w => ∃ f2 : Int, M = [(17, .int .i64 f2)] ∧ f2 ≤ 9223372036854775807 ∧ St ⟨w0, None_⟩ w [slB 5 (.slice gx x.length cx9) x, diskA 85 127 5 3 p2 (newS im s.room), slB 5 (.slice ga (aplR c size ws).length gc) (aplR c size ws)]) (hf.sub ⟨rfl, rfl, rfl, rfl, rfl, rfl, rfl, rfl, rfl, rfl, rfl, rfl, rfl, rfl, rfl, rfl, rfl, rfl, rfl, rfl, rfl, rfl, rfl, rfl, rfl, rfl, rfl, rfl, rfl, rfl, rfl, rfl, rfl, rfl, rfl, rfl, rfl, trivial⟩) ?_ ?_
  ·refine wp_seq ?_
   refine wp_region_lit ?_
   refine s_m hf rfl ?_; clear hf a; intro a hf
   refine s_v hf (x_bin (hf.eval rfl) (hf.eval rfl) (r_addi _ (by omega) (by omega))) ?_; clear hf a; intro a hf
   refine s_m hf rfl ?_; clear hf a; intro a hf
   refine s_v hf (x_len Tryz.underlying57 (hf.eval rfl)) ?_; clear hf a; intro a hf
   refine s_v hf (x_bin (hf.eval rfl) (hf.eval rfl) (r_lt _ _ _ _)) ?_; clear hf a; intro a hf
   refine s_nil ?_
   refine then_n ?_
   refine c_cond hf rfl (fun hi6 => ?_) (fun hi6 => ?_)
   ·first | simp only [zd1, zd2, zd3, zd4, ne_eq, Classical.not_not] at hi6 | skip
    have hlt2 : i + 1 < cuts.length := by omega
    have hg0 := (hgx _ (List.getElem_mem hlt2)).2
    refine wp_region_lit ?_
    refine s_m hf rfl ?_; clear hf a; intro a hf
    refine s_m hf rfl ?_; clear hf a; intro a hf
    refine s_v hf (x_bin (hf.eval rfl) (hf.eval rfl) (r_addi _ (by omega) (by omega))) ?_; clear hf a; intro a hf
    refine s_v hf (x_indexAddr sl57 (hf.eval rfl) (hf.eval rfl) (by omega) (by omega)) ?_; clear hf a; intro a hf
    refine s_v hf (x_fieldAddrG fo66_0 (hf.eval rfl)) ?_; clear hf a; intro a hf
    refine s_r hf (x_loadF (k := 0) (i := (i : Int) + 1) (f := cuF) (l := cuts) (u := .int .i64 cuts[i + 1].1) sc3 (by intro _; rfl) (hs.old hrx) (hf.eval rfl) (by omega) (by rfl)) ?_; clear hf a; intro a hf
    refine s_a hf rfl ?_; clear hf a; intro a hf
    refine s_nil ?_
    refine then_n ?_
    exact ⟨_, ⟨_, rfl, by first | exact hg0 | omega, hs⟩, hf.sub ⟨rfl, rfl, rfl, rfl, rfl, rfl, rfl, rfl, rfl, rfl, rfl, rfl, rfl, rfl, rfl, rfl, rfl, rfl, rfl, rfl, rfl, rfl, rfl, rfl, rfl, rfl, rfl, rfl, rfl, rfl, rfl, rfl, rfl, rfl, rfl, rfl, rfl, rfl, trivial⟩⟩
   first | simp only [zd1, zd2, zd3, zd4, ne_eq, Classical.not_not] at hi6 | skip
   refine wp_skip ?_
   refine then_n ?_
   exact ⟨_, ⟨_, rfl, by first | exact hg0 | omega, hs⟩, hf.sub ⟨rfl, rfl, rfl, rfl, rfl, rfl, rfl, rfl, rfl, rfl, rfl, rfl, rfl, rfl, rfl, rfl, rfl, rfl, rfl, rfl, rfl, rfl, rfl, rfl, rfl, rfl, rfl, rfl, rfl, rfl, rfl, rfl, rfl, rfl, rfl, rfl, rfl, rfl, trivial⟩⟩
  clear hf hs a
  rintro M a w ⟨f2, rfl, hfu2, hs⟩ hf
  have hR := rec_good (f := f2) hil hxx hq9
  have ho2 := fuS_ok (newS_ok (image := im) (room := s.room) hso.room0 hso.room1 hil) hfu2
  have hb2 := fuS_b (newS_b im s.room 0) f2
  have hrk := rec_keeps ho2 hb2
  refine wp_seq ?_
  refine wp_region_lit ?_
  refine s_m hf rfl ?_; clear hf a; intro a hf
  refine s_m hf rfl ?_; clear hf a; intro a hf
  replace hs := hs.take (A := diskA 85 127 5 3 p2 (newS im s.room)) (by first | exact .k0 | exact .k1 | exact .k2 | exact .k3 | exact .k4 | exact .k5 | exact .k6 | exact .k7 | exact .k8 | exact .k9 | exact .k10 | exact .k11 | exact .k12 | exact .k13)
  refine s_do hf rfl (y_call (hf.eval rfl) (hf.evals rfl) Tryz.call9 ((dFuse_spec _ _ _ p2 _ hs f2).mono ?_))
  rintro e w1 ⟨rfl, hs⟩
  refine ⟨_, rfl, ?_⟩; clear hf a; intro a hf
  refine s_nil ?_
  refine then_n ?_
  refine wp_seq ?_
  refine wp_region_lit ?_
  refine s_m hf rfl ?_; clear hf a; intro a hf
  refine s_do hf rfl (y_call (hf.eval rfl) (hf.evals rfl) Tryz.call15 ((recover_spec w0 _ _ p2 (fuS (newS im s.room) f2) hT hs ho2 0 hb2 (by omega)).mono ?_))
  rintro e w1 ⟨rfl, hs⟩
  obtain ⟨E2, hE2⟩ : ∃ E2, E2 = (recV (fuS (newS im s.room) f2)).2 := ⟨_, rfl⟩
  rw [← hE2] at hR ⊢
  refine ⟨_, rfl, ?_⟩; clear hf a; intro a hf
  refine s_m hf rfl ?_; clear hf a; intro a hf
  refine s_v hf (x_extract (hf.eval rfl) rfl) ?_; clear hf a; intro a hf
  refine s_v hf (x_extract (hf.eval rfl) rfl) ?_; clear hf a; intro a hf
  refine s_a hf rfl ?_; clear hf a; intro a hf
  refine s_nil ?_
  refine then_n ?_
  refine c_join (N := 223) (L0 := [(0, _), (4, _), (12, _), (15, _), (17, _), (18, _), (21, _), (22, _), (23, _), (24, _), (25, _), (26, _), (27, _), (122, _), (123, _), (124, _), (125, _), (128, _), (129, _), (130, _), (131, _), (132, _), (133, _), (134, _), (135, _), (136, _), (138, _), (139, _), (140, _), (141, _), (142, _), (143, _), (144, _), (145, _), (146, _), (147, _), (148, _), (149, _), (169, _), (191, _), (192, _), (194, _), (195, _), (196, _), (198, _)]) (fun M w => M = [(222, .bool false)] ∧ St ⟨w0, None_⟩ w [diskA 85 127 5 3 p2 (recS (fuS (newS im s.room) f2)), slB 5 (.slice ga (aplR c size ws).length gc) (aplR c size ws)]) (hf.sub ⟨rfl, rfl, rfl, rfl, rfl, rfl, rfl, rfl, rfl, rfl, rfl, rfl, rfl, rfl, rfl, rfl, rfl, rfl, rfl, rfl, rfl, rfl, rfl, rfl, rfl, rfl, rfl, rfl, rfl, rfl, rfl, rfl, rfl, rfl, rfl, rfl, rfl, rfl, rfl, rfl, rfl, rfl, rfl, rfl, rfl, trivial⟩) ?_ ?_
  ·refine wp_region_lit ?_
   refine s_m hf rfl ?_; clear hf a; intro a hf
   refine s_do hf rfl (y_call (hf.eval rfl) (hf.evals rfl) Tryz.call17 ((num_spec _ _).mono ?_))
   rintro e w1 ⟨rfl, hw9⟩
   rw [hw9]
   clear hw9 w1
   refine ⟨_, rfl, ?_⟩; clear hf a; intro a hf
   refine s_v hf (x_bin (hf.eval rfl) (hf.eval rfl) (r_ne _ _ _ _)) ?_; clear hf a; intro a hf
   refine s_m hf rfl ?_; clear hf a; intro a hf
   refine s_bool hf (k := 202) rfl (fun hg35_3 hf' => ?_) (fun hg35_3 hf' => ?_)
   ·clear hf
    have hf := hf'
    clear hf'
    first | simp only [zd1, zd2, zd3, zd4, ne_eq, Classical.not_not] at hg35_3 | skip
    obtain ⟨r1, r2⟩ : E2 = 12 ∧ 0 ≤ f2 := hR.1.resolve_left (fun h => hg35_3 h.1)
    refine s_do hf (wanted_of hf rfl rfl rfl) (.value (x_move (hf.eval rfl) _) ?_); clear hf a; intro a hf
    refine s_do hf (wanted_of hf rfl rfl rfl) (.value (x_bin (hf.eval rfl) (hf.eval rfl) (r_lt _ _ _ _) _) ?_); clear hf a; intro a hf
    refine s_do hf (wanted_of hf rfl rfl rfl) (.value (x_move (hf.eval rfl) _) ?_); clear hf a; intro a hf
    replace hf := hf.now (k := 205) (v' := .bool false) rfl (congrArg Value.bool (by simp; omega))
    refine s_do hf (wanted_of hf rfl rfl rfl) (.value (x_move (hf.eval rfl) _) ?_); clear hf a; intro a hf
    refine s_do hf (wanted_of hf rfl rfl rfl) (y_call (hf.eval rfl) (hf.evals rfl) Tryz.call17 ((num_spec _ _).mono ?_))
    rintro e w1 ⟨rfl, hw9⟩
    rw [hw9]
    clear hw9 w1
    refine ⟨_, rfl, ?_⟩; clear hf a; intro a hf
    refine s_do hf (wanted_of hf rfl rfl rfl) (.value (x_bin (hf.eval rfl) (hf.eval rfl) (r_ne _ _ _ _) _) ?_); clear hf a; intro a hf
    refine s_do hf (wanted_of hf rfl rfl rfl) (.value (x_pick_f (hf.eval rfl) (hf.eval rfl) _) ?_); clear hf a; intro a hf
    refine s_v hf (x_pick_t (hf.eval rfl) (hf.eval rfl)) ?_; clear hf a; intro a hf
    refine s_m hf rfl ?_; clear hf a; intro a hf
    replace hf := hf.now (k := 211) (v' := .bool false) rfl (congrArg Value.bool (by rw [r1]; rfl))
    refine s_do hf (wanted_of hf rfl rfl rfl) (.value (x_move (hf.eval rfl) _) ?_); clear hf a; intro a hf
    refine s_do hf (wanted_of hf rfl rfl rfl) (y_call (hf.eval rfl) (hf.evals rfl) Tryz.call17 ((num_spec _ _).mono ?_))
    rintro e w1 ⟨rfl, hw9⟩
    rw [hw9]
    clear hw9 w1
    refine ⟨_, rfl, ?_⟩; clear hf a; intro a hf
    refine s_do hf (wanted_of hf rfl rfl rfl) (.value (x_bin (hf.eval rfl) (hf.eval rfl) (r_eq _ _ _ _) _) ?_); clear hf a; intro a hf
    refine s_do hf (wanted_of hf rfl rfl rfl) (.value (x_move (hf.eval rfl) _) ?_); clear hf a; intro a hf
    replace hf := hf.now (k := 215) (v' := .bool false) rfl (congrArg Value.bool (by rw [r1]; rfl))
    refine s_pass hf rfl rfl ?_; clear hf a; intro a hf
    refine s_pass hf rfl rfl ?_; clear hf a; intro a hf
    refine s_pass hf rfl rfl ?_; clear hf a; intro a hf
    refine s_pass hf rfl rfl ?_; clear hf a; intro a hf
    refine s_pass hf rfl rfl ?_; clear hf a; intro a hf
    refine s_do hf (wanted_of hf rfl rfl rfl) (.value (x_pick_f (hf.eval rfl) (hf.eval rfl) _) ?_); clear hf a; intro a hf
    refine s_v hf (x_pick_f (hf.eval rfl) (hf.eval rfl)) ?_; clear hf a; intro a hf
    refine s_nil ?_
    refine then_n ?_
    replace hs := hs.take (A := slB 5 (.slice ga (aplR c size ws).length gc) (aplR c size ws)) (by first | exact .k0 | exact .k1 | exact .k2 | exact .k3 | exact .k4 | exact .k5 | exact .k6 | exact .k7 | exact .k8 | exact .k9 | exact .k10 | exact .k11 | exact .k12 | exact .k13)
    replace hs := hs.take (A := diskA 85 127 5 3 p2 (recS (fuS (newS im s.room) f2))) (by first | exact .k0 | exact .k1 | exact .k2 | exact .k3 | exact .k4 | exact .k5 | exact .k6 | exact .k7 | exact .k8 | exact .k9 | exact .k10 | exact .k11 | exact .k12 | exact .k13)
    replace hs := St.keep [_, _] _ hs
    replace hf := hf.now (k := 222) (v' := .bool false) rfl (by first | rfl | (simp; done) | (congr 1; simp))
    exact ⟨_, ⟨rfl, hs⟩, hf.sub ⟨rfl, rfl, rfl, rfl, rfl, rfl, rfl, rfl, rfl, rfl, rfl, rfl, rfl, rfl, rfl, rfl, rfl, rfl, rfl, rfl, rfl, rfl, rfl, rfl, rfl, rfl, rfl, rfl, rfl, rfl, rfl, rfl, rfl, rfl, rfl, rfl, rfl, rfl, rfl, rfl, rfl, rfl, rfl, rfl, rfl, rfl, trivial⟩⟩
   clear hf
   have hf := hf'
   clear hf'
   first | simp only [zd1, zd2, zd3, zd4, ne_eq, Classical.not_not] at hg35_3 | skip
   obtain ⟨r1, r2⟩ : E2 = 0 ∧ (recS (fuS (newS im s.room) f2)).now = x := hR.1.resolve_right (fun h => by omega)
   refine s_pass hf rfl rfl ?_; clear hf a; intro a hf
   refine s_pass hf rfl rfl ?_; clear hf a; intro a hf
   refine s_pass hf rfl rfl ?_; clear hf a; intro a hf
   refine s_passU hf rfl rfl ?_; clear hf a; intro a hf
   refine s_passU hf rfl rfl ?_; clear hf a; intro a hf
   refine s_passU hf rfl rfl ?_; clear hf a; intro a hf
   refine s_pass hf rfl rfl ?_; clear hf a; intro a hf
   refine s_v hf (x_pick_f (hf.eval rfl) (hf.eval rfl)) ?_; clear hf a; intro a hf
   refine s_m hf rfl ?_; clear hf a; intro a hf
   refine s_do hf (wanted_of hf rfl rfl rfl) (.value (x_move (hf.eval rfl) _) ?_); clear hf a; intro a hf
   refine s_do hf (wanted_of hf rfl rfl rfl) (y_call (hf.eval rfl) (hf.evals rfl) Tryz.call17 ((num_spec _ _).mono ?_))
   rintro e w1 ⟨rfl, hw9⟩
   rw [hw9]
   clear hw9 w1
   refine ⟨_, rfl, ?_⟩; clear hf a; intro a hf
   refine s_do hf (wanted_of hf rfl rfl rfl) (.value (x_bin (hf.eval rfl) (hf.eval rfl) (r_eq _ _ _ _) _) ?_); clear hf a; intro a hf
   refine s_do hf (wanted_of hf rfl rfl rfl) (.value (x_move (hf.eval rfl) _) ?_); clear hf a; intro a hf
   replace hf := hf.now (k := 215) (v' := .bool true) rfl (congrArg Value.bool (by rw [r1]; rfl))
   refine s_do hf (wanted_of hf rfl rfl rfl) (.value (x_move (hf.eval rfl) _) ?_); clear hf a; intro a hf
   replace hs := hs.take (A := diskA 85 127 5 3 p2 (recS (fuS (newS im s.room) f2))) (by first | exact .k0 | exact .k1 | exact .k2 | exact .k3 | exact .k4 | exact .k5 | exact .k6 | exact .k7 | exact .k8 | exact .k9 | exact .k10 | exact .k11 | exact .k12 | exact .k13)
   refine s_do hf (wanted_of hf rfl rfl rfl) (y_call (hf.eval rfl) (hf.evals rfl) Tryz.call21 ((dImage_spec _ _ _ p2 _ hs (by rw [r2]; omega)).mono ?_))
   rintro e w1 ⟨e4, f4, rfl, hs⟩
   rw [r2] at hs ⊢
   refine ⟨_, rfl, ?_⟩; clear hf a; intro a hf
   refine s_do hf (wanted_of hf rfl rfl rfl) (.value (x_move (hf.eval rfl) _) ?_); clear hf a; intro a hf
   refine s_do hf (wanted_of hf rfl rfl rfl) (y_call (hf.eval rfl) (hf.evals rfl) Tryz.call20 ((same_spec _ _ _ x (hs.rdB .k0 fun h => slB_rd) _ _ x (hs.rdB (A := slB 5 (.slice gx x.length cx9) x) (by first | exact .k0 | exact .k1 | exact .k2 | exact .k3 | exact .k4 | exact .k5 | exact .k6 | exact .k7 | exact .k8 | exact .k9 | exact .k10 | exact .k11 | exact .k12 | exact .k13) fun h => slB_rd) (by omega)).mono ?_))
   rintro e w1 ⟨rfl, hk⟩
   replace hs := hs.ext hk
   refine ⟨_, rfl, ?_⟩; clear hf a; intro a hf
   refine s_do hf (wanted_of hf rfl rfl rfl) (.value (x_not (hf.eval rfl) _) ?_); clear hf a; intro a hf
   refine s_do hf (wanted_of hf rfl rfl rfl) (.value (x_pick_t (hf.eval rfl) (hf.eval rfl) _) ?_); clear hf a; intro a hf
   refine s_v hf (x_pick_f (hf.eval rfl) (hf.eval rfl)) ?_; clear hf a; intro a hf
   refine s_nil ?_
   refine then_n ?_
   replace hs := hs.take (A := slB 5 (.slice ga (aplR c size ws).length gc) (aplR c size ws)) (by first | exact .k0 | exact .k1 | exact .k2 | exact .k3 | exact .k4 | exact .k5 | exact .k6 | exact .k7 | exact .k8 | exact .k9 | exact .k10 | exact .k11 | exact .k12 | exact .k13)
   replace hs := hs.take (A := diskA 85 127 5 3 p2 (recS (fuS (newS im s.room) f2))) (by first | exact .k0 | exact .k1 | exact .k2 | exact .k3 | exact .k4 | exact .k5 | exact .k6 | exact .k7 | exact .k8 | exact .k9 | exact .k10 | exact .k11 | exact .k12 | exact .k13)
   replace hs := St.keep [_, _] _ hs
   replace hf := hf.now (k := 222) (v' := .bool false) rfl (by first | rfl | (simp; done) | (congr 1; simp))
   exact ⟨_, ⟨rfl, hs⟩, hf.sub ⟨rfl, rfl, rfl, rfl, rfl, rfl, rfl, rfl, rfl, rfl, rfl, rfl, rfl, rfl, rfl, rfl, rfl, rfl, rfl, rfl, rfl, rfl, rfl, rfl, rfl, rfl, rfl, rfl, rfl, rfl, rfl, rfl, rfl, rfl, rfl, rfl, rfl, rfl, rfl, rfl, rfl, rfl, rfl, rfl, rfl, rfl, trivial⟩⟩
  clear hf hs a
  rintro M a w ⟨rfl, hs⟩ hf
  refine c_cond_f hf rfl rfl ?_
  refine wp_skip ?_
  refine blk_n ?_
  refine then_n ?_
  refine wp_region_lit ?_
  refine s_m hf rfl ?_; clear hf a; intro a hf
  refine s_v hf (x_bin (hf.eval rfl) (hf.eval rfl) (r_addi _ (by omega) (by omega))) ?_; clear hf a; intro a hf
  refine s_a hf rfl ?_; clear hf a; intro a hf
  refine s_nil ?_
  exact ⟨_, _, ⟨i + 1, p2, recS (fuS (newS im s.room) f2), _, _, rfl, rfl, by omega, hrk.1, hrk.2.2.up (by omega), good_next hR.2 hxx hx1, hs⟩, by omega, hf.sub ⟨rfl, rfl, rfl, rfl, rfl, rfl, rfl, trivial⟩⟩
 first | simp only [zd1, zd2, zd3, zd4, ne_eq, Classical.not_not] at hi4 | skip
 refine wp_exit ?_
 refine then_x ?_
 refine then_x ?_
 refine blk_x ?_
 refine then_n ?_
 refine wp_seq ?_
 refine wp_region_lit ?_
 refine s_a hf rfl ?_; clear hf a; intro a hf
 refine s_nil ?_
 refine then_n ?_
 refine wp_ret ?_
 refine r_1 hf Tryz.results5 rfl ?_
 exact ⟨rfl, hs.kept⟩
end Go.Proofs.YtehakfbfjpolfaaGreatDoor
