/- Texts 13 of 17 that the law rests on: the small library, contracts of functions, printed by a program. -/
import Derived.Test.YtehakfbfjpolfaaGreatDoorProg
import Derived.Test.YtehakfbfjpolfaaGreatDoorUp1
import Derived.Test.YtehakfbfjpolfaaGreatDoorUp2
import Derived.Test.YtehakfbfjpolfaaGreatDoorUp3
import Derived.Test.YtehakfbfjpolfaaGreatDoorUp4
import Derived.Test.YtehakfbfjpolfaaGreatDoorUp5
import Derived.Test.YtehakfbfjpolfaaGreatDoorUp6
import Derived.Test.YtehakfbfjpolfaaGreatDoorUp7
import Derived.Test.YtehakfbfjpolfaaGreatDoorUp8
import Derived.Test.YtehakfbfjpolfaaGreatDoorUp9
import Derived.Test.YtehakfbfjpolfaaGreatDoorUp10
import Derived.Test.YtehakfbfjpolfaaGreatDoorUp11
import Derived.Test.YtehakfbfjpolfaaGreatDoorUp12
set_option maxRecDepth 100000
set_option linter.all false
namespace Go.Proofs.YtehakfbfjpolfaaGreatDoor
open Go Vw
theorem all_spec (w0 : World) (pv : Value) (fs : List Nat) (a1 : Option Addr) (c1 : Nat) (J : Nat → World → Prop) (E : Int → World → Prop) (hfs : fs.length ≤ 1000) (hrd : ∀ i w, i < fs.length → J i w → RdC (hp w) (.slice a1 fs.length c1) 1 fs.length (fs.map (fnV pv))) (hcall : ∀ f ∈ fs, ∀ vs w, (callFunc f vs).run Tryz.prog w = .ok (.enter f vs) w) (hstep : ∀ i (hi : i < fs.length) w, J i w → Calls Tryz.prog fs[i] #[pv] w fun e w' => ∃ r : Int, e = .returned (.int .i64 r) ∧ (r = 0 → J (i + 1) w') ∧ (r ≠ 0 → E r w')) (h0 : J 0 w0) : Calls Tryz.prog 42 #[.slice a1 fs.length c1] w0 fun e w' => ∃ r : Int, e = .returned (.int .i64 r) ∧ (r = 0 → J fs.length w') ∧ (r ≠ 0 → E r w') := by
 refine c_enter (N := 18) Tryz.func42 rfl Tryz.ntmps42 (by simp) ?_
 intro a hf
 refine wp_seq (wp_region_lit ?_)
 refine s_a hf rfl ?_; clear hf a; intro a hf
 refine s_nil (then_n (wp_seq (wp_seq (wp_region_lit ?_))))
 refine s_m hf rfl ?_; clear hf a; intro a hf
 refine s_v hf (x_len Tryz.underlying93 (hf.eval rfl)) ?_; clear hf a; intro a hf
 refine s_m hf rfl ?_; clear hf a; intro a hf
 refine s_nil (then_n (wp_block ?_))
 refine c_loop (L0 := [(6, _), (7, _)]) (fun M w m => ∃ i : Nat, M = [(8, .int .i64 (i : Int))] ∧ fs.length - i = m ∧ i ≤ fs.length ∧ J i w) (M0 := [(8, .int .i64 0)]) (⟨0, rfl, rfl, Nat.zero_le _, h0⟩) (hf.sub ⟨rfl, rfl, rfl, trivial⟩) ?_
 clear hf a
 rintro M m a w ⟨i, rfl, rfl, hi, hJ⟩ hf
 refine wp_seq (wp_region_lit ?_)
 refine s_v hf (x_bin (hf.eval rfl) (hf.eval rfl) (r_lt _ _ _ _)) ?_; clear hf a; intro a hf
 refine s_nil (then_n (wp_seq ?_))
 refine c_cond hf rfl (fun hi0 => ?_) (fun hi0 => ?_)
 ·simp only [zd1, zd2, zd3, zd4, zd5, zd6, zd7] at hi0
  have hlt : i < fs.length := by omega
  have hr := hrd i w hlt hJ
  obtain ⟨a1, rfl⟩ := hr.some (by omega)
  refine wp_skip (then_n (wp_seq (wp_block (wp_seq (wp_region_lit ?_)))))
  refine s_v hf (x_indexAddr sl93 (hf.eval rfl) (hf.eval rfl) (by omega) (by omega)) ?_; clear hf a; intro a hf
  refine s_r hf (x_load sc32 (hf.eval rfl) (by rw [cell_hp, Int.toNat_natCast, Nat.mul_one]; exact hr.get (u := fnV pv fs[i]) (by simp [hlt]))) ?_; clear hf a; intro a hf
  refine s_a hf rfl ?_; clear hf a; intro a hf
  refine s_nil (then_n (wp_seq (wp_region_lit ?_)))
  refine s_m hf rfl ?_; clear hf a; intro a hf
  refine s_do hf rfl (y_callF (hf.eval rfl) (hcall _ (List.getElem_mem hlt)) ((hstep i hlt _ hJ).mono ?_))
  rintro e w ⟨r, rfl, h9, h8⟩
  refine ⟨_, rfl, ?_⟩; clear hf a; intro a hf
  refine s_a hf rfl ?_; clear hf a; intro a hf
  refine s_nil (then_n (wp_seq (wp_region_lit ?_)))
  refine s_m hf rfl ?_; clear hf a; intro a hf
  refine s_v hf (x_bin (hf.eval rfl) (hf.eval rfl) (r_ne _ _ _ _)) ?_; clear hf a; intro a hf
  refine s_nil (then_n ?_)
  refine c_cond hf rfl (fun hi1 => ?_) (fun hi1 => ?_)
  ·simp only [zd1, zd2, zd3, zd4] at hi1
   refine wp_seq (wp_region_lit ?_)
   refine s_m hf rfl ?_; clear hf a; intro a hf
   refine s_a hf rfl ?_; clear hf a; intro a hf
   refine s_nil (then_n ?_)
   refine wp_ret ?_
   refine blk_r (then_r (then_r (blk_r (then_r ?_))))
   refine r_1 hf Tryz.results42 rfl ?_
   exact ⟨r, rfl, fun h => absurd h hi1, h8⟩
  simp only [zd1, zd2, zd3, zd4] at hi1
  refine wp_skip (blk_n (then_n (wp_region_lit ?_)))
  refine s_v hf (x_bin (hf.eval rfl) (hf.eval rfl) (r_addi _ (by omega) (by omega))) ?_; clear hf a; intro a hf
  refine s_m hf rfl ?_; clear hf a; intro a hf
  refine s_nil ?_
  exact ⟨_, _, ⟨i + 1, rfl, rfl, by omega, h9 hi1⟩, by omega, hf.sub ⟨rfl, rfl, rfl, trivial⟩⟩
 simp only [zd1, zd2, zd3, zd4, zd5, zd6, zd7] at hi0
 refine wp_exit (then_x (then_x (blk_x (then_n (wp_seq (wp_region_lit ?_))))))
 refine s_a hf rfl ?_; clear hf a; intro a hf
 refine s_nil (then_n ?_)
 refine wp_ret ?_
 refine r_1 hf Tryz.results42 rfl ?_
 obtain rfl : i = fs.length := by omega
 exact ⟨0, rfl, fun _ => hJ, fun h => absurd rfl h⟩
theorem cut_spec (w0 : World) (w : World) (R : List Asrt) (p D : Nat) (old size : Int) (wv bv : Value) (q0 : Sl) (bp se fi : Int) (s : DS) (hs : St ⟨w0, None_⟩ w (cb p 113 (runF (.pointer (some ⟨D, 0, none⟩)) old size wv q0 bv bp se fi) :: diskA 85 127 5 3 D s :: R)) (ho : DOk s) (k : Nat) (hb : DB s k) (hk : k ≤ 33000000) : Calls Tryz.prog 48 #[.pointer (some ⟨p, 0, none⟩)] w fun e w' => e = .returned (.int .i64 (runS s ([(3, size, []), syO])).1) ∧ St ⟨w0, None_⟩ w' (cb p 113 (runF (.pointer (some ⟨D, 0, none⟩)) old size wv q0 bv bp se fi) :: diskA 85 127 5 3 D (runS s ([(3, size, []), syO])).2 :: R) := by
 refine c_enter (N := 21) Tryz.func48 rfl Tryz.ntmps48 (by simp) ?_
 intro a hf
 refine wp_seq (wp_region_lit ?_)
 refine s_a hf rfl ?_; clear hf a; intro a hf
 refine s_nil (then_n (wp_seq (wp_seq ?_)))
 refine c_draw hs (fun _ => True) [.held, .held, .held, .read, .held, .held, .held, .read, .eff, .held] (by kernel_rfl) (by kernel_rfl) (fun _ _ _ => trivial) ?_
 clear hs; intro w hs hC hw
 refine m_held hf rfl (fun w' _ => x_move (hf.eval rfl) w') ?_; clear hf a; intro a hf
 refine m_held hf rfl (fun w' _ => x_nilCheck (hf.eval rfl) w') ?_; clear hf a; intro a hf
 refine m_held hf rfl (fun w' _ => x_fieldAddr fo113_0 (hf.eval rfl) w') ?_; clear hf a; intro a hf
 refine m_read hf rfl (x_load sc24 (hf.eval rfl) (by apply hs.cell <;> repeat constructor)) ?_; clear hf a; intro a hf
 refine m_held hf rfl (fun w' _ => x_move (hf.eval rfl) w') ?_; clear hf a; intro a hf
 refine m_held hf rfl (fun w' _ => x_nilCheck (hf.eval rfl) w') ?_; clear hf a; intro a hf
 refine m_held hf rfl (fun w' _ => x_fieldAddr fo113_2 (hf.eval rfl) w') ?_; clear hf a; intro a hf
 refine m_read hf rfl (x_load sc3 (hf.eval rfl) (by apply hs.cell <;> repeat constructor)) ?_; clear hf a; intro a hf
 replace hs := hs.take (A := diskA 85 127 5 3 D s) (by repeat constructor)
 refine m_eff hf rfl (y_call (hf.eval rfl) (hf.evals rfl) Tryz.call83 ((dTrunc_spec _ _ _ D s hs size ho (by have := hb.calls; omega) (by have := hb.pcs; omega) (by have := hb.sizes; omega)).mono ?_))
 rintro e w1 ⟨rfl, hs⟩
 rw [← co_tr] at hs ⊢
 obtain ⟨t, ht⟩ : ∃ t, t = (coS s (3, size, [])).2 := ⟨_, rfl⟩
 have hto := coS_ok ho (3, size, [])
 have htb := coS_b ho hb (3, size, [])
 rw [← ht] at hs hto htb
 refine ⟨_, rfl, ⟨trivial, ?_⟩⟩; clear hf a; intro a hf
 refine m_held hf rfl (fun w' _ => x_assign (hf.eval rfl) w') ?_; clear hf a; intro a hf
 refine m_nil ?_
 refine then_n (wp_seq (wp_region_lit ?_))
 refine s_m hf rfl ?_; clear hf a; intro a hf
 refine s_v hf (x_bin (hf.eval rfl) (hf.eval rfl) (r_ne _ _ _ _)) ?_; clear hf a; intro a hf
 refine s_nil (then_n ?_)
 refine c_cond hf rfl (fun hi0 => ?_) (fun hi0 => ?_)
 ·first | simp only [zd1, zd2, zd3, zd4, ne_eq, Classical.not_not] at hi0 | skip
  refine wp_seq (wp_region_lit ?_)
  refine s_m hf rfl ?_; clear hf a; intro a hf
  refine s_a hf rfl ?_; clear hf a; intro a hf
  refine s_nil (then_n ?_)
  refine wp_ret ?_
  refine then_r ?_
  refine r_1 hf Tryz.results48 rfl ?_
  rw [runS2_bad hi0, ← ht]
  exact ⟨rfl, hs.take (by repeat constructor)⟩
 first | simp only [zd1, zd2, zd3, zd4, ne_eq, Classical.not_not] at hi0 | skip
 refine wp_skip (then_n (wp_seq (wp_region_lit ?_)))
 refine s_m hf rfl ?_; clear hf a; intro a hf
 refine s_v hf (x_nilCheck (hf.eval rfl)) ?_; clear hf a; intro a hf
 refine s_v hf (x_fieldAddr fo113_0 (hf.eval rfl)) ?_; clear hf a; intro a hf
 refine s_r hf (x_load sc24 (hf.eval rfl) (by apply hs.cell <;> repeat constructor)) ?_; clear hf a; intro a hf
 replace hs := hs.take (A := diskA 85 127 5 3 D t) (by repeat constructor)
 refine s_do hf rfl (y_call (hf.eval rfl) (hf.evals rfl) Tryz.call11 ((dSync_spec _ _ _ D t hs hto (by have := htb.calls; omega) (by have := htb.pcs; omega) (by have := htb.sizes; omega)).mono ?_))
 rintro e w1 ⟨rfl, hs⟩
 rw [← co_sy] at hs ⊢
 refine ⟨_, rfl, ?_⟩; clear hf a; intro a hf
 refine s_a hf rfl ?_; clear hf a; intro a hf
 refine s_nil (then_n ?_)
 refine wp_ret ?_
 refine r_1 hf Tryz.results48 rfl ?_
 rw [runS2_ok hi0, ← ht]
 exact ⟨rfl, hs.take (by repeat constructor)⟩
theorem run_sl {dv : Value} {old size : Int} {wv bv : Value} {bp se fi : Int} (s : Sl) (j : Nat) (h : j < 7) : (slF s)[j]? = (runF dv old size wv s bv bp se fi)[4 + j]? := by
  have e : runF dv old size wv s bv bp se fi = [dv, .int .i64 old, .int .i64 size, wv] ++ (slF s ++ [bv, .int .i64 bp, .int .i64 se, .int .i64 fi]) := rfl
  rw [e, List.getElem?_append_right (by simp), List.getElem?_append_left (by simpa [slF] using h)]
  congr 1
  simp
theorem slB_cap {σ : Sig} {w : World} {R : List Asrt} {T n c : Nat} {a : Option Addr} {l : List UInt8} (hs : St σ w (slB T (.slice a n c) l :: R)) : n ≤ c := (hs.rdB .k0 fun h => slB_rd).cap
theorem seal0_spec (w0 : World) (w : World) (R : List Asrt) (p D : Nat) (old size : Int) (wv bv : Value) (q0 : Sl) (bp se fi : Int) (s : DS) (st : Int) (hT : Tab 0 (hp w0)) (hok : slOk (st, q0.2) = true) (hsu : q0.2.2.2.2.2.2 < 4294967296) (hs : St ⟨w0, None_⟩ w (cb p 113 (runF (.pointer (some ⟨D, 0, none⟩)) old size wv q0 bv bp se fi) :: diskA 85 127 5 3 D s :: R)) (ho : DOk s) (k : Nat) (hb : DB s k) (hk : k ≤ 33000000) : Calls Tryz.prog 81 #[.pointer (some ⟨p, 0, none⟩), .int .i64 st, .int .i64 0] w fun e w' => e = .returned (.int .i64 (runS s ([(2, se, secS (st, q0.2)), syO])).1) ∧ St ⟨w0, None_⟩ w' (cb p 113 (runF (.pointer (some ⟨D, 0, none⟩)) old size wv (st, q0.2) bv bp se fi) :: diskA 85 127 5 3 D (runS s ([(2, se, secS (st, q0.2)), syO])).2 :: R) := by
 refine c_enter (N := 46) Tryz.func81 rfl Tryz.ntmps81 (by simp) ?_
 intro a hf
 refine wp_seq (wp_region_lit ?_)
 refine s_a hf rfl ?_; clear hf a; intro a hf
 refine s_nil (then_n (wp_seq (wp_region_lit ?_)))
 refine s_m hf rfl ?_; clear hf a; intro a hf
 refine s_m hf rfl ?_; clear hf a; intro a hf
 refine s_v hf (x_nilCheck (hf.eval rfl)) ?_; clear hf a; intro a hf
 refine s_v hf (x_fieldAddr fo113_4 (hf.eval rfl)) ?_; clear hf a; intro a hf
 refine s_v hf (x_fieldAddr fo99_0 (hf.eval rfl)) ?_; clear hf a; intro a hf
 refine s_do0 hf rfl (y_store hs sc3 (hf.eval rfl) (hf.eval rfl) rfl .k0 (by simp [runF]) ?_); clear hf hs a; intro w hs a hf
 change St _ _ (cb p 113 (runF (.pointer (some ⟨D, 0, none⟩)) old size wv (st, q0.2) bv bp se fi) :: _) at hs
 have hsl := secS_len (st, q0.2)
 refine s_nil (then_n (wp_seq (wp_region_lit ?_)))
 refine s_m hf rfl ?_; clear hf a; intro a hf
 refine s_v hf (x_nilCheck (hf.eval rfl)) ?_; clear hf a; intro a hf
 refine s_v hf (x_fieldAddr fo113_4 (hf.eval rfl)) ?_; clear hf a; intro a hf
 refine s_r hf (x_loadAgg ag99 (hf.eval rfl) (vs := slF (st, q0.2)) rfl (fun j v hv => by have h7 := hs.cell (k := 4 + j) (v := v) .k0 (by rw [← run_sl (st, q0.2) j (by have := (List.getElem?_eq_some_iff.1 hv).1; exact this)]; exact hv); rwa [show (⟨p, 0 + 4, none⟩ : Addr).add j = ⟨p, 4 + j, none⟩ by unfold Addr.add; split <;> simp_all])) ?_; clear hf a; intro a hf
 refine s_do hf rfl (y_call (hf.eval rfl) (hf.evals rfl) Tryz.call108 ((encode_spec _ (hT.kept hs.kept) (st, q0.2) hsu).mono ?_))
 rintro e w1 ⟨ga, gc, rfl, hj⟩
 replace hs := hs.join hj
 simp only [List.cons_append, List.nil_append] at hs
 rw [(enc_ok hok).1, (enc_ok hok).2] at *
 have hgc := slB_cap hs
 refine ⟨_, rfl, ?_⟩; clear hf a; intro a hf
 refine s_m hf rfl ?_; clear hf a; intro a hf
 refine s_v hf (x_extract (hf.eval rfl) rfl) ?_; clear hf a; intro a hf
 refine s_v hf (x_extract (hf.eval rfl) rfl) ?_; clear hf a; intro a hf
 refine s_a hf rfl ?_; clear hf a; intro a hf
 refine s_a hf rfl ?_; clear hf a; intro a hf
 refine s_nil (then_n (wp_seq (wp_seq (wp_region_lit ?_))))
 refine s_m hf rfl ?_; clear hf a; intro a hf
 refine s_v hf (x_bin (hf.eval rfl) (hf.eval rfl) (r_ne _ _ _ _)) ?_; clear hf a; intro a hf
 refine s_nil (then_n ?_)
 refine c_cond_f hf rfl rfl ?_
 refine wp_skip (then_n (wp_seq (wp_seq ?_)))
 replace hs := hs.take (A := cb p 113 (runF (.pointer (some ⟨D, 0, none⟩)) old size wv (st, q0.2) bv bp se fi)) (by repeat constructor)
 refine c_draw hs (fun w' => w'.cell? ⟨p, 0, none⟩ = some (.pointer (some ⟨D, 0, none⟩)) ∧ w'.cell? ⟨p, 13, none⟩ = some (.int .i64 se)) [.held, .held, .held, .held, .held, .held, .held, .held, .held, .held, .held, .eff, .eff, .held] (by kernel_rfl) (by kernel_rfl) (fun w' _ hs => ⟨hs.cell .k0 rfl, hs.cell .k0 rfl⟩) ?_
 clear hs; intro w hs hC hw
 refine m_held hf rfl (fun w' _ => x_move (hf.eval rfl) w') ?_; clear hf a; intro a hf
 refine m_held hf rfl (fun w' _ => x_nilCheck (hf.eval rfl) w') ?_; clear hf a; intro a hf
 refine m_held hf rfl (fun w' _ => x_fieldAddr fo113_0 (hf.eval rfl) w') ?_; clear hf a; intro a hf
 refine m_held hf rfl (fun w' hc => x_load sc24 (hf.eval rfl) hc.1) ?_; clear hf a; intro a hf
 refine m_held hf rfl (fun w' _ => x_move (hf.eval rfl) w') ?_; clear hf a; intro a hf
 refine m_held hf rfl (fun w' _ => x_nilCheck (hf.eval rfl) w') ?_; clear hf a; intro a hf
 refine m_held hf rfl (fun w' _ => x_fieldAddr fo113_6 (hf.eval rfl) w') ?_; clear hf a; intro a hf
 refine m_held hf rfl (fun w' _ => x_fieldAddr fo111_1 (hf.eval rfl) w') ?_; clear hf a; intro a hf
 refine m_held hf rfl (fun w' hc => x_load sc3 (hf.eval rfl) hc.2) ?_; clear hf a; intro a hf
 refine m_held hf rfl (fun w' _ => x_move (hf.eval rfl) w') ?_; clear hf a; intro a hf
 refine m_held hf rfl (fun w' _ => x_move (hf.eval rfl) w') ?_; clear hf a; intro a hf
 refine m_eff hf rfl (y_appendZ0 sl22 Tryz.underlying3 (hf.eval rfl) (hf.eval rfl) rfl hgc ?_)
 refine ⟨⟨hs.cell (by repeat constructor) rfl, hs.cell (by repeat constructor) rfl⟩, ?_⟩; clear hf a; intro a hf
 replace hs := hs.take (A := diskA 85 127 5 3 D s) (by repeat constructor)
 refine m_eff hf rfl (y_call (hf.eval rfl) (hf.evals rfl) Tryz.call82 ((dWrite_spec _ _ _ D s hs se _ _ (secS (st, q0.2)) (Rdy.own (by repeat constructor)) (by rw [hsl]; omega) ho (by have := hb.calls; omega) (by have := hb.pcs; omega) (by have := hb.sizes; omega)).mono ?_))
 rintro e w1 ⟨rfl, hs⟩
 rw [← co_wr] at hs ⊢
 obtain ⟨t, ht⟩ : ∃ t, t = (coS s (2, se, secS (st, q0.2))).2 := ⟨_, rfl⟩
 have hto := coS_ok ho (2, se, secS (st, q0.2))
 have htb := coS_b ho hb (2, se, secS (st, q0.2))
 rw [← ht] at hs hto htb
 refine ⟨_, rfl, ⟨⟨hs.cell (by repeat constructor) rfl, hs.cell (by repeat constructor) rfl⟩, ?_⟩⟩; clear hf a; intro a hf
 refine m_held hf rfl (fun w' _ => x_assign (hf.eval rfl) w') ?_; clear hf a; intro a hf
 refine m_nil ?_
 refine then_n (wp_seq (wp_region_lit ?_))
 refine s_m hf rfl ?_; clear hf a; intro a hf
 refine s_v hf (x_bin (hf.eval rfl) (hf.eval rfl) (r_ne _ _ _ _)) ?_; clear hf a; intro a hf
 refine s_nil (then_n ?_)
 refine c_cond hf rfl (fun hi1 => ?_) (fun hi1 => ?_)
 ·first | simp only [zd1, zd2, zd3, zd4, ne_eq, Classical.not_not] at hi1 | skip
  refine wp_seq (wp_region_lit ?_)
  refine s_m hf rfl ?_; clear hf a; intro a hf
  refine s_a hf rfl ?_; clear hf a; intro a hf
  refine s_nil (then_n ?_)
  refine wp_ret ?_
  refine then_r ?_
  refine r_1 hf Tryz.results81 rfl ?_
  rw [runS2_bad hi1, ← ht]
  replace hs := hs.take (A := diskA 85 127 5 3 D t) (by repeat constructor)
  replace hs := hs.take (A := cb p 113 (runF (.pointer (some ⟨D, 0, none⟩)) old size wv (st, q0.2) bv bp se fi)) (by repeat constructor)
  replace hs := hs.lose (A := slB 5 (.slice ga (secS (st, q0.2)).length gc) (secS (st, q0.2))) (by repeat constructor)
  exact ⟨rfl, hs⟩
 first | simp only [zd1, zd2, zd3, zd4, ne_eq, Classical.not_not] at hi1 | skip
 refine wp_skip (then_n (wp_seq (wp_region_lit ?_)))
 refine s_m hf rfl ?_; clear hf a; intro a hf
 refine s_v hf (x_nilCheck (hf.eval rfl)) ?_; clear hf a; intro a hf
 refine s_v hf (x_fieldAddr fo113_0 (hf.eval rfl)) ?_; clear hf a; intro a hf
 refine s_r hf (x_load sc24 (hf.eval rfl) (by apply hs.cell <;> repeat constructor)) ?_; clear hf a; intro a hf
 replace hs := hs.take (A := diskA 85 127 5 3 D t) (by repeat constructor)
 refine s_do hf rfl (y_call (hf.eval rfl) (hf.evals rfl) Tryz.call11 ((dSync_spec _ _ _ D t hs hto (by have := htb.calls; omega) (by have := htb.pcs; omega) (by have := htb.sizes; omega)).mono ?_))
 rintro e w1 ⟨rfl, hs⟩
 rw [← co_sy] at hs ⊢
 refine ⟨_, rfl, ?_⟩; clear hf a; intro a hf
 refine s_a hf rfl ?_; clear hf a; intro a hf
 refine s_nil (then_n ?_)
 refine wp_ret ?_
 refine r_1 hf Tryz.results81 rfl ?_
 rw [runS2_ok hi1, ← ht]
 replace hs := hs.take (A := diskA 85 127 5 3 D (coS t syO).2) (by repeat constructor)
 replace hs := hs.take (A := cb p 113 (runF (.pointer (some ⟨D, 0, none⟩)) old size wv (st, q0.2) bv bp se fi)) (by repeat constructor)
 replace hs := hs.lose (A := slB 5 (.slice ga (secS (st, q0.2)).length gc) (secS (st, q0.2))) (by repeat constructor)
 exact ⟨rfl, hs⟩
theorem seal1_spec (w0 : World) (w : World) (R : List Asrt) (p D : Nat) (old size : Int) (wv bv : Value) (q0 : Sl) (bp se fi : Int) (s : DS) (st : Int) (hT : Tab 0 (hp w0)) (hok : slOk (st, q0.2) = true) (hsu : q0.2.2.2.2.2.2 < 4294967296) (n : Nat) (hn : 0 < n) (hn2 : n ≤ 16777216) (hs : St ⟨w0, None_⟩ w (cb p 113 (runF (.pointer (some ⟨D, 0, none⟩)) old size wv q0 bv bp se fi) :: diskA 85 127 5 3 D s :: R)) (ho : DOk s) (k : Nat) (hb : DB s k) (hk : k ≤ 33000000) : Calls Tryz.prog 81 #[.pointer (some ⟨p, 0, none⟩), .int .i64 st, .int .i64 (n : Int)] w fun e w' => e = .returned (.int .i64 (runS s ([(2, se, secS (st, q0.2) ++ List.replicate n 0), syO])).1) ∧ St ⟨w0, None_⟩ w' (cb p 113 (runF (.pointer (some ⟨D, 0, none⟩)) old size wv (st, q0.2) bv bp se fi) :: diskA 85 127 5 3 D (runS s ([(2, se, secS (st, q0.2) ++ List.replicate n 0), syO])).2 :: R) := by
 refine c_enter (N := 46) Tryz.func81 rfl Tryz.ntmps81 (by simp) ?_
 intro a hf
 refine wp_seq (wp_region_lit ?_)
 refine s_a hf rfl ?_; clear hf a; intro a hf
 refine s_nil (then_n (wp_seq (wp_region_lit ?_)))
 refine s_m hf rfl ?_; clear hf a; intro a hf
 refine s_m hf rfl ?_; clear hf a; intro a hf
 refine s_v hf (x_nilCheck (hf.eval rfl)) ?_; clear hf a; intro a hf
 refine s_v hf (x_fieldAddr fo113_4 (hf.eval rfl)) ?_; clear hf a; intro a hf
 refine s_v hf (x_fieldAddr fo99_0 (hf.eval rfl)) ?_; clear hf a; intro a hf
 refine s_do0 hf rfl (y_store hs sc3 (hf.eval rfl) (hf.eval rfl) rfl .k0 (by simp [runF]) ?_); clear hf hs a; intro w hs a hf
 change St _ _ (cb p 113 (runF (.pointer (some ⟨D, 0, none⟩)) old size wv (st, q0.2) bv bp se fi) :: _) at hs
 have hsl := secS_len (st, q0.2)
 refine s_nil (then_n (wp_seq (wp_region_lit ?_)))
 refine s_m hf rfl ?_; clear hf a; intro a hf
 refine s_v hf (x_nilCheck (hf.eval rfl)) ?_; clear hf a; intro a hf
 refine s_v hf (x_fieldAddr fo113_4 (hf.eval rfl)) ?_; clear hf a; intro a hf
 refine s_r hf (x_loadAgg ag99 (hf.eval rfl) (vs := slF (st, q0.2)) rfl (fun j v hv => by have h7 := hs.cell (k := 4 + j) (v := v) .k0 (by rw [← run_sl (st, q0.2) j (by have := (List.getElem?_eq_some_iff.1 hv).1; exact this)]; exact hv); rwa [show (⟨p, 0 + 4, none⟩ : Addr).add j = ⟨p, 4 + j, none⟩ by unfold Addr.add; split <;> simp_all])) ?_; clear hf a; intro a hf
 refine s_do hf rfl (y_call (hf.eval rfl) (hf.evals rfl) Tryz.call108 ((encode_spec _ (hT.kept hs.kept) (st, q0.2) hsu).mono ?_))
 rintro e w1 ⟨ga, gc, rfl, hj⟩
 replace hs := hs.join hj
 simp only [List.cons_append, List.nil_append] at hs
 rw [(enc_ok hok).1, (enc_ok hok).2] at *
 have hgc := slB_cap hs
 refine ⟨_, rfl, ?_⟩; clear hf a; intro a hf
 refine s_m hf rfl ?_; clear hf a; intro a hf
 refine s_v hf (x_extract (hf.eval rfl) rfl) ?_; clear hf a; intro a hf
 refine s_v hf (x_extract (hf.eval rfl) rfl) ?_; clear hf a; intro a hf
 refine s_a hf rfl ?_; clear hf a; intro a hf
 refine s_a hf rfl ?_; clear hf a; intro a hf
 refine s_nil (then_n (wp_seq (wp_seq (wp_region_lit ?_))))
 refine s_m hf rfl ?_; clear hf a; intro a hf
 refine s_v hf (x_bin (hf.eval rfl) (hf.eval rfl) (r_ne _ _ _ _)) ?_; clear hf a; intro a hf
 refine s_nil (then_n ?_)
 refine c_cond_f hf rfl rfl ?_
 refine wp_skip (then_n (wp_seq (wp_seq ?_)))
 replace hs := hs.take (A := cb p 113 (runF (.pointer (some ⟨D, 0, none⟩)) old size wv (st, q0.2) bv bp se fi)) (by repeat constructor)
 refine c_draw hs (fun w' => w'.cell? ⟨p, 0, none⟩ = some (.pointer (some ⟨D, 0, none⟩)) ∧ w'.cell? ⟨p, 13, none⟩ = some (.int .i64 se)) [.held, .held, .held, .held, .held, .held, .held, .held, .held, .held, .held, .eff, .eff, .held] (by kernel_rfl) (by kernel_rfl) (fun w' _ hs => ⟨hs.cell .k0 rfl, hs.cell .k0 rfl⟩) ?_
 clear hs; intro w hs hC hw
 refine m_held hf rfl (fun w' _ => x_move (hf.eval rfl) w') ?_; clear hf a; intro a hf
 refine m_held hf rfl (fun w' _ => x_nilCheck (hf.eval rfl) w') ?_; clear hf a; intro a hf
 refine m_held hf rfl (fun w' _ => x_fieldAddr fo113_0 (hf.eval rfl) w') ?_; clear hf a; intro a hf
 refine m_held hf rfl (fun w' hc => x_load sc24 (hf.eval rfl) hc.1) ?_; clear hf a; intro a hf
 refine m_held hf rfl (fun w' _ => x_move (hf.eval rfl) w') ?_; clear hf a; intro a hf
 refine m_held hf rfl (fun w' _ => x_nilCheck (hf.eval rfl) w') ?_; clear hf a; intro a hf
 refine m_held hf rfl (fun w' _ => x_fieldAddr fo113_6 (hf.eval rfl) w') ?_; clear hf a; intro a hf
 refine m_held hf rfl (fun w' _ => x_fieldAddr fo111_1 (hf.eval rfl) w') ?_; clear hf a; intro a hf
 refine m_held hf rfl (fun w' hc => x_load sc3 (hf.eval rfl) hc.2) ?_; clear hf a; intro a hf
 refine m_held hf rfl (fun w' _ => x_move (hf.eval rfl) w') ?_; clear hf a; intro a hf
 refine m_held hf rfl (fun w' _ => x_move (hf.eval rfl) w') ?_; clear hf a; intro a hf
 refine m_eff hf rfl (y_appendZ (n := n) hs sl22 Tryz.underlying3 (hf.eval rfl) (hf.eval rfl) rfl hn (l := secS (st, q0.2)) (by repeat constructor) (by rw [hsl]; omega) ?_); clear hf hs a; intro v2 w hs; refine ⟨⟨hs.cell (by repeat constructor) rfl, hs.cell (by repeat constructor) rfl⟩, ?_⟩; intro a hf
 obtain ⟨ga2, gc2, rfl, _⟩ := slB_shape hs
 replace hs := hs.take (A := diskA 85 127 5 3 D s) (by repeat constructor)
 refine m_eff hf rfl (y_call (hf.eval rfl) (hf.evals rfl) Tryz.call82 ((dWrite_spec _ _ _ D s hs se _ _ (secS (st, q0.2) ++ List.replicate n 0) (Rdy.own (by repeat constructor)) (by rw [List.length_append, hsl, List.length_replicate]; omega) ho (by have := hb.calls; omega) (by have := hb.pcs; omega) (by have := hb.sizes; omega)).mono ?_))
 rintro e w1 ⟨rfl, hs⟩
 rw [← co_wr] at hs ⊢
 obtain ⟨t, ht⟩ : ∃ t, t = (coS s (2, se, secS (st, q0.2) ++ List.replicate n 0)).2 := ⟨_, rfl⟩
 have hto := coS_ok ho (2, se, secS (st, q0.2) ++ List.replicate n 0)
 have htb := coS_b ho hb (2, se, secS (st, q0.2) ++ List.replicate n 0)
 rw [← ht] at hs hto htb
 refine ⟨_, rfl, ⟨⟨hs.cell (by repeat constructor) rfl, hs.cell (by repeat constructor) rfl⟩, ?_⟩⟩; clear hf a; intro a hf
 refine m_held hf rfl (fun w' _ => x_assign (hf.eval rfl) w') ?_; clear hf a; intro a hf
 refine m_nil ?_
 refine then_n (wp_seq (wp_region_lit ?_))
 refine s_m hf rfl ?_; clear hf a; intro a hf
 refine s_v hf (x_bin (hf.eval rfl) (hf.eval rfl) (r_ne _ _ _ _)) ?_; clear hf a; intro a hf
 refine s_nil (then_n ?_)
 refine c_cond hf rfl (fun hi1 => ?_) (fun hi1 => ?_)
 ·first | simp only [zd1, zd2, zd3, zd4, ne_eq, Classical.not_not] at hi1 | skip
  refine wp_seq (wp_region_lit ?_)
  refine s_m hf rfl ?_; clear hf a; intro a hf
  refine s_a hf rfl ?_; clear hf a; intro a hf
  refine s_nil (then_n ?_)
  refine wp_ret ?_
  refine then_r ?_
  refine r_1 hf Tryz.results81 rfl ?_
  rw [runS2_bad hi1, ← ht]
  replace hs := hs.take (A := diskA 85 127 5 3 D t) (by repeat constructor)
  replace hs := hs.take (A := cb p 113 (runF (.pointer (some ⟨D, 0, none⟩)) old size wv (st, q0.2) bv bp se fi)) (by repeat constructor)
  replace hs := hs.lose (A := slB 5 (.slice ga2 (secS (st, q0.2) ++ List.replicate n 0).length gc2) (secS (st, q0.2) ++ List.replicate n 0)) (by repeat constructor)
  exact ⟨rfl, hs⟩
 first | simp only [zd1, zd2, zd3, zd4, ne_eq, Classical.not_not] at hi1 | skip
 refine wp_skip (then_n (wp_seq (wp_region_lit ?_)))
 refine s_m hf rfl ?_; clear hf a; intro a hf
 refine s_v hf (x_nilCheck (hf.eval rfl)) ?_; clear hf a; intro a hf
 refine s_v hf (x_fieldAddr fo113_0 (hf.eval rfl)) ?_; clear hf a; intro a hf
 refine s_r hf (x_load sc24 (hf.eval rfl) (by apply hs.cell <;> repeat constructor)) ?_; clear hf a; intro a hf
 replace hs := hs.take (A := diskA 85 127 5 3 D t) (by repeat constructor)
 refine s_do hf rfl (y_call (hf.eval rfl) (hf.evals rfl) Tryz.call11 ((dSync_spec _ _ _ D t hs hto (by have := htb.calls; omega) (by have := htb.pcs; omega) (by have := htb.sizes; omega)).mono ?_))
 rintro e w1 ⟨rfl, hs⟩
 rw [← co_sy] at hs ⊢
 refine ⟨_, rfl, ?_⟩; clear hf a; intro a hf
 refine s_a hf rfl ?_; clear hf a; intro a hf
 refine s_nil (then_n ?_)
 refine wp_ret ?_
 refine r_1 hf Tryz.results81 rfl ?_
 rw [runS2_ok hi1, ← ht]
 replace hs := hs.take (A := diskA 85 127 5 3 D (coS t syO).2) (by repeat constructor)
 replace hs := hs.take (A := cb p 113 (runF (.pointer (some ⟨D, 0, none⟩)) old size wv (st, q0.2) bv bp se fi)) (by repeat constructor)
 replace hs := hs.lose (A := slB 5 (.slice ga2 (secS (st, q0.2) ++ List.replicate n 0).length gc2) (secS (st, q0.2) ++ List.replicate n 0)) (by repeat constructor)
 exact ⟨rfl, hs⟩
theorem arm_spec (w0 : World) (w : World) (R : List Asrt) (p D : Nat) (old size : Int) (wv bv : Value) (q0 : Sl) (bp se fi : Int) (s : DS) (hT : Tab 0 (hp w0)) (hok : slOk (3, q0.2) = true) (hsu : q0.2.2.2.2.2.2 < 4294967296) (hs : St ⟨w0, None_⟩ w (cb p 113 (runF (.pointer (some ⟨D, 0, none⟩)) old size wv q0 bv bp se fi) :: diskA 85 127 5 3 D s :: R)) (ho : DOk s) (k : Nat) (hb : DB s k) (hk : k ≤ 33000000) : Calls Tryz.prog 45 #[.pointer (some ⟨p, 0, none⟩)] w fun e w' => e = .returned (.int .i64 (runS s ([(2, se, secS (3, q0.2)), syO])).1) ∧ St ⟨w0, None_⟩ w' (cb p 113 (runF (.pointer (some ⟨D, 0, none⟩)) old size wv (3, q0.2) bv bp se fi) :: diskA 85 127 5 3 D (runS s ([(2, se, secS (3, q0.2)), syO])).2 :: R) := by
 refine c_enter (N := 5) Tryz.func45 rfl Tryz.ntmps45 (by simp) ?_
 intro a hf
 refine wp_seq (wp_region_lit ?_)
 refine s_a hf rfl ?_; clear hf a; intro a hf
 refine s_nil (then_n (wp_seq (wp_region_lit ?_)))
 refine s_m hf rfl ?_; clear hf a; intro a hf
 refine s_do hf rfl (y_call (hf.eval rfl) (hf.evals rfl) Tryz.call81 ((seal0_spec w0 _ R p D old size wv bv q0 bp se fi s 3 hT hok hsu hs ho k hb hk).mono ?_))
 rintro e w1 ⟨rfl, hs⟩
 refine ⟨_, rfl, ?_⟩; clear hf a; intro a hf
 refine s_a hf rfl ?_; clear hf a; intro a hf
 refine s_nil (then_n ?_)
 refine wp_ret ?_
 refine r_1 hf Tryz.results45 rfl ?_
 exact ⟨rfl, hs⟩
theorem finish_spec (w0 : World) (w : World) (R : List Asrt) (p D : Nat) (old size : Int) (wv bv : Value) (q0 : Sl) (bp se fi : Int) (s : DS) (hT : Tab 0 (hp w0)) (hok : slOk (4, q0.2) = true) (hsu : q0.2.2.2.2.2.2 < 4294967296) (hs : St ⟨w0, None_⟩ w (cb p 113 (runF (.pointer (some ⟨D, 0, none⟩)) old size wv q0 bv bp se fi) :: diskA 85 127 5 3 D s :: R)) (ho : DOk s) (k : Nat) (hb : DB s k) (hk : k ≤ 33000000) : Calls Tryz.prog 47 #[.pointer (some ⟨p, 0, none⟩)] w fun e w' => e = .returned (.int .i64 (runS s ([(2, se, secS (4, q0.2)), syO])).1) ∧ St ⟨w0, None_⟩ w' (cb p 113 (runF (.pointer (some ⟨D, 0, none⟩)) old size wv (4, q0.2) bv bp se fi) :: diskA 85 127 5 3 D (runS s ([(2, se, secS (4, q0.2)), syO])).2 :: R) := by
 refine c_enter (N := 5) Tryz.func47 rfl Tryz.ntmps47 (by simp) ?_
 intro a hf
 refine wp_seq (wp_region_lit ?_)
 refine s_a hf rfl ?_; clear hf a; intro a hf
 refine s_nil (then_n (wp_seq (wp_region_lit ?_)))
 refine s_m hf rfl ?_; clear hf a; intro a hf
 refine s_do hf rfl (y_call (hf.eval rfl) (hf.evals rfl) Tryz.call81 ((seal0_spec w0 _ R p D old size wv bv q0 bp se fi s 4 hT hok hsu hs ho k hb hk).mono ?_))
 rintro e w1 ⟨rfl, hs⟩
 refine ⟨_, rfl, ?_⟩; clear hf a; intro a hf
 refine s_a hf rfl ?_; clear hf a; intro a hf
 refine s_nil (then_n ?_)
 refine wp_ret ?_
 refine r_1 hf Tryz.results47 rfl ?_
 exact ⟨rfl, hs⟩
theorem claim0_spec (w0 : World) (w : World) (R : List Asrt) (p D : Nat) (old size : Int) (wv bv : Value) (q0 : Sl) (bp se fi : Int) (s : DS) (hT : Tab 0 (hp w0)) (hok : slOk (2, q0.2) = true) (hsu : q0.2.2.2.2.2.2 < 4294967296) (hse : 0 ≤ se ∧ se ≤ 1152921504606846976) (hfi : 0 ≤ fi ∧ fi ≤ 1152921504606846976) (hn0 : fi - se - 512 = 0) (hs : St ⟨w0, None_⟩ w (cb p 113 (runF (.pointer (some ⟨D, 0, none⟩)) old size wv q0 bv bp se fi) :: diskA 85 127 5 3 D s :: R)) (ho : DOk s) (k : Nat) (hb : DB s k) (hk : k ≤ 33000000) : Calls Tryz.prog 43 #[.pointer (some ⟨p, 0, none⟩)] w fun e w' => e = .returned (.int .i64 (runS s ([(2, se, secS (2, q0.2) ++ List.replicate (fi - se - 512).toNat 0), syO])).1) ∧ St ⟨w0, None_⟩ w' (cb p 113 (runF (.pointer (some ⟨D, 0, none⟩)) old size wv (2, q0.2) bv bp se fi) :: diskA 85 127 5 3 D (runS s ([(2, se, secS (2, q0.2) ++ List.replicate (fi - se - 512).toNat 0), syO])).2 :: R) := by
 refine c_enter (N := 17) Tryz.func43 rfl Tryz.ntmps43 (by simp) ?_
 intro a hf
 refine wp_seq (wp_region_lit ?_)
 refine s_a hf rfl ?_; clear hf a; intro a hf
 refine s_nil (then_n (wp_seq ?_))
 refine c_draw hs (fun _ => True) [.held, .held, .held, .held, .held, .read, .held, .held, .held, .held, .read, .held, .held, .eff, .held] (by kernel_rfl) (by kernel_rfl) (fun _ _ _ => trivial) ?_
 clear hs; intro w hs hC hw
 refine m_held hf rfl (fun w' _ => x_move (hf.eval rfl) w') ?_; clear hf a; intro a hf
 refine m_held hf rfl (fun w' _ => x_move (hf.eval rfl) w') ?_; clear hf a; intro a hf
 refine m_held hf rfl (fun w' _ => x_nilCheck (hf.eval rfl) w') ?_; clear hf a; intro a hf
 refine m_held hf rfl (fun w' _ => x_fieldAddr fo113_6 (hf.eval rfl) w') ?_; clear hf a; intro a hf
 refine m_held hf rfl (fun w' _ => x_fieldAddr fo111_2 (hf.eval rfl) w') ?_; clear hf a; intro a hf
 refine m_read hf rfl (x_load sc3 (hf.eval rfl) (by apply hs.cell <;> repeat constructor)) ?_; clear hf a; intro a hf
 refine m_held hf rfl (fun w' _ => x_move (hf.eval rfl) w') ?_; clear hf a; intro a hf
 refine m_held hf rfl (fun w' _ => x_nilCheck (hf.eval rfl) w') ?_; clear hf a; intro a hf
 refine m_held hf rfl (fun w' _ => x_fieldAddr fo113_6 (hf.eval rfl) w') ?_; clear hf a; intro a hf
 refine m_held hf rfl (fun w' _ => x_fieldAddr fo111_1 (hf.eval rfl) w') ?_; clear hf a; intro a hf
 refine m_read hf rfl (x_load sc3 (hf.eval rfl) (by apply hs.cell <;> repeat constructor)) ?_; clear hf a; intro a hf
 refine m_held hf rfl (fun w' _ => x_bin (hf.eval rfl) (hf.eval rfl) (r_subi _ (by omega) (by omega)) w') ?_; clear hf a; intro a hf
 refine m_held hf rfl (fun w' _ => x_bin (hf.eval rfl) (hf.eval rfl) (r_subi _ (by omega) (by omega)) w') ?_; clear hf a; intro a hf
 replace hf := hf.now (k := 15) (v' := .int .i64 0) rfl (by congr 1 <;> omega)
 refine m_eff hf rfl (y_call (hf.eval rfl) (hf.evals rfl) Tryz.call81 ((seal0_spec w0 _ R p D old size wv bv q0 bp se fi s 2 hT hok hsu hs ho k hb hk).mono ?_))
 rintro e w1 ⟨rfl, hs⟩
 refine ⟨_, rfl, ⟨trivial, ?_⟩⟩; clear hf a; intro a hf
 refine m_held hf rfl (fun w' _ => x_assign (hf.eval rfl) w') ?_; clear hf a; intro a hf
 refine m_nil ?_
 refine then_n ?_
 refine wp_ret ?_
 refine r_1 hf Tryz.results43 rfl ?_
 rw [hn0, Int.toNat_zero, List.replicate_zero, List.append_nil]
 exact ⟨rfl, hs⟩
theorem claim1_spec (w0 : World) (w : World) (R : List Asrt) (p D : Nat) (old size : Int) (wv bv : Value) (q0 : Sl) (bp se fi : Int) (s : DS) (hT : Tab 0 (hp w0)) (hok : slOk (2, q0.2) = true) (hsu : q0.2.2.2.2.2.2 < 4294967296) (hse : 0 ≤ se ∧ se ≤ 1152921504606846976) (hfi : 0 ≤ fi ∧ fi ≤ 1152921504606846976) (hn0 : 0 < fi - se - 512) (hn1 : fi - se ≤ 16777216) (hs : St ⟨w0, None_⟩ w (cb p 113 (runF (.pointer (some ⟨D, 0, none⟩)) old size wv q0 bv bp se fi) :: diskA 85 127 5 3 D s :: R)) (ho : DOk s) (k : Nat) (hb : DB s k) (hk : k ≤ 33000000) : Calls Tryz.prog 43 #[.pointer (some ⟨p, 0, none⟩)] w fun e w' => e = .returned (.int .i64 (runS s ([(2, se, secS (2, q0.2) ++ List.replicate (fi - se - 512).toNat 0), syO])).1) ∧ St ⟨w0, None_⟩ w' (cb p 113 (runF (.pointer (some ⟨D, 0, none⟩)) old size wv (2, q0.2) bv bp se fi) :: diskA 85 127 5 3 D (runS s ([(2, se, secS (2, q0.2) ++ List.replicate (fi - se - 512).toNat 0), syO])).2 :: R) := by
 obtain ⟨n, hnn⟩ := Int.eq_ofNat_of_zero_le (show 0 ≤ fi - se - 512 by omega)
 have hnt : (fi - se - 512).toNat = n := by omega
 refine c_enter (N := 17) Tryz.func43 rfl Tryz.ntmps43 (by simp) ?_
 intro a hf
 refine wp_seq (wp_region_lit ?_)
 refine s_a hf rfl ?_; clear hf a; intro a hf
 refine s_nil (then_n (wp_seq ?_))
 refine c_draw hs (fun _ => True) [.held, .held, .held, .held, .held, .read, .held, .held, .held, .held, .read, .held, .held, .eff, .held] (by kernel_rfl) (by kernel_rfl) (fun _ _ _ => trivial) ?_
 clear hs; intro w hs hC hw
 refine m_held hf rfl (fun w' _ => x_move (hf.eval rfl) w') ?_; clear hf a; intro a hf
 refine m_held hf rfl (fun w' _ => x_move (hf.eval rfl) w') ?_; clear hf a; intro a hf
 refine m_held hf rfl (fun w' _ => x_nilCheck (hf.eval rfl) w') ?_; clear hf a; intro a hf
 refine m_held hf rfl (fun w' _ => x_fieldAddr fo113_6 (hf.eval rfl) w') ?_; clear hf a; intro a hf
 refine m_held hf rfl (fun w' _ => x_fieldAddr fo111_2 (hf.eval rfl) w') ?_; clear hf a; intro a hf
 refine m_read hf rfl (x_load sc3 (hf.eval rfl) (by apply hs.cell <;> repeat constructor)) ?_; clear hf a; intro a hf
 refine m_held hf rfl (fun w' _ => x_move (hf.eval rfl) w') ?_; clear hf a; intro a hf
 refine m_held hf rfl (fun w' _ => x_nilCheck (hf.eval rfl) w') ?_; clear hf a; intro a hf
 refine m_held hf rfl (fun w' _ => x_fieldAddr fo113_6 (hf.eval rfl) w') ?_; clear hf a; intro a hf
 refine m_held hf rfl (fun w' _ => x_fieldAddr fo111_1 (hf.eval rfl) w') ?_; clear hf a; intro a hf
 refine m_read hf rfl (x_load sc3 (hf.eval rfl) (by apply hs.cell <;> repeat constructor)) ?_; clear hf a; intro a hf
 refine m_held hf rfl (fun w' _ => x_bin (hf.eval rfl) (hf.eval rfl) (r_subi _ (by omega) (by omega)) w') ?_; clear hf a; intro a hf
 refine m_held hf rfl (fun w' _ => x_bin (hf.eval rfl) (hf.eval rfl) (r_subi _ (by omega) (by omega)) w') ?_; clear hf a; intro a hf
 replace hf := hf.now (k := 15) (v' := .int .i64 (n : Int)) rfl (by congr 1 <;> omega)
 refine m_eff hf rfl (y_call (hf.eval rfl) (hf.evals rfl) Tryz.call81 ((seal1_spec w0 _ R p D old size wv bv q0 bp se fi s 2 hT hok hsu n (by omega) (by omega) hs ho k hb hk).mono ?_))
 rintro e w1 ⟨rfl, hs⟩
 refine ⟨_, rfl, ⟨trivial, ?_⟩⟩; clear hf a; intro a hf
 refine m_held hf rfl (fun w' _ => x_assign (hf.eval rfl) w') ?_; clear hf a; intro a hf
 refine m_nil ?_
 refine then_n ?_
 refine wp_ret ?_
 refine r_1 hf Tryz.results43 rfl ?_
 rw [hnt]
 exact ⟨rfl, hs⟩
theorem claim_spec (w0 : World) (w : World) (R : List Asrt) (p D : Nat) (old size : Int) (wv bv : Value) (q0 : Sl) (bp se fi : Int) (s : DS) (hT : Tab 0 (hp w0)) (hok : slOk (2, q0.2) = true) (hsu : q0.2.2.2.2.2.2 < 4294967296) (hse : 0 ≤ se ∧ se ≤ 1152921504606846976) (hfi : 0 ≤ fi ∧ fi ≤ 1152921504606846976) (hn0 : 0 ≤ fi - se - 512) (hn1 : fi - se ≤ 16777216) (hs : St ⟨w0, None_⟩ w (cb p 113 (runF (.pointer (some ⟨D, 0, none⟩)) old size wv q0 bv bp se fi) :: diskA 85 127 5 3 D s :: R)) (ho : DOk s) (k : Nat) (hb : DB s k) (hk : k ≤ 33000000) : Calls Tryz.prog 43 #[.pointer (some ⟨p, 0, none⟩)] w fun e w' => e = .returned (.int .i64 (runS s ([(2, se, secS (2, q0.2) ++ List.replicate (fi - se - 512).toNat 0), syO])).1) ∧ St ⟨w0, None_⟩ w' (cb p 113 (runF (.pointer (some ⟨D, 0, none⟩)) old size wv (2, q0.2) bv bp se fi) :: diskA 85 127 5 3 D (runS s ([(2, se, secS (2, q0.2) ++ List.replicate (fi - se - 512).toNat 0), syO])).2 :: R) := by
  by_cases h : fi - se - 512 = 0
  · exact claim0_spec w0 w R p D old size wv bv q0 bp se fi s hT hok hsu hse hfi h hs ho k hb hk
  · exact claim1_spec w0 w R p D old size wv bv q0 bp se fi s hT hok hsu hse hfi (by omega) hn1 hs ho k hb hk
theorem save_spec (w0 : World) (w : World) (R : List Asrt) (p D : Nat) (old size : Int) (wv : Value) (ab : Option Addr) (cb_ : Nat) (bod : List UInt8) (hbr : Rdy ⟨w0, None_⟩ R (.slice ab bod.length cb_) bod) (hbl : bod.length ≤ 140737488351232) (q0 : Sl) (bp se fi : Int) (s : DS) (hs : St ⟨w0, None_⟩ w (cb p 113 (runF (.pointer (some ⟨D, 0, none⟩)) old size wv q0 (.slice ab bod.length cb_) bp se fi) :: diskA 85 127 5 3 D s :: R)) (ho : DOk s) (k : Nat) (hb : DB s k) (hk : k ≤ 33000000) : Calls Tryz.prog 44 #[.pointer (some ⟨p, 0, none⟩)] w fun e w' => e = .returned (.int .i64 (runS s ((if bod = [] then [] else [((2 : Int), bp, bod)]) ++ [syO])).1) ∧ St ⟨w0, None_⟩ w' (cb p 113 (runF (.pointer (some ⟨D, 0, none⟩)) old size wv q0 (.slice ab bod.length cb_) bp se fi) :: diskA 85 127 5 3 D (runS s ((if bod = [] then [] else [((2 : Int), bp, bod)]) ++ [syO])).2 :: R) := by
 refine c_enter (N := 32) Tryz.func44 rfl Tryz.ntmps44 (by simp) ?_
 intro a hf
 refine wp_seq (wp_region_lit ?_)
 refine s_a hf rfl ?_; clear hf a; intro a hf
 refine s_nil (then_n (wp_seq (wp_seq (wp_region_lit ?_))))
 refine s_m hf rfl ?_; clear hf a; intro a hf
 refine s_v hf (x_nilCheck (hf.eval rfl)) ?_; clear hf a; intro a hf
 refine s_v hf (x_fieldAddr fo113_5 (hf.eval rfl)) ?_; clear hf a; intro a hf
 refine s_r hf (x_load sc22 (hf.eval rfl) (by apply hs.cell <;> repeat constructor)) ?_; clear hf a; intro a hf
 refine s_v hf (x_len Tryz.underlying22 (hf.eval rfl)) ?_; clear hf a; intro a hf
 refine s_v hf (x_bin (hf.eval rfl) (hf.eval rfl) (r_gt _ _ _ _)) ?_; clear hf a; intro a hf
 refine s_nil (then_n ?_)
 refine c_cond hf rfl (fun hi0 => ?_) (fun hi0 => ?_)
 ·first | simp only [zd1, zd2, zd3, zd4, ne_eq, Classical.not_not] at hi0 | skip
  have hne : bod ≠ [] := fun h9 => by rw [h9] at hi0; simp at hi0
  rw [if_neg hne]
  refine wp_seq ?_
  refine c_draw hs (fun _ => True) [.held, .held, .held, .read, .held, .held, .held, .held, .read, .held, .held, .held, .read, .eff, .held] (by kernel_rfl) (by kernel_rfl) (fun _ _ _ => trivial) ?_
  clear hs; intro w hs hC hw
  refine m_held hf rfl (fun w' _ => x_move (hf.eval rfl) w') ?_; clear hf a; intro a hf
  refine m_held hf rfl (fun w' _ => x_nilCheck (hf.eval rfl) w') ?_; clear hf a; intro a hf
  refine m_held hf rfl (fun w' _ => x_fieldAddr fo113_0 (hf.eval rfl) w') ?_; clear hf a; intro a hf
  refine m_read hf rfl (x_load sc24 (hf.eval rfl) (by apply hs.cell <;> repeat constructor)) ?_; clear hf a; intro a hf
  refine m_held hf rfl (fun w' _ => x_move (hf.eval rfl) w') ?_; clear hf a; intro a hf
  refine m_held hf rfl (fun w' _ => x_nilCheck (hf.eval rfl) w') ?_; clear hf a; intro a hf
  refine m_held hf rfl (fun w' _ => x_fieldAddr fo113_6 (hf.eval rfl) w') ?_; clear hf a; intro a hf
  refine m_held hf rfl (fun w' _ => x_fieldAddr fo111_0 (hf.eval rfl) w') ?_; clear hf a; intro a hf
  refine m_read hf rfl (x_load sc3 (hf.eval rfl) (by apply hs.cell <;> repeat constructor)) ?_; clear hf a; intro a hf
  refine m_held hf rfl (fun w' _ => x_move (hf.eval rfl) w') ?_; clear hf a; intro a hf
  refine m_held hf rfl (fun w' _ => x_nilCheck (hf.eval rfl) w') ?_; clear hf a; intro a hf
  refine m_held hf rfl (fun w' _ => x_fieldAddr fo113_5 (hf.eval rfl) w') ?_; clear hf a; intro a hf
  refine m_read hf rfl (x_load sc22 (hf.eval rfl) (by apply hs.cell <;> repeat constructor)) ?_; clear hf a; intro a hf
  replace hs := hs.take (A := diskA 85 127 5 3 D s) (by repeat constructor)
  refine m_eff hf rfl (y_call (hf.eval rfl) (hf.evals rfl) Tryz.call82 ((dWrite_spec _ _ _ D s hs bp ab cb_ bod (hbr.more [_]) hbl ho (by have := hb.calls; omega) (by have := hb.pcs; omega) (by have := hb.sizes; omega)).mono ?_))
  rintro e w1 ⟨rfl, hs⟩
  rw [← co_wr] at hs ⊢
  obtain ⟨t, ht⟩ : ∃ t, t = (coS s (2, bp, bod)).2 := ⟨_, rfl⟩
  have hto := coS_ok ho (2, bp, bod)
  have htb := coS_b ho hb (2, bp, bod)
  rw [← ht] at hs hto htb
  refine ⟨_, rfl, ⟨trivial, ?_⟩⟩; clear hf a; intro a hf
  refine m_held hf rfl (fun w' _ => x_assign (hf.eval rfl) w') ?_; clear hf a; intro a hf
  refine m_nil ?_
  refine then_n (wp_seq (wp_region_lit ?_))
  refine s_m hf rfl ?_; clear hf a; intro a hf
  refine s_v hf (x_bin (hf.eval rfl) (hf.eval rfl) (r_ne _ _ _ _)) ?_; clear hf a; intro a hf
  refine s_nil (then_n ?_)
  refine c_cond hf rfl (fun hi1 => ?_) (fun hi1 => ?_)
  ·first | simp only [zd1, zd2, zd3, zd4, ne_eq, Classical.not_not] at hi1 | skip
   refine wp_seq (wp_region_lit ?_)
   refine s_m hf rfl ?_; clear hf a; intro a hf
   refine s_a hf rfl ?_; clear hf a; intro a hf
   refine s_nil (then_n ?_)
   refine wp_ret ?_
   refine then_r ?_
   refine r_1 hf Tryz.results44 rfl ?_
   rw [show [((2 : Int), bp, bod)] ++ [syO] = [(2, bp, bod), syO] from rfl, runS2_bad hi1, ← ht]
   exact ⟨rfl, hs.take (by repeat constructor)⟩
  first | simp only [zd1, zd2, zd3, zd4, ne_eq, Classical.not_not] at hi1 | skip
  refine wp_skip (then_n (wp_seq (wp_region_lit ?_)))
  refine s_m hf rfl ?_; clear hf a; intro a hf
  refine s_v hf (x_nilCheck (hf.eval rfl)) ?_; clear hf a; intro a hf
  refine s_v hf (x_fieldAddr fo113_0 (hf.eval rfl)) ?_; clear hf a; intro a hf
  refine s_r hf (x_load sc24 (hf.eval rfl) (by apply hs.cell <;> repeat constructor)) ?_; clear hf a; intro a hf
  replace hs := hs.take (A := diskA 85 127 5 3 D t) (by repeat constructor)
  refine s_do hf rfl (y_call (hf.eval rfl) (hf.evals rfl) Tryz.call11 ((dSync_spec _ _ _ D t hs hto (by have := htb.calls; omega) (by have := htb.pcs; omega) (by have := htb.sizes; omega)).mono ?_))
  rintro e w1 ⟨rfl, hs⟩
  rw [← co_sy] at hs ⊢
  refine ⟨_, rfl, ?_⟩; clear hf a; intro a hf
  refine s_a hf rfl ?_; clear hf a; intro a hf
  refine s_nil (then_n ?_)
  refine wp_ret ?_
  refine r_1 hf Tryz.results44 rfl ?_
  first | (rw [show [((2 : Int), bp, bod)] ++ [syO] = [(2, bp, bod), syO] from rfl, runS2_ok hi1, ← ht]; exact ⟨rfl, hs.take (by repeat constructor)⟩) | (rw [List.nil_append, runS_one, ← ht]; exact ⟨rfl, hs.take (by repeat constructor)⟩)
 first | simp only [zd1, zd2, zd3, zd4, ne_eq, Classical.not_not] at hi0 | skip
 have hnil : bod = [] := List.eq_nil_of_length_eq_zero (by omega)
 rw [if_pos hnil]
 obtain ⟨t, ht⟩ : ∃ t, t = s := ⟨_, rfl⟩
 have hto := ho
 have htb := hb.up (Nat.le_succ k)
 rw [← ht] at hs hto htb
 refine wp_skip (then_n (wp_seq (wp_region_lit ?_)))
 refine s_m hf rfl ?_; clear hf a; intro a hf
 refine s_v hf (x_nilCheck (hf.eval rfl)) ?_; clear hf a; intro a hf
 refine s_v hf (x_fieldAddr fo113_0 (hf.eval rfl)) ?_; clear hf a; intro a hf
 refine s_r hf (x_load sc24 (hf.eval rfl) (by apply hs.cell <;> repeat constructor)) ?_; clear hf a; intro a hf
 replace hs := hs.take (A := diskA 85 127 5 3 D t) (by repeat constructor)
 refine s_do hf rfl (y_call (hf.eval rfl) (hf.evals rfl) Tryz.call11 ((dSync_spec _ _ _ D t hs hto (by have := htb.calls; omega) (by have := htb.pcs; omega) (by have := htb.sizes; omega)).mono ?_))
 rintro e w1 ⟨rfl, hs⟩
 rw [← co_sy] at hs ⊢
 refine ⟨_, rfl, ?_⟩; clear hf a; intro a hf
 refine s_a hf rfl ?_; clear hf a; intro a hf
 refine s_nil (then_n ?_)
 refine wp_ret ?_
 refine r_1 hf Tryz.results44 rfl ?_
 first | (rw [show [((2 : Int), bp, bod)] ++ [syO] = [(2, bp, bod), syO] from rfl, runS2_ok hi1, ← ht]; exact ⟨rfl, hs.take (by repeat constructor)⟩) | (rw [List.nil_append, runS_one, ← ht]; exact ⟨rfl, hs.take (by repeat constructor)⟩)
theorem write_spec (w0 : World) (w : World) (R : List Asrt) (p D : Nat) (old size : Int) (bv : Value) (aw : Option Addr) (cw : Nat) (ws : List Wr) (hrw : RdyS wF 2 ⟨w0, None_⟩ R (.slice aw ws.length cw) ws) (hlw : ws.length ≤ 16777216) (hgw : ∀ z ∈ ws, Rdy ⟨w0, None_⟩ R (.slice z.2.1 z.2.2.2.length z.2.2.1) z.2.2.2 ∧ z.2.2.2.length ≤ 16777216) (q0 : Sl) (bp se fi : Int) (s : DS) (hs : St ⟨w0, None_⟩ w (cb p 113 (runF (.pointer (some ⟨D, 0, none⟩)) old size (.slice aw ws.length cw) q0 bv bp se fi) :: diskA 85 127 5 3 D s :: R)) (ho : DOk s) (k : Nat) (hb : DB s k) (hk : k + ws.length ≤ 33000000) : Calls Tryz.prog 46 #[.pointer (some ⟨p, 0, none⟩)] w fun e w' => e = .returned (.int .i64 (runS s (wrsU ws ++ [syO])).1) ∧ St ⟨w0, None_⟩ w' (cb p 113 (runF (.pointer (some ⟨D, 0, none⟩)) old size (.slice aw ws.length cw) q0 bv bp se fi) :: diskA 85 127 5 3 D (runS s (wrsU ws ++ [syO])).2 :: R) := by
 refine c_enter (N := 33) Tryz.func46 rfl Tryz.ntmps46 (by simp) ?_
 intro a hf
 refine wp_seq (wp_region_lit ?_)
 refine s_a hf rfl ?_; clear hf a; intro a hf
 refine s_nil (then_n (wp_seq (wp_seq (wp_region_lit ?_))))
 refine s_m hf rfl ?_; clear hf a; intro a hf
 refine s_v hf (x_nilCheck (hf.eval rfl)) ?_; clear hf a; intro a hf
 refine s_v hf (x_fieldAddr fo113_3 (hf.eval rfl)) ?_; clear hf a; intro a hf
 refine s_r hf (x_load sc23 (hf.eval rfl) (by apply hs.cell <;> repeat constructor)) ?_; clear hf a; intro a hf
 refine s_v hf (x_len Tryz.underlying23 (hf.eval rfl)) ?_; clear hf a; intro a hf
 refine s_m hf rfl ?_; clear hf a; intro a hf
 refine s_nil (then_n (wp_block ?_))
 refine c_loop (L0 := [(0, _), (9, _), (10, _)]) (fun M w m => ∃ (i : Nat) (t : DS), M = [(11, .int .i64 (i : Int))] ∧ ws.length - i = m ∧ i ≤ ws.length ∧ (runS s (wrsU (ws.take i))).1 = 0 ∧ t = (runS s (wrsU (ws.take i))).2 ∧ St ⟨w0, None_⟩ w (cb p 113 (runF (.pointer (some ⟨D, 0, none⟩)) old size (.slice aw ws.length cw) q0 bv bp se fi) :: diskA 85 127 5 3 D t :: R)) (M0 := [(11, .int .i64 0)]) (⟨0, s, rfl, rfl, Nat.zero_le _, rfl, rfl, hs⟩) (hf.sub ⟨rfl, rfl, rfl, rfl, trivial⟩) ?_
 clear hf hs a
 rintro M m a w ⟨i, t, rfl, rfl, hi, hr0, ht, hs⟩ hf
 have hto : DOk t := by rw [ht]; exact runS_ok _ ho
 have htb : DB t (k + i) := by rw [ht]; have h9 := runS_b (wrsU (ws.take i)) ho hb; have h8 : (wrsU (ws.take i)).length = i := (by unfold wrsU; rw [List.length_map, List.length_take]; omega); rw [h8] at h9; exact h9
 refine wp_seq (wp_region_lit ?_)
 refine s_v hf (x_bin (hf.eval rfl) (hf.eval rfl) (r_lt _ _ _ _)) ?_; clear hf a; intro a hf
 refine s_nil (then_n (wp_seq ?_))
 refine c_cond hf rfl (fun hi0 => ?_) (fun hi0 => ?_)
 ·simp only [zd1, zd2, zd3, zd4, zd5, zd6, zd7] at hi0
  have hlt : i < ws.length := by omega
  have hrw9 := hrw w [_, _] hs
  obtain ⟨aw, rfl⟩ := hrw9.some (by omega)
  have hgi := hgw _ (List.getElem_mem hlt)
  have hsn : runS s (wrsU (ws.take (i + 1))) = coS t (2, ws[i].1, ws[i].2.2.2) := by rw [wrsU_succ hlt, runS_snoc hr0, ← ht]
  refine wp_skip (then_n (wp_seq (wp_block (wp_seq (wp_region_lit ?_)))))
  refine s_v hf (x_indexAddr sl23 (hf.eval rfl) (hf.eval rfl) (by omega) (by omega)) ?_; clear hf a; intro a hf
  refine s_r hf (x_loadS (f := wF) ag54 (fun _ => rfl) hrw9 (hf.eval rfl) (by simpa using hlt)) ?_; clear hf a; intro a hf
  replace hf := hf.now (k := 14) (v' := .agg (wF ws[i]).toArray) rfl (rfl)
  refine s_do hf rfl (y_alloc hs Tryz.zeroValue54 ?_); clear hf hs a; intro b7 w hs a hf
  change St _ _ (cb b7 54 [.int .i64 0, .slice none 0 0] :: _) at hs
  refine s_do0 hf rfl (y_storeAgg (cs := wF ws[i]) hs (n := 2) (by kernel_rfl) (hf.eval rfl) (hf.eval rfl) (by simp [Value.oneCell', wF]) rfl rfl .k0 ?_); clear hf hs a; intro w hs a hf
  refine s_nil (then_n (wp_seq ?_))
  refine c_draw hs (fun _ => True) [.held, .held, .held, .read, .held, .read, .held, .read, .eff, .held] (by kernel_rfl) (by kernel_rfl) (fun _ _ _ => trivial) ?_
  clear hs; intro w hs hC hw
  refine m_held hf rfl (fun w' _ => x_move (hf.eval rfl) w') ?_; clear hf a; intro a hf
  refine m_held hf rfl (fun w' _ => x_nilCheck (hf.eval rfl) w') ?_; clear hf a; intro a hf
  refine m_held hf rfl (fun w' _ => x_fieldAddr fo113_0 (hf.eval rfl) w') ?_; clear hf a; intro a hf
  refine m_read hf rfl (x_load sc24 (hf.eval rfl) (by apply hs.cell <;> repeat constructor)) ?_; clear hf a; intro a hf
  refine m_held hf rfl (fun w' _ => x_fieldAddr fo54_0 (hf.eval rfl) w') ?_; clear hf a; intro a hf
  refine m_read hf rfl (x_load sc3 (hf.eval rfl) (by apply hs.cell <;> repeat constructor)) ?_; clear hf a; intro a hf
  refine m_held hf rfl (fun w' _ => x_fieldAddr fo54_1 (hf.eval rfl) w') ?_; clear hf a; intro a hf
  refine m_read hf rfl (x_load sc22 (hf.eval rfl) (by apply hs.cell <;> repeat constructor)) ?_; clear hf a; intro a hf
  replace hs := hs.take (A := diskA 85 127 5 3 D t) (by repeat constructor)
  refine m_eff hf rfl (y_call (hf.eval rfl) (hf.evals rfl) Tryz.call82 ((dWrite_spec _ _ _ D t hs ws[i].1 ws[i].2.1 ws[i].2.2.1 ws[i].2.2.2 (hgi.1.more [_, _]) (by have := hgi.2; omega) hto (by have := htb.calls; omega) (by have := htb.pcs; omega) (by have := htb.sizes; omega)).mono ?_))
  rintro e w1 ⟨rfl, hs⟩
  rw [← co_wr] at hs ⊢
  refine ⟨_, rfl, ⟨trivial, ?_⟩⟩; clear hf a; intro a hf
  refine m_held hf rfl (fun w' _ => x_assign (hf.eval rfl) w') ?_; clear hf a; intro a hf
  refine m_nil ?_
  refine then_n (wp_seq (wp_region_lit ?_))
  refine s_m hf rfl ?_; clear hf a; intro a hf
  refine s_v hf (x_bin (hf.eval rfl) (hf.eval rfl) (r_ne _ _ _ _)) ?_; clear hf a; intro a hf
  refine s_nil (then_n ?_)
  refine c_cond hf rfl (fun hi1 => ?_) (fun hi1 => ?_)
  ·first | simp only [zd1, zd2, zd3, zd4, ne_eq, Classical.not_not] at hi1 | skip
   skip
   refine wp_seq (wp_region_lit ?_)
   refine s_m hf rfl ?_; clear hf a; intro a hf
   refine s_a hf rfl ?_; clear hf a; intro a hf
   refine s_nil (then_n ?_)
   refine wp_ret ?_
   refine blk_r (then_r (then_r (blk_r (then_r ?_))))
   refine r_1 hf Tryz.results46 rfl ?_
   have hsp := wrsU_split (ws := ws) (i := i + 1) (by omega)
   rw [hsp, List.append_assoc, runS_stop (by rw [hsn]; exact hi1), hsn]
   exact ⟨rfl, (hs.lose (A := cb b7 54 (wF ws[i])) (by repeat constructor)).take (by repeat constructor)⟩
  first | simp only [zd1, zd2, zd3, zd4, ne_eq, Classical.not_not] at hi1 | skip
  refine wp_skip (blk_n (then_n (wp_region_lit ?_)))
  replace hs := (hs.lose (A := cb b7 54 (wF ws[i])) (by repeat constructor)).take (A := cb p 113 (runF (.pointer (some ⟨D, 0, none⟩)) old size (.slice (some aw) ws.length cw) q0 bv bp se fi)) (by repeat constructor)
  refine s_v hf (x_bin (hf.eval rfl) (hf.eval rfl) (r_addi _ (by omega) (by omega))) ?_; clear hf a; intro a hf
  refine s_m hf rfl ?_; clear hf a; intro a hf
  refine s_nil ?_
  exact ⟨_, _, ⟨i + 1, (coS t (2, ws[i].1, ws[i].2.2.2)).2, rfl, rfl, by omega, by rw [hsn]; exact hi1, by rw [hsn], hs⟩, by omega, hf.sub ⟨rfl, rfl, rfl, rfl, trivial⟩⟩
 simp only [zd1, zd2, zd3, zd4, zd5, zd6, zd7] at hi0
 refine wp_exit (then_x (then_x (blk_x (then_n (wp_seq (wp_region_lit ?_))))))
 refine s_m hf rfl ?_; clear hf a; intro a hf
 refine s_v hf (x_nilCheck (hf.eval rfl)) ?_; clear hf a; intro a hf
 refine s_v hf (x_fieldAddr fo113_0 (hf.eval rfl)) ?_; clear hf a; intro a hf
 refine s_r hf (x_load sc24 (hf.eval rfl) (by apply hs.cell <;> repeat constructor)) ?_; clear hf a; intro a hf
 obtain rfl : i = ws.length := by omega
 rw [List.take_length] at hr0 ht
 replace hs := hs.take (A := diskA 85 127 5 3 D t) (by repeat constructor)
 refine s_do hf rfl (y_call (hf.eval rfl) (hf.evals rfl) Tryz.call11 ((dSync_spec _ _ _ D t hs hto (by have := htb.calls; omega) (by have := htb.pcs; omega) (by have := htb.sizes; omega)).mono ?_))
 rintro e w1 ⟨rfl, hs⟩
 rw [← co_sy] at hs ⊢
 refine ⟨_, rfl, ?_⟩; clear hf a; intro a hf
 refine s_a hf rfl ?_; clear hf a; intro a hf
 refine s_nil (then_n ?_)
 refine wp_ret ?_
 refine r_1 hf Tryz.results46 rfl ?_
 rw [runS_snoc hr0, ← ht]
 exact ⟨rfl, hs.take (by repeat constructor)⟩
theorem RdyS.more {α : Type} {f : α → List Value} {sz : Nat} {σ : Sig} {R : List Asrt} {v : Value} {l : List α} (h : RdyS f sz σ R v l) (A : List Asrt) : RdyS f sz σ (A ++ R) v l := fun w L hs => h w (L ++ A) (by rw [List.append_assoc]; exact hs)
theorem take_flat {α : Type} {b : List (List α)} {i : Nat} (h : i < b.length) : (b.take (i + 1)).flatten = (b.take i).flatten ++ b[i] := by
  rw [List.take_succ_eq_append_getElem h, List.flatten_append]; simp
theorem flat_split {α : Type} (b : List (List α)) (i : Nat) : b.flatten = (b.take i).flatten ++ (b.drop i).flatten := by
  rw [← List.flatten_append, List.take_append_drop]
theorem steps_all (w0 : World) (pv : Value) (fs : List Nat) (bs : List (List COp)) (hlb : fs.length = bs.length) (a1 : Option Addr) (c1 : Nat) (F : DS → World → Prop) (s : DS) (k : Nat) (hfs : fs.length ≤ 1000) (hrd : ∀ t w, F t w → RdC (hp w) (.slice a1 fs.length c1) 1 fs.length (fs.map (fnV pv))) (hcall : ∀ f ∈ fs, ∀ vs w, (callFunc f vs).run Tryz.prog w = .ok (.enter f vs) w)
    (hstep : ∀ i (hi : i < fs.length) (hi2 : i < bs.length) t w, F t w → DOk t → DB t (k + bs.flatten.length) → Calls Tryz.prog fs[i] #[pv] w fun e w' => e = .returned (.int .i64 (runS t bs[i]).1) ∧ F (runS t bs[i]).2 w') (h0 : F s w0) (ho : DOk s) (hb : DB s k) :
    Calls Tryz.prog 42 #[.slice a1 fs.length c1] w0 fun e w' => e = .returned (.int .i64 (runS s bs.flatten).1) ∧ F (runS s bs.flatten).2 w' := by
  refine (all_spec w0 pv fs a1 c1 (fun i w => (runS s (bs.take i).flatten).1 = 0 ∧ F (runS s (bs.take i).flatten).2 w) (fun r w => r = (runS s bs.flatten).1 ∧ F (runS s bs.flatten).2 w) hfs (fun i w _ h => hrd _ w h.2) hcall (fun i hi w h => ?_) ⟨rfl, h0⟩).mono fun e w' ⟨r, he, h1, h2⟩ => ?_
  · have hi2 : i < bs.length := by omega
    have hb9 := runS_b (bs.take i).flatten ho hb
    have hle : (bs.take i).flatten.length ≤ bs.flatten.length := by rw [flat_split bs i, List.length_append]; omega
    refine (hstep i hi hi2 _ w h.2 (runS_ok _ ho) (hb9.up (by omega))).mono fun e w' ⟨he, hF⟩ => ⟨_, he, fun hz => ?_, fun hz => ?_⟩
    · rw [take_flat hi2, runS_go h.1]; exact ⟨hz, hF⟩
    · have e9 : runS s bs.flatten = runS (runS s (bs.take i).flatten).2 bs[i] := by
        rw [flat_split bs (i + 1), take_flat hi2, List.append_assoc, runS_go h.1, runS_stop hz]
      rw [e9]; exact ⟨rfl, hF⟩
  · by_cases hr : r = 0
    · have h9 := h1 hr
      rw [hlb, List.take_length] at h9
      exact ⟨by rw [he, h9.1, hr], h9.2⟩
    · have h9 := h2 hr
      exact ⟨by rw [he, h9.1], h9.2⟩
end Go.Proofs.YtehakfbfjpolfaaGreatDoor

namespace Go.Proofs.YtehakfbfjpolfaaGreatDoor
open Go Vw
theorem newCursor_spec (w : World) (a : Option Addr) (c : Nat) (data : List UInt8) (hr : RdB (hp w) (.slice a data.length c) data) (hl : data.length ≤ 140737488351232) :
    Calls Tryz.prog 122 #[.slice a data.length c] w fun e w' => ∃ p, e = .returned (.pointer (some ⟨p, 0, none⟩)) ∧ St ⟨w, None_⟩ w' [curA 179 5 p data 0 0] := by
 have hs := (St.start w None_).emp (slB_nil 5)
 refine c_enter (N := 7) Tryz.func122 rfl Tryz.ntmps122 (by simp) ?_
 intro a hf
 refine wp_seq (wp_region_lit ?_)
 refine s_a hf rfl ?_; clear hf a; intro a hf
 refine s_nil (then_n (wp_seq (wp_region_lit ?_)))
 refine s_m hf rfl ?_; clear hf a; intro a hf
 refine s_do hf rfl (y_appendB (s := data) hs sl22 rfl (hf.eval rfl) (hf.eval rfl) .k0 (hs.oldB hr) (by simp; omega) ?_); clear hf hs a; intro v w hs hv a hf
 simp only [List.nil_append] at hs
 obtain ⟨a1, c1, rfl, hc1⟩ := slB_shape hs
 refine s_r hf (x_build (v := .agg #[.slice a1 data.length c1, .int .i64 0, .int .i64 0]) (hf.parts rfl) (fun w => by kernel_rfl) _) ?_; clear hf a; intro a hf
 refine s_do hf rfl (y_box hs (hf.eval rfl) ?_); clear hf hs a; intro b w hs a hf
 change St _ _ (cb b 179 [.slice a1 data.length c1, .int .i64 (0 : Nat), .int .i64 0] :: _) at hs
 refine s_a hf rfl ?_; clear hf a; intro a hf
 refine s_nil (then_n ?_)
 refine wp_ret ?_
 refine r_1 hf Tryz.results122 rfl ?_
 exact ⟨b, rfl, curA_close hs⟩
theorem next_spec (σ : Sig) (w : World) (R : List Asrt) (p : Nat) (data : List UInt8) (at_ : Nat) (bad : Int) (n : Int) (hs : St σ w (curA 179 5 p data at_ bad :: R)) (hp0 : at_ ≤ data.length) (hl : data.length ≤ 140737488355328) (hn : n ≤ 9223372036854775807) :
    Calls Tryz.prog 132 #[.pointer (some ⟨p, 0, none⟩), .int .i64 n] w fun e w' => ∃ a c, e = .returned (.slice a (nextC data.length at_ bad n).2.2 c) ∧
      RdB (hp w') (.slice a (nextC data.length at_ bad n).2.2 c) ((data.drop at_).take (nextC data.length at_ bad n).2.2) ∧ St σ w' (curA 179 5 p data (nextC data.length at_ bad n).1 (nextC data.length at_ bad n).2.1 :: R) := by
 obtain ⟨v0, hs⟩ := curA_open hs
 obtain ⟨a0, c0, rfl, hc0⟩ := slB_shape (hs.take .k1)
 refine c_enter (N := 59) Tryz.func132 rfl Tryz.ntmps132 (by simp) ?_
 intro a hf
 refine wp_seq (wp_region_lit ?_)
 refine s_a hf rfl ?_; clear hf a; intro a hf
 refine s_nil (then_n (wp_seq (wp_seq (wp_region_lit ?_))))
 refine s_m hf rfl ?_; clear hf a; intro a hf
 refine s_v hf (x_eqNil Tryz.underlying171 (hf.eval rfl) (hf.eval rfl)) ?_; clear hf a; intro a hf
 replace hf := hf.now (k := 7) (v' := .bool false) rfl rfl
 refine s_m hf rfl ?_; clear hf a; intro a hf
 refine s_do hf (wanted_of hf rfl rfl rfl) (.value (x_move (hf.eval rfl) _) ?_); clear hf a; intro a hf
 refine s_do hf (wanted_of hf rfl rfl rfl) (.value (x_nilCheck (hf.eval rfl) _) ?_); clear hf a; intro a hf
 refine s_do hf (wanted_of hf rfl rfl rfl) (.value (x_fieldAddr fo179_2 (hf.eval rfl) _) ?_); clear hf a; intro a hf
 refine s_do hf (wanted_of hf rfl rfl rfl) (.value (x_load sc25 (hf.eval rfl) (by apply hs.cell <;> repeat constructor)) ?_); clear hf a; intro a hf
 refine s_do hf (wanted_of hf rfl rfl rfl) (.value (x_bin (hf.eval rfl) (hf.eval rfl) (r_ne _ _ _ _) _) ?_); clear hf a; intro a hf
 refine s_v hf (x_pick_f (hf.eval rfl) (hf.eval rfl)) ?_; clear hf a; intro a hf
 refine s_nil (then_n ?_)
 refine c_cond hf rfl (fun hi0 => ?_) (fun hi0 => ?_)
 ·simp only [zd1, zd2, zd3, zd4, zd5, zd6, zd7] at hi0
  refine wp_seq (wp_region_lit ?_)
  refine s_a hf rfl ?_; clear hf a; intro a hf
  refine s_nil (then_n ?_)
  refine wp_ret ?_
  refine then_r ?_
  refine r_1 hf Tryz.results132 rfl ?_
  have hN : nextC data.length at_ bad n = (at_, bad, 0) := by simp [nextC, hi0]
  rw [hN]
  exact ⟨none, 0, rfl, rdB_nil (by simp), curA_close hs⟩
 simp only [zd1, zd2, zd3, zd4, zd5, zd6, zd7] at hi0
 have hb : bad = 0 := by simpa using hi0
 refine wp_skip (then_n (wp_seq (wp_seq (wp_region_lit ?_))))
 refine s_m hf rfl ?_; clear hf a; intro a hf
 refine s_v hf (x_bin (hf.eval rfl) (hf.eval rfl) (r_lt _ _ _ _)) ?_; clear hf a; intro a hf
 refine s_nil (then_n ?_)
 refine c_cond hf rfl (fun hi1 => ?_) (fun hi1 => ?_)
 ·simp only [zd1, zd2, zd3, zd4, zd5, zd6, zd7] at hi1
  refine wp_seq (wp_region_lit ?_)
  refine s_m hf rfl ?_; clear hf a; intro a hf
  refine s_v hf (x_nilCheck (hf.eval rfl)) ?_; clear hf a; intro a hf
  refine s_v hf (x_fieldAddr fo179_2 (hf.eval rfl)) ?_; clear hf a; intro a hf
  refine s_do0 hf rfl (y_store hs sc25 (hf.eval rfl) (hf.eval rfl) rfl (by repeat constructor) (by simp) ?_); clear hf hs a; intro w hs a hf
  refine s_nil (then_n (wp_seq (wp_region_lit ?_)))
  refine s_a hf rfl ?_; clear hf a; intro a hf
  refine s_nil (then_n ?_)
  refine wp_ret ?_
  refine then_r ?_
  refine r_1 hf Tryz.results132 rfl ?_
  have hN : nextC data.length at_ bad n = (at_, 1, 0) := by simp [nextC, hb, hi1]
  rw [hN]
  exact ⟨none, 0, rfl, rdB_nil (by simp), curA_close hs⟩
 simp only [zd1, zd2, zd3, zd4, zd5, zd6, zd7] at hi1
 obtain ⟨m, rfl⟩ := Int.eq_ofNat_of_zero_le hi1
 refine wp_skip (then_n (wp_seq (wp_seq ?_)))
 refine c_draw hs (fun _ => True) [.held, .held, .held, .held, .read, .held, .held, .held, .held, .read, .held, .held] (by kernel_rfl) (by kernel_rfl) (fun _ _ _ => trivial) ?_
 clear hs; intro w hs hC hw
 refine m_held hf rfl (fun w' _ => x_move (hf.eval rfl) w') ?_; clear hf a; intro a hf
 refine m_held hf rfl (fun w' _ => x_move (hf.eval rfl) w') ?_; clear hf a; intro a hf
 refine m_held hf rfl (fun w' _ => x_nilCheck (hf.eval rfl) w') ?_; clear hf a; intro a hf
 refine m_held hf rfl (fun w' _ => x_fieldAddr fo179_0 (hf.eval rfl) w') ?_; clear hf a; intro a hf
 refine m_read hf rfl (x_load sc22 (hf.eval rfl) (by apply hs.cell <;> repeat constructor)) ?_; clear hf a; intro a hf
 refine m_held hf rfl (fun w' _ => x_len Tryz.underlying22 (hf.eval rfl) w') ?_; clear hf a; intro a hf
 refine m_held hf rfl (fun w' _ => x_move (hf.eval rfl) w') ?_; clear hf a; intro a hf
 refine m_held hf rfl (fun w' _ => x_nilCheck (hf.eval rfl) w') ?_; clear hf a; intro a hf
 refine m_held hf rfl (fun w' _ => x_fieldAddr fo179_1 (hf.eval rfl) w') ?_; clear hf a; intro a hf
 refine m_read hf rfl (x_load sc3 (hf.eval rfl) (by apply hs.cell <;> repeat constructor)) ?_; clear hf a; intro a hf
 refine m_held hf rfl (fun w' _ => x_bin (hf.eval rfl) (hf.eval rfl) (r_subi _ (by omega) (by omega)) w') ?_; clear hf a; intro a hf
 refine m_held hf rfl (fun w' _ => x_bin (hf.eval rfl) (hf.eval rfl) (r_gt _ _ _ _) w') ?_; clear hf a; intro a hf
 refine m_nil ?_
 refine then_n ?_
 refine c_cond hf rfl (fun hi2 => ?_) (fun hi2 => ?_)
 ·simp only [zd1, zd2, zd3, zd4, zd5, zd6, zd7] at hi2
  refine wp_seq (wp_region_lit ?_)
  refine s_m hf rfl ?_; clear hf a; intro a hf
  refine s_v hf (x_nilCheck (hf.eval rfl)) ?_; clear hf a; intro a hf
  refine s_v hf (x_fieldAddr fo179_2 (hf.eval rfl)) ?_; clear hf a; intro a hf
  refine s_do0 hf rfl (y_store hs sc25 (hf.eval rfl) (hf.eval rfl) rfl (by repeat constructor) (by simp) ?_); clear hf hs a; intro w hs a hf
  refine s_nil (then_n (wp_seq (wp_region_lit ?_)))
  refine s_a hf rfl ?_; clear hf a; intro a hf
  refine s_nil (then_n ?_)
  refine wp_ret ?_
  refine then_r ?_
  refine r_1 hf Tryz.results132 rfl ?_
  have hN : nextC data.length at_ bad m = (at_, 20, 0) := by subst hb; unfold nextC; simp only [ne_eq, not_true_eq_false, if_false]; rw [if_neg (by omega), if_pos hi2]
  rw [hN]
  exact ⟨none, 0, rfl, rdB_nil (by simp), curA_close hs⟩
 simp only [zd1, zd2, zd3, zd4, zd5, zd6, zd7] at hi2
 refine wp_skip (then_n (wp_seq ?_))
 refine c_draw hs (fun _ => True) [.held, .held, .held, .read, .held, .held, .held, .read, .held, .held, .held, .read, .held, .held, .held, .held] (by kernel_rfl) (by kernel_rfl) (fun _ _ _ => trivial) ?_
 clear hs; intro w hs hC hw
 refine m_held hf rfl (fun w' _ => x_move (hf.eval rfl) w') ?_; clear hf a; intro a hf
 refine m_held hf rfl (fun w' _ => x_nilCheck (hf.eval rfl) w') ?_; clear hf a; intro a hf
 refine m_held hf rfl (fun w' _ => x_fieldAddr fo179_0 (hf.eval rfl) w') ?_; clear hf a; intro a hf
 refine m_read hf rfl (x_load sc22 (hf.eval rfl) (by apply hs.cell <;> repeat constructor)) ?_; clear hf a; intro a hf
 refine m_held hf rfl (fun w' _ => x_move (hf.eval rfl) w') ?_; clear hf a; intro a hf
 refine m_held hf rfl (fun w' _ => x_nilCheck (hf.eval rfl) w') ?_; clear hf a; intro a hf
 refine m_held hf rfl (fun w' _ => x_fieldAddr fo179_1 (hf.eval rfl) w') ?_; clear hf a; intro a hf
 refine m_read hf rfl (x_load sc3 (hf.eval rfl) (by apply hs.cell <;> repeat constructor)) ?_; clear hf a; intro a hf
 refine m_held hf rfl (fun w' _ => x_move (hf.eval rfl) w') ?_; clear hf a; intro a hf
 refine m_held hf rfl (fun w' _ => x_nilCheck (hf.eval rfl) w') ?_; clear hf a; intro a hf
 refine m_held hf rfl (fun w' _ => x_fieldAddr fo179_1 (hf.eval rfl) w') ?_; clear hf a; intro a hf
 refine m_read hf rfl (x_load sc3 (hf.eval rfl) (by apply hs.cell <;> repeat constructor)) ?_; clear hf a; intro a hf
 refine m_held hf rfl (fun w' _ => x_move (hf.eval rfl) w') ?_; clear hf a; intro a hf
 refine m_held hf rfl (fun w' _ => x_bin (hf.eval rfl) (hf.eval rfl) (r_addi _ (by omega) (by omega)) w') ?_; clear hf a; intro a hf
 refine m_held hf rfl (fun w' _ => x_slice sl22 (hf.eval rfl) (hf.eval rfl) (hf.eval rfl)  (by omega) (by omega) (by omega)  w') ?_; clear hf a; intro a hf
 replace hf := hf.now (k := 49) (v' := .slice (subA a0 c0 at_ 1) m (c0 - at_)) rfl (by rw [show (((at_ : Int) + (m : Int)).toNat - (at_ : Int).toNat) = m by omega, show (at_ : Int).toNat = at_ by omega])
 refine m_held hf rfl (fun w' _ => x_assign (hf.eval rfl) w') ?_; clear hf a; intro a hf
 refine m_nil ?_
 refine then_n (wp_seq (wp_region_lit ?_))
 refine s_m hf rfl ?_; clear hf a; intro a hf
 refine s_v hf (x_nilCheck (hf.eval rfl)) ?_; clear hf a; intro a hf
 refine s_v hf (x_fieldAddr fo179_1 (hf.eval rfl)) ?_; clear hf a; intro a hf
 refine s_r hf (x_load sc3 (hf.eval rfl) (by apply hs.cell <;> repeat constructor)) ?_; clear hf a; intro a hf
 refine s_m hf rfl ?_; clear hf a; intro a hf
 refine s_v hf (x_bin (hf.eval rfl) (hf.eval rfl) (r_addi _ (by omega) (by omega))) ?_; clear hf a; intro a hf
 refine s_v hf (x_nilCheck (hf.eval rfl)) ?_; clear hf a; intro a hf
 refine s_v hf (x_fieldAddr fo179_1 (hf.eval rfl)) ?_; clear hf a; intro a hf
 refine s_do0 hf rfl (y_store hs sc3 (hf.eval rfl) (hf.eval rfl) rfl (by repeat constructor) (by simp) ?_); clear hf hs a; intro w hs a hf
 have hrd : RdB (hp w) (.slice a0 data.length c0) data := hs.rdB .k1 fun h => slB_rd
 refine s_nil (then_n (wp_seq (wp_region_lit ?_)))
 refine s_m hf rfl ?_; clear hf a; intro a hf
 refine s_a hf rfl ?_; clear hf a; intro a hf
 refine s_nil (then_n ?_)
 refine wp_ret ?_
 refine r_1 hf Tryz.results132 rfl ?_
 have hN : nextC data.length at_ bad m = (at_ + m, 0, m) := by subst hb; unfold nextC; simp only [ne_eq, not_true_eq_false, if_false]; rw [if_neg (by omega), if_neg (by omega)]; rfl
 rw [hN]
 subst hb
 exact ⟨_, _, rfl, RdB.sub (i := at_) (j := at_ + m) hrd rfl (by omega) (by omega) |> (fun h => by simpa using h), curA_close hs⟩
theorem skip_spec (σ : Sig) (w : World) (R : List Asrt) (p : Nat) (data : List UInt8) (at_ : Nat) (bad : Int) (n : Int) (hs : St σ w (curA 179 5 p data at_ bad :: R)) (hp0 : at_ ≤ data.length) (hl : data.length ≤ 140737488355328) (hn : n ≤ 9223372036854775807) :
    Calls Tryz.prog 123 #[.pointer (some ⟨p, 0, none⟩), .int .i64 n] w fun e w' => e = .returned (.tuple #[]) ∧ St σ w' (curA 179 5 p data (nextC data.length at_ bad n).1 (nextC data.length at_ bad n).2.1 :: R) := by
 refine c_enter (N := 7) Tryz.func123 rfl Tryz.ntmps123 (by simp) ?_
 intro a hf
 refine wp_region_lit ?_
 refine s_m hf rfl ?_; clear hf a; intro a hf
 refine s_m hf rfl ?_; clear hf a; intro a hf
 refine s_do hf rfl (y_call (hf.eval rfl) (hf.evals rfl) Tryz.call132 ((next_spec σ w R p data at_ bad n hs hp0 hl hn).mono ?_))
 rintro e w1 ⟨a1, c1, rfl, hr, hs⟩
 refine ⟨_, rfl, ?_⟩; clear hf a; intro a hf
 refine s_nil ?_
 refine r_0n hf Tryz.results123 ?_
 exact ⟨rfl, hs⟩
theorem left_spec (σ : Sig) (w : World) (R : List Asrt) (p : Nat) (data : List UInt8) (at_ : Nat) (bad : Int) (hs : St σ w (curA 179 5 p data at_ bad :: R)) (hp0 : at_ ≤ data.length) (hl : data.length ≤ 140737488355328) :
    Calls Tryz.prog 128 #[.pointer (some ⟨p, 0, none⟩)] w fun e w' => e = .returned (.int .i64 ((data.length : Int) - at_)) ∧ St σ w' (curA 179 5 p data at_ bad :: R) := by
 obtain ⟨v0, hs⟩ := curA_open hs
 obtain ⟨a0, c0, rfl, hc0⟩ := slB_shape (hs.take .k1)
 refine c_enter (N := 15) Tryz.func128 rfl Tryz.ntmps128 (by simp) ?_
 intro a hf
 refine wp_seq (wp_region_lit ?_)
 refine s_a hf rfl ?_; clear hf a; intro a hf
 refine s_nil (then_n (wp_seq (wp_seq (wp_region_lit ?_))))
 refine s_m hf rfl ?_; clear hf a; intro a hf
 refine s_v hf (x_eqNil Tryz.underlying171 (hf.eval rfl) (hf.eval rfl)) ?_; clear hf a; intro a hf
 replace hf := hf.now (k := 4) (v' := .bool false) rfl rfl
 refine s_nil (then_n ?_)
 refine c_cond_f hf rfl rfl ?_
 refine wp_skip (then_n (wp_seq ?_))
 refine c_draw hs (fun _ => True) [.held, .held, .held, .read, .held, .held, .held, .held, .read, .held, .held] (by kernel_rfl) (by kernel_rfl) (fun _ _ _ => trivial) ?_
 clear hs; intro w hs hC hw
 refine m_held hf rfl (fun w' _ => x_move (hf.eval rfl) w') ?_; clear hf a; intro a hf
 refine m_held hf rfl (fun w' _ => x_nilCheck (hf.eval rfl) w') ?_; clear hf a; intro a hf
 refine m_held hf rfl (fun w' _ => x_fieldAddr fo179_0 (hf.eval rfl) w') ?_; clear hf a; intro a hf
 refine m_read hf rfl (x_load sc22 (hf.eval rfl) (by apply hs.cell <;> repeat constructor)) ?_; clear hf a; intro a hf
 refine m_held hf rfl (fun w' _ => x_len Tryz.underlying22 (hf.eval rfl) w') ?_; clear hf a; intro a hf
 refine m_held hf rfl (fun w' _ => x_move (hf.eval rfl) w') ?_; clear hf a; intro a hf
 refine m_held hf rfl (fun w' _ => x_nilCheck (hf.eval rfl) w') ?_; clear hf a; intro a hf
 refine m_held hf rfl (fun w' _ => x_fieldAddr fo179_1 (hf.eval rfl) w') ?_; clear hf a; intro a hf
 refine m_read hf rfl (x_load sc3 (hf.eval rfl) (by apply hs.cell <;> repeat constructor)) ?_; clear hf a; intro a hf
 refine m_held hf rfl (fun w' _ => x_bin (hf.eval rfl) (hf.eval rfl) (r_subi _ (by omega) (by omega)) w') ?_; clear hf a; intro a hf
 refine m_held hf rfl (fun w' _ => x_assign (hf.eval rfl) w') ?_; clear hf a; intro a hf
 refine m_nil ?_
 refine then_n ?_
 refine wp_ret ?_
 refine r_1 hf Tryz.results128 rfl ?_
 exact ⟨rfl, curA_close hs⟩
theorem err_spec (σ : Sig) (w : World) (R : List Asrt) (p : Nat) (data : List UInt8) (at_ : Nat) (bad : Int) (hs : St σ w (curA 179 5 p data at_ bad :: R)) (hp0 : at_ ≤ data.length) (hl : data.length ≤ 140737488355328) :
    Calls Tryz.prog 125 #[.pointer (some ⟨p, 0, none⟩)] w fun e w' => e = .returned (.int .i64 bad) ∧ St σ w' (curA 179 5 p data at_ bad :: R) := by
 obtain ⟨v0, hs⟩ := curA_open hs
 obtain ⟨a0, c0, rfl, hc0⟩ := slB_shape (hs.take .k1)
 refine c_enter (N := 9) Tryz.func125 rfl Tryz.ntmps125 (by simp) ?_
 intro a hf
 refine wp_seq (wp_region_lit ?_)
 refine s_a hf rfl ?_; clear hf a; intro a hf
 refine s_nil (then_n (wp_seq (wp_seq (wp_region_lit ?_))))
 refine s_m hf rfl ?_; clear hf a; intro a hf
 refine s_v hf (x_eqNil Tryz.underlying171 (hf.eval rfl) (hf.eval rfl)) ?_; clear hf a; intro a hf
 replace hf := hf.now (k := 4) (v' := .bool false) rfl rfl
 refine s_nil (then_n ?_)
 refine c_cond_f hf rfl rfl ?_
 refine wp_skip (then_n (wp_seq (wp_region_lit ?_)))
 refine s_m hf rfl ?_; clear hf a; intro a hf
 refine s_v hf (x_nilCheck (hf.eval rfl)) ?_; clear hf a; intro a hf
 refine s_v hf (x_fieldAddr fo179_2 (hf.eval rfl)) ?_; clear hf a; intro a hf
 refine s_r hf (x_load sc25 (hf.eval rfl) (by apply hs.cell <;> repeat constructor)) ?_; clear hf a; intro a hf
 refine s_a hf rfl ?_; clear hf a; intro a hf
 refine s_nil (then_n ?_)
 refine wp_ret ?_
 refine r_1 hf Tryz.results125 rfl ?_
 exact ⟨rfl, curA_close hs⟩
theorem number_spec (σ : Sig) (w : World) (R : List Asrt) (p : Nat) (data : List UInt8) (at_ : Nat) (bad : Int) (n : Nat) (hs : St σ w (curA 179 5 p data at_ bad :: R)) (hp0 : at_ ≤ data.length) (hl : data.length ≤ 140737488355328) (hn : n ≤ 4) :
    Calls Tryz.prog 133 #[.pointer (some ⟨p, 0, none⟩), .int .i64 (n : Int)] w fun e w' => e = .returned (.int .i64 ((leN ((data.drop at_).take (nextC data.length at_ bad n).2.2) : Nat) : Int)) ∧ St σ w' (curA 179 5 p data (nextC data.length at_ bad n).1 (nextC data.length at_ bad n).2.1 :: R) := by
 refine c_enter (N := 27) Tryz.func133 rfl Tryz.ntmps133 (by simp) ?_
 intro a hf
 refine wp_seq (wp_region_lit ?_)
 refine s_a hf rfl ?_; clear hf a; intro a hf
 refine s_nil (then_n (wp_seq (wp_region_lit ?_)))
 refine s_m hf rfl ?_; clear hf a; intro a hf
 refine s_m hf rfl ?_; clear hf a; intro a hf
 refine s_do hf rfl (y_call (hf.eval rfl) (hf.evals rfl) Tryz.call132 ((next_spec σ w R p data at_ bad n hs hp0 hl (by omega)).mono ?_))
 rintro e w1 ⟨a1, c1, rfl, hr, hs⟩
 have hlen : ((data.drop at_).take (nextC data.length at_ bad n).2.2).length = (nextC data.length at_ bad n).2.2 := by obtain ⟨_, _, e⟩ := hr.shape; injection e with _ e _; exact e.symm
 have hle4 := nextC_take (len := data.length) (at_ := at_) bad n 4 hn
 generalize hk : (nextC data.length at_ bad n).2.2 = k at hr hlen hle4 ⊢
 generalize (data.drop at_).take k = l at hr hlen ⊢
 subst hlen
 clear hk
 rename World => w1
 refine ⟨_, rfl, ?_⟩; clear hf a; intro a hf
 refine s_a hf rfl ?_; clear hf a; intro a hf
 refine s_nil (then_n (wp_seq (wp_region_lit ?_)))
 refine s_a hf rfl ?_; clear hf a; intro a hf
 refine s_nil (then_n (wp_seq (wp_seq (wp_region_lit ?_))))
 refine s_m hf rfl ?_; clear hf a; intro a hf
 refine s_v hf (x_len Tryz.underlying22 (hf.eval rfl)) ?_; clear hf a; intro a hf
 refine s_v hf (x_bin (hf.eval rfl) (hf.eval rfl) (r_subi _ (by omega) (by omega))) ?_; clear hf a; intro a hf
 refine s_a hf rfl ?_; clear hf a; intro a hf
 refine s_nil (then_n (wp_block ?_))
 refine c_loop (L0 := [(4, _), (5, _)]) (fun M w m => ∃ j : Nat, M = [(6, .int .i64 ((leN (l.drop j) : Nat) : Int)), (7, .int .i64 ((j : Int) - 1))] ∧ j = m ∧ j ≤ l.length ∧ w = w1) (M0 := [(6, .int .i64 (0 : Nat)), (7, .int .i64 ((l.length : Int) - 1))]) (⟨l.length, by simp [leN], rfl, Nat.le_refl _, rfl⟩) (hf.sub ⟨rfl, rfl, rfl, rfl, trivial⟩) ?_
 clear hf a
 rintro M m a w ⟨j, rfl, rfl, hj, rfl⟩ hf
 refine wp_seq (wp_seq (wp_region_lit ?_))
 refine s_m hf rfl ?_; clear hf a; intro a hf
 refine s_v hf (x_bin (hf.eval rfl) (hf.eval rfl) (r_ge _ _ _ _)) ?_; clear hf a; intro a hf
 refine s_nil (then_n ?_)
 refine c_cond hf rfl (fun hi0 => ?_) (fun hi0 => ?_)
 ·simp only [zd1, zd2, zd3, zd4, zd5, zd6, zd7] at hi0
  obtain ⟨j, rfl⟩ : ∃ i, j = i + 1 := ⟨j - 1, by omega⟩
  obtain ⟨a2, rfl⟩ := hr.some (by omega)
  have hb := leN_lt3 (l := l.drop (j + 1)) (by simp; omega)
  have hj2 : ((j + 1 : Nat) : Int) - 1 = j := by omega
  rw [hj2] at hf
  refine wp_skip (then_n (wp_seq (wp_block (wp_region_lit ?_))))
  refine s_m hf rfl ?_; clear hf a; intro a hf
  refine s_v hf (x_bin (hf.eval rfl) (hf.eval rfl) (r_shl8 _ (by omega) (by omega))) ?_; clear hf a; intro a hf
  refine s_m hf rfl ?_; clear hf a; intro a hf
  refine s_m hf rfl ?_; clear hf a; intro a hf
  refine s_v hf (x_indexAddr sl22 (hf.eval rfl) (hf.eval rfl) (by omega) (by omega)) ?_; clear hf a; intro a hf
  refine s_r hf (x_loadB sc5 hr (hf.eval rfl) (by omega)) ?_; clear hf a; intro a hf
  refine s_v hf (x_convr Tryz.underlying5 Tryz.underlying3 (hf.eval rfl) (wrap_byte _)) ?_; clear hf a; intro a hf
  refine s_v hf (x_bin (hf.eval rfl) (hf.eval rfl) (r_or_i64 _ (x := leN (l.drop (j + 1)) * 256) (y := (l[j]).toNat) (by omega) (by have := toNat_lt l[j]; omega))) ?_; clear hf a; intro a hf
  refine s_a hf rfl ?_; clear hf a; intro a hf
  replace hf := hf.now (k := 6) (v' := .int .i64 ((leN (l.drop j) : Nat) : Int)) rfl (by rw [leN_drop (show j < l.length by omega), or_256 _ _ (toNat_lt _), Nat.mul_comm 256, Nat.add_comm])
  refine s_nil (blk_n (then_n (wp_region_lit ?_)))
  refine s_m hf rfl ?_; clear hf a; intro a hf
  refine s_v hf (x_bin (hf.eval rfl) (hf.eval rfl) (r_subi _ (by omega) (by omega))) ?_; clear hf a; intro a hf
  refine s_a hf rfl ?_; clear hf a; intro a hf
  refine s_nil ?_
  exact ⟨_, _, ⟨j, rfl, rfl, by omega, rfl⟩, by omega, hf.sub ⟨rfl, rfl, rfl, rfl, trivial⟩⟩
 simp only [zd1, zd2, zd3, zd4, zd5, zd6, zd7] at hi0
 refine wp_exit (then_x (then_x (blk_x (then_n (wp_seq (wp_region_lit ?_))))))
 refine s_m hf rfl ?_; clear hf a; intro a hf
 refine s_a hf rfl ?_; clear hf a; intro a hf
 refine s_nil (then_n ?_)
 refine wp_ret ?_
 refine r_1 hf Tryz.results133 rfl ?_
 obtain rfl : j = 0 := by omega
 exact ⟨by simp, hs⟩
theorem u32_spec (σ : Sig) (w : World) (R : List Asrt) (p : Nat) (data : List UInt8) (at_ : Nat) (bad : Int) (hs : St σ w (curA 179 5 p data at_ bad :: R)) (hp0 : at_ ≤ data.length) (hl : data.length ≤ 140737488355328) :
    Calls Tryz.prog 124 #[.pointer (some ⟨p, 0, none⟩)] w fun e w' => e = .returned (.int .i64 ((leN ((data.drop at_).take (nextC data.length at_ bad 4).2.2) : Nat) : Int)) ∧ St σ w' (curA 179 5 p data (nextC data.length at_ bad 4).1 (nextC data.length at_ bad 4).2.1 :: R) := by
 refine c_enter (N := 5) Tryz.func124 rfl Tryz.ntmps124 (by simp) ?_
 intro a hf
 refine wp_seq (wp_region_lit ?_)
 refine s_a hf rfl ?_; clear hf a; intro a hf
 refine s_nil (then_n (wp_seq (wp_region_lit ?_)))
 refine s_m hf rfl ?_; clear hf a; intro a hf
 refine s_do hf rfl (y_call (hf.eval rfl) (hf.evals rfl) Tryz.call133 ((number_spec σ w R p data at_ bad 4 hs hp0 hl (by omega)).mono ?_))
 rintro e w1 ⟨rfl, hs⟩
 refine ⟨_, rfl, ?_⟩; clear hf a; intro a hf
 refine s_a hf rfl ?_; clear hf a; intro a hf
 refine s_nil (then_n ?_)
 refine wp_ret ?_
 refine r_1 hf Tryz.results124 rfl ?_
 exact ⟨rfl, hs⟩
theorem text_spec (σ : Sig) (w : World) (R : List Asrt) (p : Nat) (data : List UInt8) (at_ : Nat) (bad : Int) (n : Int) (hs : St σ w (curA 179 5 p data at_ bad :: R)) (hp0 : at_ ≤ data.length) (hl : data.length ≤ 140737488355328) (hn : n ≤ 9223372036854775807) :
    Calls Tryz.prog 127 #[.pointer (some ⟨p, 0, none⟩), .int .i64 n] w fun e w' => e = .returned (.string ⟨((data.drop at_).take (nextC data.length at_ bad n).2.2).toArray⟩) ∧ St σ w' (curA 179 5 p data (nextC data.length at_ bad n).1 (nextC data.length at_ bad n).2.1 :: R) := by
 refine c_enter (N := 9) Tryz.func127 rfl Tryz.ntmps127 (by simp) ?_
 intro a hf
 refine wp_seq (wp_region_lit ?_)
 refine s_a hf rfl ?_; clear hf a; intro a hf
 refine s_nil (then_n (wp_seq (wp_region_lit ?_)))
 refine s_m hf rfl ?_; clear hf a; intro a hf
 refine s_m hf rfl ?_; clear hf a; intro a hf
 refine s_do hf rfl (y_call (hf.eval rfl) (hf.evals rfl) Tryz.call132 ((next_spec σ w R p data at_ bad n hs hp0 hl hn).mono ?_))
 rintro e w1 ⟨a1, c1, rfl, hr, hs⟩
 refine ⟨_, rfl, ?_⟩; clear hf a; intro a hf
 refine s_r hf (x_bytesStr Tryz.underlying22 Tryz.underlying9 Tryz.underlying5 (hf.eval rfl) hr) ?_; clear hf a; intro a hf
 refine s_a hf rfl ?_; clear hf a; intro a hf
 refine s_nil (then_n ?_)
 refine wp_ret ?_
 refine r_1 hf Tryz.results127 rfl ?_
 exact ⟨rfl, hs⟩
end Go.Proofs.YtehakfbfjpolfaaGreatDoor

namespace Go.Proofs.YtehakfbfjpolfaaGreatDoor
open Go Vw
theorem beq_iff_decide (l m : List UInt8) : (l == m) = decide (l = m) := by
  by_cases h : l = m
  · subst h; simp
  · rw [decide_eq_false h]; exact beq_eq_false_iff_ne.2 h
theorem bequal_spec (w0 : World) (a1 : Option Addr) (c1 : Nat) (l1 : List UInt8) (hr1 : RdB (hp w0) (.slice a1 l1.length c1) l1) (a2 : Option Addr) (c2 : Nat) (l2 : List UInt8) (hr2 : RdB (hp w0) (.slice a2 l2.length c2) l2) : Calls Tryz.prog 126 #[.slice a1 l1.length c1, .slice a2 l2.length c2] w0 fun e w' => e = .returned (.bool (decide (l1 = l2))) ∧ w' = w0 := by
 refine c_enter (N := 10) Tryz.func126 rfl Tryz.ntmps126 (by simp) ?_
 intro a hf
 refine wp_seq (wp_region_lit ?_)
 refine s_a hf rfl ?_; clear hf a; intro a hf
 refine s_nil (then_n (wp_seq (wp_region_lit ?_)))
 refine s_m hf rfl ?_; clear hf a; intro a hf
 refine s_r hf (x_bytesStr Tryz.underlying22 Tryz.underlying9 Tryz.underlying5 (hf.eval rfl) hr1) ?_; clear hf a; intro a hf
 refine s_m hf rfl ?_; clear hf a; intro a hf
 refine s_r hf (x_bytesStr Tryz.underlying22 Tryz.underlying9 Tryz.underlying5 (hf.eval rfl) hr2) ?_; clear hf a; intro a hf
 refine s_v hf (x_strEq (hf.eval rfl) (hf.eval rfl)) ?_; clear hf a; intro a hf
 refine s_a hf rfl ?_; clear hf a; intro a hf
 refine s_nil (then_n ?_)
 refine wp_ret ?_
 refine r_1 hf Tryz.results126 rfl ?_
 exact ⟨by congr 2; rw [bytes_toList, bytes_toList]; exact (beq_iff_decide l1 l2), rfl⟩
theorem decode_big (w0 : World) (hT : Tab 0 (hp w0)) (a1 : Option Addr) (c1 : Nat) (data : List UInt8) (hr1 : RdB (hp w0) (.slice a1 data.length c1) data) (hl1 : data.length ≤ 140737488351232) (h36 : 36 ≤ data.length) : Calls Tryz.prog 112 #[.slice a1 data.length c1] w0 fun e w' => e = .returned (.tuple #[.agg (slF (decV data)).toArray, .int .i64 (decE data)]) ∧ Kept w0 w' None_ := by
 have hs := St.start w0 None_
 refine c_enter (N := 48) Tryz.func112 rfl Tryz.ntmps112 (by simp) ?_
 intro a hf
 refine wp_seq (wp_region_lit ?_)
 refine s_do hf rfl (y_alloc hs Tryz.zeroValue99 ?_); clear hf hs a; intro b2 w hs a hf
 change St _ _ (cb b2 99 (slF zSl) :: _) at hs
 refine s_a hf rfl ?_; clear hf a; intro a hf
 refine s_nil (then_n (wp_seq (wp_region_lit ?_)))
 refine s_m hf rfl ?_; clear hf a; intro a hf
 refine s_do hf rfl (y_call (hf.eval rfl) (hf.evals rfl) Tryz.call122 ((newCursor_spec _ _ _ data (hs.oldB hr1) hl1).mono ?_))
 rintro e w1 ⟨p, rfl, hj⟩
 replace hs := hs.join hj
 simp only [List.cons_append, List.nil_append] at hs
 refine ⟨_, rfl, ?_⟩; clear hf a; intro a hf
 refine s_a hf rfl ?_; clear hf a; intro a hf
 refine s_nil (then_n (wp_seq (wp_region_lit ?_)))
 refine s_m hf rfl ?_; clear hf a; intro a hf
 replace hs := hs.take (A := curA 179 5 p data 0 0) (by repeat constructor)
 refine s_do hf rfl (y_call (hf.eval rfl) (hf.evals rfl) Tryz.call123 ((skip_spec _ _ _ p data 0 0 8 hs (by omega) (by omega) (by omega)).mono ?_))
 rintro e w1 ⟨rfl, hs⟩
 rw [nx8 (by omega)] at hs
 simp only [] at hs
 refine ⟨_, rfl, ?_⟩; clear hf a; intro a hf
 refine s_nil (then_n (wp_seq (wp_region_lit ?_)))
 refine s_m hf rfl ?_; clear hf a; intro a hf
 replace hs := hs.take (A := curA 179 5 p data 8 0) (by repeat constructor)
 refine s_do hf rfl (y_call (hf.eval rfl) (hf.evals rfl) Tryz.call124 ((u32_spec _ _ _ p data 8 0 hs (by omega) (by omega)).mono ?_))
 rintro e w1 ⟨rfl, hs⟩
 rw [nx4 (by omega)] at hs ⊢
 simp only [] at hs ⊢
 change St _ _ (curA 179 5 p data 12 0 :: _) at hs
 refine ⟨_, rfl, ?_⟩; clear hf a; intro a hf
 refine s_m hf rfl ?_; clear hf a; intro a hf
 replace hs := hs.take (A := curA 179 5 p data 12 0) (by repeat constructor)
 refine s_do hf rfl (y_call (hf.eval rfl) (hf.evals rfl) Tryz.call124 ((u32_spec _ _ _ p data 12 0 hs (by omega) (by omega)).mono ?_))
 rintro e w1 ⟨rfl, hs⟩
 rw [nx4 (by omega)] at hs ⊢
 simp only [] at hs ⊢
 change St _ _ (curA 179 5 p data 16 0 :: _) at hs
 refine ⟨_, rfl, ?_⟩; clear hf a; intro a hf
 refine s_m hf rfl ?_; clear hf a; intro a hf
 replace hs := hs.take (A := curA 179 5 p data 16 0) (by repeat constructor)
 refine s_do hf rfl (y_call (hf.eval rfl) (hf.evals rfl) Tryz.call124 ((u32_spec _ _ _ p data 16 0 hs (by omega) (by omega)).mono ?_))
 rintro e w1 ⟨rfl, hs⟩
 rw [nx4 (by omega)] at hs ⊢
 simp only [] at hs ⊢
 change St _ _ (curA 179 5 p data 20 0 :: _) at hs
 refine ⟨_, rfl, ?_⟩; clear hf a; intro a hf
 refine s_m hf rfl ?_; clear hf a; intro a hf
 replace hs := hs.take (A := curA 179 5 p data 20 0) (by repeat constructor)
 refine s_do hf rfl (y_call (hf.eval rfl) (hf.evals rfl) Tryz.call124 ((u32_spec _ _ _ p data 20 0 hs (by omega) (by omega)).mono ?_))
 rintro e w1 ⟨rfl, hs⟩
 rw [nx4 (by omega)] at hs ⊢
 simp only [] at hs ⊢
 change St _ _ (curA 179 5 p data 24 0 :: _) at hs
 refine ⟨_, rfl, ?_⟩; clear hf a; intro a hf
 refine s_m hf rfl ?_; clear hf a; intro a hf
 replace hs := hs.take (A := curA 179 5 p data 24 0) (by repeat constructor)
 refine s_do hf rfl (y_call (hf.eval rfl) (hf.evals rfl) Tryz.call124 ((u32_spec _ _ _ p data 24 0 hs (by omega) (by omega)).mono ?_))
 rintro e w1 ⟨rfl, hs⟩
 rw [nx4 (by omega)] at hs ⊢
 simp only [] at hs ⊢
 change St _ _ (curA 179 5 p data 28 0 :: _) at hs
 refine ⟨_, rfl, ?_⟩; clear hf a; intro a hf
 refine s_m hf rfl ?_; clear hf a; intro a hf
 replace hs := hs.take (A := curA 179 5 p data 28 0) (by repeat constructor)
 refine s_do hf rfl (y_call (hf.eval rfl) (hf.evals rfl) Tryz.call124 ((u32_spec _ _ _ p data 28 0 hs (by omega) (by omega)).mono ?_))
 rintro e w1 ⟨rfl, hs⟩
 rw [nx4 (by omega)] at hs ⊢
 simp only [] at hs ⊢
 change St _ _ (curA 179 5 p data 32 0 :: _) at hs
 refine ⟨_, rfl, ?_⟩; clear hf a; intro a hf
 refine s_m hf rfl ?_; clear hf a; intro a hf
 replace hs := hs.take (A := curA 179 5 p data 32 0) (by repeat constructor)
 refine s_do hf rfl (y_call (hf.eval rfl) (hf.evals rfl) Tryz.call124 ((u32_spec _ _ _ p data 32 0 hs (by omega) (by omega)).mono ?_))
 rintro e w1 ⟨rfl, hs⟩
 rw [nx4 (by omega)] at hs ⊢
 simp only [] at hs ⊢
 change St _ _ (curA 179 5 p data 36 0 :: _) at hs
 refine ⟨_, rfl, ?_⟩; clear hf a; intro a hf
 have hlast : rd32 data 32 < 4294967296 := rd32_lt data 32
 refine s_v hf (x_conv Tryz.underlying3 Tryz.underlying96 (hf.eval rfl)) ?_; clear hf a; intro a hf
 replace hf := hf.now (k := 26) (v' := .int .u32 ((rd32 data 32 : Nat) : Int)) rfl (by rw [wrap_u32]; congr 1; have h9 : leN ((data.drop 32).take 4) < 4294967296 := hlast; show _ = ((leN ((data.drop 32).take 4) : Nat) : Int); omega)
 refine s_r hf (x_build (v := .agg (slF (dsF data : Sl)).toArray) (hf.parts rfl) (fun w => by kernel_rfl) _) ?_; clear hf a; intro a hf
 refine s_do hf rfl (y_alloc hs Tryz.zeroValue99 ?_); clear hf hs a; intro b5 w hs a hf
 change St _ _ (cb b5 99 (slF zSl) :: _) at hs
 refine s_do0 hf rfl (y_storeAgg (cs := slF (dsF data : Sl)) hs (n := 7) (by kernel_rfl) (hf.eval rfl) (hf.eval rfl) (by simp [Value.oneCell', slF]) rfl rfl .k0 ?_); clear hf hs a; intro w hs a hf
 refine s_nil (then_n (wp_seq (wp_region_lit ?_)))
 replace hs := hs.take (A := cb b5 99 (slF (dsF data : Sl))) (by repeat constructor)
 refine s_r hf (x_loadBlk hs ag99 (hf.eval rfl) rfl (by repeat constructor)) ?_; clear hf a; intro a hf
 refine s_do hf rfl (y_call (hf.eval rfl) (hf.evals rfl) Tryz.call108 ((encode_spec _ (hT.kept hs.kept) (dsF data : Sl) (by first | exact rd32_lt data 32 | exact hlast)).mono ?_))
 rintro e w1 ⟨g, cg, rfl, hj⟩
 replace hs := hs.join hj
 simp only [List.cons_append, List.nil_append] at hs
 refine ⟨_, rfl, ?_⟩; clear hf a; intro a hf
 refine s_m hf rfl ?_; clear hf a; intro a hf
 refine s_v hf (x_extract (hf.eval rfl) rfl) ?_; clear hf a; intro a hf
 refine s_v hf (x_extract (hf.eval rfl) rfl) ?_; clear hf a; intro a hf
 refine s_a hf rfl ?_; clear hf a; intro a hf
 refine s_a hf rfl ?_; clear hf a; intro a hf
 refine s_nil (then_n (wp_seq (wp_seq (wp_region_lit ?_))))
 refine s_m hf rfl ?_; clear hf a; intro a hf
 refine s_v hf (x_bin (hf.eval rfl) (hf.eval rfl) (r_ne _ _ _ _)) ?_; clear hf a; intro a hf
 refine s_m hf rfl ?_; clear hf a; intro a hf
 refine s_bool hf (k := 35) rfl (fun hg5_2 hf' => ?_) (fun hg5_2 hf' => ?_)
 ·clear hf
  have hf := hf'
  clear hf'
  first | simp only [zd1, zd2, zd3, zd4] at hg5_2 | skip
  refine s_pass hf rfl rfl ?_; clear hf a; intro a hf
  refine s_pass hf rfl rfl ?_; clear hf a; intro a hf
  refine s_pass hf rfl rfl ?_; clear hf a; intro a hf
  refine s_v hf (x_pick_t (hf.eval rfl) (hf.eval rfl)) ?_; clear hf a; intro a hf
  refine s_m hf rfl ?_; clear hf a; intro a hf
  refine s_pass hf rfl rfl ?_; clear hf a; intro a hf
  refine s_pass hf rfl rfl ?_; clear hf a; intro a hf
  refine s_pass hf rfl rfl ?_; clear hf a; intro a hf
  refine s_pass hf rfl rfl ?_; clear hf a; intro a hf
  refine s_v hf (x_pick_t (hf.eval rfl) (hf.eval rfl)) ?_; clear hf a; intro a hf
  refine s_nil (then_n ?_)
  refine c_cond_t hf rfl rfl ?_
  have hno : decOk data = false := by
    unfold decOk
    by_cases h8 : data.length = 512
    · cases h9 : slOk (dsF data) with
      | false => simp
      | true =>
        obtain ⟨he1, he2⟩ := enc_ok h9
        first
        | exact absurd he1 hg5_2
        | (rw [he2] at hi0; rw [decide_eq_false hi0]; simp)
    · simp [h8]
  refine wp_seq (wp_region_lit ?_)
  refine s_r hf (x_build (v := .agg (slF zSl).toArray) (hf.parts rfl) (fun w => by kernel_rfl) _) ?_; clear hf a; intro a hf
  replace hs := hs.take (A := cb b2 99 (slF zSl)) (by repeat constructor)
  refine s_do0 hf rfl (y_storeAgg (cs := slF zSl) hs (n := 7) (by kernel_rfl) (hf.eval rfl) (hf.eval rfl) (by simp [Value.oneCell', slF]) rfl rfl .k0 ?_); clear hf hs a; intro w hs a hf
  refine s_a hf rfl ?_; clear hf a; intro a hf
  refine s_nil (then_n ?_)
  refine wp_ret ?_
  refine then_r ?_
  refine r_2c hf Tryz.results112 rfl rfl hs ag99 rfl .k0 ?_
  rw [(dec_no hno).1, (dec_no hno).2]
  exact ⟨rfl, hs.kept⟩
 clear hf
 have hf := hf'
 clear hf'
 first | simp only [zd1, zd2, zd3, zd4] at hg5_2 | skip
 refine s_do hf (wanted_of hf rfl rfl rfl) (.value (x_move (hf.eval rfl) _) ?_); clear hf a; intro a hf
 replace hs := hs.take (A := curA 179 5 p data 36 0) (by repeat constructor)
 refine s_do hf (wanted_of hf rfl rfl rfl) (y_call (hf.eval rfl) (hf.evals rfl) Tryz.call125 ((err_spec _ _ _ p data 36 0 hs (by omega) (by omega)).mono ?_))
 rintro e w1 ⟨rfl, hs⟩
 refine ⟨_, rfl, ?_⟩; clear hf a; intro a hf
 refine s_do hf (wanted_of hf rfl rfl rfl) (.value (x_bin (hf.eval rfl) (hf.eval rfl) (r_ne _ _ _ _) _) ?_); clear hf a; intro a hf
 refine s_v hf (x_pick_f (hf.eval rfl) (hf.eval rfl)) ?_; clear hf a; intro a hf
 refine s_m hf rfl ?_; clear hf a; intro a hf
 replace hf := hf.now (k := 40) (v' := .bool false) rfl (congrArg Value.bool rfl)
 refine s_do hf (wanted_of hf rfl rfl rfl) (.value (x_move (hf.eval rfl) _) ?_); clear hf a; intro a hf
 refine s_do hf (wanted_of hf rfl rfl rfl) (.value (x_move (hf.eval rfl) _) ?_); clear hf a; intro a hf
 replace hs := hs.take (A := slB 5 (.slice g (encV (dsF data : Sl)).length cg) (encV (dsF data : Sl))) (by repeat constructor)
 refine s_do hf (wanted_of hf rfl rfl rfl) (y_call (hf.eval rfl) (hf.evals rfl) Tryz.call126 ((bequal_spec _ _ _ (encV (dsF data : Sl)) (hs.rdB .k0 fun h => slB_rd) _ _ data (hs.oldB hr1)).mono ?_))
 rintro e w1 ⟨rfl, hw9⟩
 rw [hw9]
 clear hw9 w1
 refine ⟨_, rfl, ?_⟩; clear hf a; intro a hf
 refine s_do hf (wanted_of hf rfl rfl rfl) (.value (x_not (hf.eval rfl) _) ?_); clear hf a; intro a hf
 refine s_v hf (x_pick_f (hf.eval rfl) (hf.eval rfl)) ?_; clear hf a; intro a hf
 refine s_nil (then_n ?_)
 refine c_cond hf rfl (fun hi0 => ?_) (fun hi0 => ?_)
 ·first | simp only [zd1, zd2, zd3, zd4] at hi0 | skip
  have hno : decOk data = false := by
    unfold decOk
    by_cases h8 : data.length = 512
    · cases h9 : slOk (dsF data) with
      | false => simp
      | true =>
        obtain ⟨he1, he2⟩ := enc_ok h9
        first
        | exact absurd he1 hg5_2
        | (rw [he2] at hi0; rw [decide_eq_false hi0]; simp)
    · simp [h8]
  refine wp_seq (wp_region_lit ?_)
  refine s_r hf (x_build (v := .agg (slF zSl).toArray) (hf.parts rfl) (fun w => by kernel_rfl) _) ?_; clear hf a; intro a hf
  replace hs := hs.take (A := cb b2 99 (slF zSl)) (by repeat constructor)
  refine s_do0 hf rfl (y_storeAgg (cs := slF zSl) hs (n := 7) (by kernel_rfl) (hf.eval rfl) (hf.eval rfl) (by simp [Value.oneCell', slF]) rfl rfl .k0 ?_); clear hf hs a; intro w hs a hf
  refine s_a hf rfl ?_; clear hf a; intro a hf
  refine s_nil (then_n ?_)
  refine wp_ret ?_
  refine then_r ?_
  refine r_2c hf Tryz.results112 rfl rfl hs ag99 rfl .k0 ?_
  rw [(dec_no hno).1, (dec_no hno).2]
  exact ⟨rfl, hs.kept⟩
 first | simp only [zd1, zd2, zd3, zd4] at hi0 | skip
 have hsk : slOk (dsF data) = true := by
   cases h9 : slOk (dsF data) with
   | true => rfl
   | false => exact absurd (enc_no h9).1 (by rw [hg5_2]; decide)
 have hse : secS (dsF data) = data := by rw [← (enc_ok hsk).2]; exact hi0
 have hl5 : data.length = 512 := by rw [← hse]; exact secS_len _
 have hyes : decOk data = true := by unfold decOk; rw [hsk, decide_eq_true hl5, decide_eq_true hse]; rfl
 refine wp_skip (then_n (wp_seq (wp_region_lit ?_)))
 replace hs := hs.take (A := cb b5 99 (slF (dsF data : Sl))) (by repeat constructor)
 refine s_r hf (x_loadBlk hs ag99 (hf.eval rfl) rfl (by repeat constructor)) ?_; clear hf a; intro a hf
 replace hs := hs.take (A := cb b2 99 (slF zSl)) (by repeat constructor)
 refine s_do0 hf rfl (y_storeAgg (cs := slF (dsF data : Sl)) hs (n := 7) (by kernel_rfl) (hf.eval rfl) (hf.eval rfl) (by simp [Value.oneCell', slF]) rfl rfl .k0 ?_); clear hf hs a; intro w hs a hf
 refine s_a hf rfl ?_; clear hf a; intro a hf
 refine s_nil (then_n ?_)
 refine wp_ret ?_
 refine r_2c hf Tryz.results112 rfl rfl hs ag99 rfl .k0 ?_
 rw [(dec_yes hyes).1, (dec_yes hyes).2]
 exact ⟨rfl, hs.kept⟩
theorem decode_small (w0 : World) (hT : Tab 0 (hp w0)) (a1 : Option Addr) (c1 : Nat) (data : List UInt8) (hr1 : RdB (hp w0) (.slice a1 data.length c1) data) (hl1 : data.length ≤ 140737488351232) (h36 : data.length < 36) : Calls Tryz.prog 112 #[.slice a1 data.length c1] w0 fun e w' => e = .returned (.tuple #[.agg (slF (decV data)).toArray, .int .i64 (decE data)]) ∧ Kept w0 w' None_ := by
 have hs := St.start w0 None_
 refine c_enter (N := 48) Tryz.func112 rfl Tryz.ntmps112 (by simp) ?_
 intro a hf
 refine wp_seq (wp_region_lit ?_)
 refine s_do hf rfl (y_alloc hs Tryz.zeroValue99 ?_); clear hf hs a; intro b2 w hs a hf
 change St _ _ (cb b2 99 (slF zSl) :: _) at hs
 refine s_a hf rfl ?_; clear hf a; intro a hf
 refine s_nil (then_n (wp_seq (wp_region_lit ?_)))
 refine s_m hf rfl ?_; clear hf a; intro a hf
 refine s_do hf rfl (y_call (hf.eval rfl) (hf.evals rfl) Tryz.call122 ((newCursor_spec _ _ _ data (hs.oldB hr1) hl1).mono ?_))
 rintro e w1 ⟨p, rfl, hj⟩
 replace hs := hs.join hj
 simp only [List.cons_append, List.nil_append] at hs
 refine ⟨_, rfl, ?_⟩; clear hf a; intro a hf
 refine s_a hf rfl ?_; clear hf a; intro a hf
 refine s_nil (then_n (wp_seq (wp_region_lit ?_)))
 refine s_m hf rfl ?_; clear hf a; intro a hf
 replace hs := hs.take (A := curA 179 5 p data 0 0) (by repeat constructor)
 refine s_do hf rfl (y_call (hf.eval rfl) (hf.evals rfl) Tryz.call123 ((skip_spec _ _ _ p data 0 0 8 hs (by omega) (by omega) (by omega)).mono ?_))
 rintro e w1 ⟨rfl, hs⟩
 have hq0 := nx_le (n := data.length) (k := 0) 0 8 (by omega)
 generalize (nextC data.length 0 0 8).1 = q0 at hs hq0
 generalize (nextC data.length 0 0 8).2.1 = t0 at hs
 refine ⟨_, rfl, ?_⟩; clear hf a; intro a hf
 refine s_nil (then_n (wp_seq (wp_region_lit ?_)))
 refine s_m hf rfl ?_; clear hf a; intro a hf
 replace hs := hs.take (A := curA 179 5 p data q0 t0) (by repeat constructor)
 refine s_do hf rfl (y_call (hf.eval rfl) (hf.evals rfl) Tryz.call124 ((u32_spec _ _ _ p data q0 t0 hs hq0 (by omega)).mono ?_))
 rintro e w1 ⟨rfl, hs⟩
 have hq1 := nx_le (n := data.length) (k := q0) t0 4 hq0
 have hv0 := leN_small (l := data.drop q0) (nx_k data.length q0 t0)
 generalize leN ((data.drop q0).take (nextC data.length q0 t0 4).2.2) = n0 at hv0 ⊢
 generalize (nextC data.length q0 t0 4).1 = q1 at hs hq1
 generalize (nextC data.length q0 t0 4).2.1 = t1 at hs
 refine ⟨_, rfl, ?_⟩; clear hf a; intro a hf
 refine s_m hf rfl ?_; clear hf a; intro a hf
 replace hs := hs.take (A := curA 179 5 p data q1 t1) (by repeat constructor)
 refine s_do hf rfl (y_call (hf.eval rfl) (hf.evals rfl) Tryz.call124 ((u32_spec _ _ _ p data q1 t1 hs hq1 (by omega)).mono ?_))
 rintro e w1 ⟨rfl, hs⟩
 have hq2 := nx_le (n := data.length) (k := q1) t1 4 hq1
 have hv1 := leN_small (l := data.drop q1) (nx_k data.length q1 t1)
 generalize leN ((data.drop q1).take (nextC data.length q1 t1 4).2.2) = n1 at hv1 ⊢
 generalize (nextC data.length q1 t1 4).1 = q2 at hs hq2
 generalize (nextC data.length q1 t1 4).2.1 = t2 at hs
 refine ⟨_, rfl, ?_⟩; clear hf a; intro a hf
 refine s_m hf rfl ?_; clear hf a; intro a hf
 replace hs := hs.take (A := curA 179 5 p data q2 t2) (by repeat constructor)
 refine s_do hf rfl (y_call (hf.eval rfl) (hf.evals rfl) Tryz.call124 ((u32_spec _ _ _ p data q2 t2 hs hq2 (by omega)).mono ?_))
 rintro e w1 ⟨rfl, hs⟩
 have hq3 := nx_le (n := data.length) (k := q2) t2 4 hq2
 have hv2 := leN_small (l := data.drop q2) (nx_k data.length q2 t2)
 generalize leN ((data.drop q2).take (nextC data.length q2 t2 4).2.2) = n2 at hv2 ⊢
 generalize (nextC data.length q2 t2 4).1 = q3 at hs hq3
 generalize (nextC data.length q2 t2 4).2.1 = t3 at hs
 refine ⟨_, rfl, ?_⟩; clear hf a; intro a hf
 refine s_m hf rfl ?_; clear hf a; intro a hf
 replace hs := hs.take (A := curA 179 5 p data q3 t3) (by repeat constructor)
 refine s_do hf rfl (y_call (hf.eval rfl) (hf.evals rfl) Tryz.call124 ((u32_spec _ _ _ p data q3 t3 hs hq3 (by omega)).mono ?_))
 rintro e w1 ⟨rfl, hs⟩
 have hq4 := nx_le (n := data.length) (k := q3) t3 4 hq3
 have hv3 := leN_small (l := data.drop q3) (nx_k data.length q3 t3)
 generalize leN ((data.drop q3).take (nextC data.length q3 t3 4).2.2) = n3 at hv3 ⊢
 generalize (nextC data.length q3 t3 4).1 = q4 at hs hq4
 generalize (nextC data.length q3 t3 4).2.1 = t4 at hs
 refine ⟨_, rfl, ?_⟩; clear hf a; intro a hf
 refine s_m hf rfl ?_; clear hf a; intro a hf
 replace hs := hs.take (A := curA 179 5 p data q4 t4) (by repeat constructor)
 refine s_do hf rfl (y_call (hf.eval rfl) (hf.evals rfl) Tryz.call124 ((u32_spec _ _ _ p data q4 t4 hs hq4 (by omega)).mono ?_))
 rintro e w1 ⟨rfl, hs⟩
 have hq5 := nx_le (n := data.length) (k := q4) t4 4 hq4
 have hv4 := leN_small (l := data.drop q4) (nx_k data.length q4 t4)
 generalize leN ((data.drop q4).take (nextC data.length q4 t4 4).2.2) = n4 at hv4 ⊢
 generalize (nextC data.length q4 t4 4).1 = q5 at hs hq5
 generalize (nextC data.length q4 t4 4).2.1 = t5 at hs
 refine ⟨_, rfl, ?_⟩; clear hf a; intro a hf
 refine s_m hf rfl ?_; clear hf a; intro a hf
 replace hs := hs.take (A := curA 179 5 p data q5 t5) (by repeat constructor)
 refine s_do hf rfl (y_call (hf.eval rfl) (hf.evals rfl) Tryz.call124 ((u32_spec _ _ _ p data q5 t5 hs hq5 (by omega)).mono ?_))
 rintro e w1 ⟨rfl, hs⟩
 have hq6 := nx_le (n := data.length) (k := q5) t5 4 hq5
 have hv5 := leN_small (l := data.drop q5) (nx_k data.length q5 t5)
 generalize leN ((data.drop q5).take (nextC data.length q5 t5 4).2.2) = n5 at hv5 ⊢
 generalize (nextC data.length q5 t5 4).1 = q6 at hs hq6
 generalize (nextC data.length q5 t5 4).2.1 = t6 at hs
 refine ⟨_, rfl, ?_⟩; clear hf a; intro a hf
 refine s_m hf rfl ?_; clear hf a; intro a hf
 replace hs := hs.take (A := curA 179 5 p data q6 t6) (by repeat constructor)
 refine s_do hf rfl (y_call (hf.eval rfl) (hf.evals rfl) Tryz.call124 ((u32_spec _ _ _ p data q6 t6 hs hq6 (by omega)).mono ?_))
 rintro e w1 ⟨rfl, hs⟩
 have hq7 := nx_le (n := data.length) (k := q6) t6 4 hq6
 have hv6 := leN_small (l := data.drop q6) (nx_k data.length q6 t6)
 generalize leN ((data.drop q6).take (nextC data.length q6 t6 4).2.2) = n6 at hv6 ⊢
 generalize (nextC data.length q6 t6 4).1 = q7 at hs hq7
 generalize (nextC data.length q6 t6 4).2.1 = t7 at hs
 refine ⟨_, rfl, ?_⟩; clear hf a; intro a hf
 have hlast : n6 < 4294967296 := hv6
 refine s_v hf (x_conv Tryz.underlying3 Tryz.underlying96 (hf.eval rfl)) ?_; clear hf a; intro a hf
 replace hf := hf.now (k := 26) (v' := .int .u32 ((n6 : Nat) : Int)) rfl (by rw [wrap_u32]; congr 1; omega)
 refine s_r hf (x_build (v := .agg (slF (((n0 : Int), (n1 : Int), (n2 : Int), (n3 : Int), (n4 : Int), (n5 : Int), n6) : Sl)).toArray) (hf.parts rfl) (fun w => by kernel_rfl) _) ?_; clear hf a; intro a hf
 refine s_do hf rfl (y_alloc hs Tryz.zeroValue99 ?_); clear hf hs a; intro b5 w hs a hf
 change St _ _ (cb b5 99 (slF zSl) :: _) at hs
 refine s_do0 hf rfl (y_storeAgg (cs := slF (((n0 : Int), (n1 : Int), (n2 : Int), (n3 : Int), (n4 : Int), (n5 : Int), n6) : Sl)) hs (n := 7) (by kernel_rfl) (hf.eval rfl) (hf.eval rfl) (by simp [Value.oneCell', slF]) rfl rfl .k0 ?_); clear hf hs a; intro w hs a hf
 refine s_nil (then_n (wp_seq (wp_region_lit ?_)))
 replace hs := hs.take (A := cb b5 99 (slF (((n0 : Int), (n1 : Int), (n2 : Int), (n3 : Int), (n4 : Int), (n5 : Int), n6) : Sl))) (by repeat constructor)
 refine s_r hf (x_loadBlk hs ag99 (hf.eval rfl) rfl (by repeat constructor)) ?_; clear hf a; intro a hf
 refine s_do hf rfl (y_call (hf.eval rfl) (hf.evals rfl) Tryz.call108 ((encode_spec _ (hT.kept hs.kept) (((n0 : Int), (n1 : Int), (n2 : Int), (n3 : Int), (n4 : Int), (n5 : Int), n6) : Sl) (by first | exact rd32_lt data 32 | exact hlast)).mono ?_))
 rintro e w1 ⟨g, cg, rfl, hj⟩
 replace hs := hs.join hj
 simp only [List.cons_append, List.nil_append] at hs
 refine ⟨_, rfl, ?_⟩; clear hf a; intro a hf
 refine s_m hf rfl ?_; clear hf a; intro a hf
 refine s_v hf (x_extract (hf.eval rfl) rfl) ?_; clear hf a; intro a hf
 refine s_v hf (x_extract (hf.eval rfl) rfl) ?_; clear hf a; intro a hf
 refine s_a hf rfl ?_; clear hf a; intro a hf
 refine s_a hf rfl ?_; clear hf a; intro a hf
 refine s_nil (then_n (wp_seq (wp_seq (wp_region_lit ?_))))
 refine s_m hf rfl ?_; clear hf a; intro a hf
 refine s_v hf (x_bin (hf.eval rfl) (hf.eval rfl) (r_ne _ _ _ _)) ?_; clear hf a; intro a hf
 refine s_m hf rfl ?_; clear hf a; intro a hf
 refine s_bool hf (k := 35) rfl (fun hg5_2 hf' => ?_) (fun hg5_2 hf' => ?_)
 ·clear hf
  have hf := hf'
  clear hf'
  first | simp only [zd1, zd2, zd3, zd4] at hg5_2 | skip
  refine s_pass hf rfl rfl ?_; clear hf a; intro a hf
  refine s_pass hf rfl rfl ?_; clear hf a; intro a hf
  refine s_pass hf rfl rfl ?_; clear hf a; intro a hf
  refine s_v hf (x_pick_t (hf.eval rfl) (hf.eval rfl)) ?_; clear hf a; intro a hf
  refine s_m hf rfl ?_; clear hf a; intro a hf
  refine s_pass hf rfl rfl ?_; clear hf a; intro a hf
  refine s_pass hf rfl rfl ?_; clear hf a; intro a hf
  refine s_pass hf rfl rfl ?_; clear hf a; intro a hf
  refine s_pass hf rfl rfl ?_; clear hf a; intro a hf
  refine s_v hf (x_pick_t (hf.eval rfl) (hf.eval rfl)) ?_; clear hf a; intro a hf
  refine s_nil (then_n ?_)
  refine c_cond_t hf rfl rfl ?_
  have hno : decOk data = false := by unfold decOk; rw [decide_eq_false (show ¬ data.length = 512 by omega)]; simp
  refine wp_seq (wp_region_lit ?_)
  refine s_r hf (x_build (v := .agg (slF zSl).toArray) (hf.parts rfl) (fun w => by kernel_rfl) _) ?_; clear hf a; intro a hf
  replace hs := hs.take (A := cb b2 99 (slF zSl)) (by repeat constructor)
  refine s_do0 hf rfl (y_storeAgg (cs := slF zSl) hs (n := 7) (by kernel_rfl) (hf.eval rfl) (hf.eval rfl) (by simp [Value.oneCell', slF]) rfl rfl .k0 ?_); clear hf hs a; intro w hs a hf
  refine s_a hf rfl ?_; clear hf a; intro a hf
  refine s_nil (then_n ?_)
  refine wp_ret ?_
  refine then_r ?_
  refine r_2c hf Tryz.results112 rfl rfl hs ag99 rfl .k0 ?_
  rw [(dec_no hno).1, (dec_no hno).2]
  exact ⟨rfl, hs.kept⟩
 clear hf
 have hf := hf'
 clear hf'
 first | simp only [zd1, zd2, zd3, zd4] at hg5_2 | skip
 refine s_do hf (wanted_of hf rfl rfl rfl) (.value (x_move (hf.eval rfl) _) ?_); clear hf a; intro a hf
 replace hs := hs.take (A := curA 179 5 p data q7 t7) (by repeat constructor)
 refine s_do hf (wanted_of hf rfl rfl rfl) (y_call (hf.eval rfl) (hf.evals rfl) Tryz.call125 ((err_spec _ _ _ p data q7 t7 hs hq7 (by omega)).mono ?_))
 rintro e w1 ⟨rfl, hs⟩
 refine ⟨_, rfl, ?_⟩; clear hf a; intro a hf
 refine s_do hf (wanted_of hf rfl rfl rfl) (.value (x_bin (hf.eval rfl) (hf.eval rfl) (r_ne _ _ _ _) _) ?_); clear hf a; intro a hf
 refine s_v hf (x_pick_f (hf.eval rfl) (hf.eval rfl)) ?_; clear hf a; intro a hf
 refine s_m hf rfl ?_; clear hf a; intro a hf
 refine s_bool hf (k := 40) rfl (fun hg5_7 hf' => ?_) (fun hg5_7 hf' => ?_)
 ·clear hf
  have hf := hf'
  clear hf'
  first | simp only [zd1, zd2, zd3, zd4] at hg5_7 | skip
  refine s_pass hf rfl rfl ?_; clear hf a; intro a hf
  refine s_pass hf rfl rfl ?_; clear hf a; intro a hf
  refine s_pass hf rfl rfl ?_; clear hf a; intro a hf
  refine s_pass hf rfl rfl ?_; clear hf a; intro a hf
  refine s_v hf (x_pick_t (hf.eval rfl) (hf.eval rfl)) ?_; clear hf a; intro a hf
  refine s_nil (then_n ?_)
  refine c_cond_t hf rfl rfl ?_
  have hno : decOk data = false := by unfold decOk; rw [decide_eq_false (show ¬ data.length = 512 by omega)]; simp
  refine wp_seq (wp_region_lit ?_)
  refine s_r hf (x_build (v := .agg (slF zSl).toArray) (hf.parts rfl) (fun w => by kernel_rfl) _) ?_; clear hf a; intro a hf
  replace hs := hs.take (A := cb b2 99 (slF zSl)) (by repeat constructor)
  refine s_do0 hf rfl (y_storeAgg (cs := slF zSl) hs (n := 7) (by kernel_rfl) (hf.eval rfl) (hf.eval rfl) (by simp [Value.oneCell', slF]) rfl rfl .k0 ?_); clear hf hs a; intro w hs a hf
  refine s_a hf rfl ?_; clear hf a; intro a hf
  refine s_nil (then_n ?_)
  refine wp_ret ?_
  refine then_r ?_
  refine r_2c hf Tryz.results112 rfl rfl hs ag99 rfl .k0 ?_
  rw [(dec_no hno).1, (dec_no hno).2]
  exact ⟨rfl, hs.kept⟩
 clear hf
 have hf := hf'
 clear hf'
 first | simp only [zd1, zd2, zd3, zd4] at hg5_7 | skip
 refine s_do hf (wanted_of hf rfl rfl rfl) (.value (x_move (hf.eval rfl) _) ?_); clear hf a; intro a hf
 refine s_do hf (wanted_of hf rfl rfl rfl) (.value (x_move (hf.eval rfl) _) ?_); clear hf a; intro a hf
 replace hs := hs.take (A := slB 5 (.slice g (encV (((n0 : Int), (n1 : Int), (n2 : Int), (n3 : Int), (n4 : Int), (n5 : Int), n6) : Sl)).length cg) (encV (((n0 : Int), (n1 : Int), (n2 : Int), (n3 : Int), (n4 : Int), (n5 : Int), n6) : Sl))) (by repeat constructor)
 refine s_do hf (wanted_of hf rfl rfl rfl) (y_call (hf.eval rfl) (hf.evals rfl) Tryz.call126 ((bequal_spec _ _ _ (encV (((n0 : Int), (n1 : Int), (n2 : Int), (n3 : Int), (n4 : Int), (n5 : Int), n6) : Sl)) (hs.rdB .k0 fun h => slB_rd) _ _ data (hs.oldB hr1)).mono ?_))
 rintro e w1 ⟨rfl, hw9⟩
 rw [hw9]
 clear hw9 w1
 refine ⟨_, rfl, ?_⟩; clear hf a; intro a hf
 refine s_do hf (wanted_of hf rfl rfl rfl) (.value (x_not (hf.eval rfl) _) ?_); clear hf a; intro a hf
 refine s_v hf (x_pick_f (hf.eval rfl) (hf.eval rfl)) ?_; clear hf a; intro a hf
 refine s_nil (then_n ?_)
 refine c_cond hf rfl (fun hi0 => ?_) (fun hi0 => ?_)
 ·first | simp only [zd1, zd2, zd3, zd4] at hi0 | skip
  have hno : decOk data = false := by unfold decOk; rw [decide_eq_false (show ¬ data.length = 512 by omega)]; simp
  refine wp_seq (wp_region_lit ?_)
  refine s_r hf (x_build (v := .agg (slF zSl).toArray) (hf.parts rfl) (fun w => by kernel_rfl) _) ?_; clear hf a; intro a hf
  replace hs := hs.take (A := cb b2 99 (slF zSl)) (by repeat constructor)
  refine s_do0 hf rfl (y_storeAgg (cs := slF zSl) hs (n := 7) (by kernel_rfl) (hf.eval rfl) (hf.eval rfl) (by simp [Value.oneCell', slF]) rfl rfl .k0 ?_); clear hf hs a; intro w hs a hf
  refine s_a hf rfl ?_; clear hf a; intro a hf
  refine s_nil (then_n ?_)
  refine wp_ret ?_
  refine then_r ?_
  refine r_2c hf Tryz.results112 rfl rfl hs ag99 rfl .k0 ?_
  rw [(dec_no hno).1, (dec_no hno).2]
  exact ⟨rfl, hs.kept⟩
 first | simp only [zd1, zd2, zd3, zd4] at hi0 | skip
 have hbad : False := by
   cases h9 : slOk (((n0 : Int), (n1 : Int), (n2 : Int), (n3 : Int), (n4 : Int), (n5 : Int), n6) : Sl) with
   | false => exact absurd (enc_no h9).1 (by rw [hg5_2]; decide)
   | true => have h8 := congrArg List.length hi0; rw [(enc_ok h9).2, secS_len] at h8; omega
 refine wp_skip (then_n (wp_seq (wp_region_lit ?_)))
 replace hs := hs.take (A := cb b5 99 (slF (((n0 : Int), (n1 : Int), (n2 : Int), (n3 : Int), (n4 : Int), (n5 : Int), n6) : Sl))) (by repeat constructor)
 refine s_r hf (x_loadBlk hs ag99 (hf.eval rfl) rfl (by repeat constructor)) ?_; clear hf a; intro a hf
 replace hs := hs.take (A := cb b2 99 (slF zSl)) (by repeat constructor)
 refine s_do0 hf rfl (y_storeAgg (cs := slF (((n0 : Int), (n1 : Int), (n2 : Int), (n3 : Int), (n4 : Int), (n5 : Int), n6) : Sl)) hs (n := 7) (by kernel_rfl) (hf.eval rfl) (hf.eval rfl) (by simp [Value.oneCell', slF]) rfl rfl .k0 ?_); clear hf hs a; intro w hs a hf
 refine s_a hf rfl ?_; clear hf a; intro a hf
 refine s_nil (then_n ?_)
 refine wp_ret ?_
 refine r_2c hf Tryz.results112 rfl rfl hs ag99 rfl .k0 ?_
 exact hbad.elim
theorem decode_spec (w0 : World) (hT : Tab 0 (hp w0)) (a1 : Option Addr) (c1 : Nat) (data : List UInt8) (hr1 : RdB (hp w0) (.slice a1 data.length c1) data) (hl1 : data.length ≤ 140737488351232) : Calls Tryz.prog 112 #[.slice a1 data.length c1] w0 fun e w' => e = .returned (.tuple #[.agg (slF (decV data)).toArray, .int .i64 (decE data)]) ∧ Kept w0 w' None_ := by
  by_cases h : 36 ≤ data.length
  · exact decode_big w0 hT a1 c1 data hr1 hl1 h
  · exact decode_small w0 hT a1 c1 data hr1 hl1 (by omega)
end Go.Proofs.YtehakfbfjpolfaaGreatDoor

namespace Go.Proofs.YtehakfbfjpolfaaGreatDoor
open Go Vw
theorem rd32_sum {l : List UInt8} {k : Nat} (h : k + 4 ≤ l.length) : rd32 l k = l[k].toNat + 256 * l[k + 1].toNat + 65536 * l[k + 2].toNat + 16777216 * l[k + 3].toNat := by
  unfold rd32
  rw [List.drop_eq_getElem_cons (show k < l.length by omega), List.drop_eq_getElem_cons (show k + 1 < l.length by omega), List.drop_eq_getElem_cons (show k + 1 + 1 < l.length by omega), List.drop_eq_getElem_cons (show k + 1 + 1 + 1 < l.length by omega)]
  simp only [List.take_succ_cons, List.take_zero, leN]
  have e2 : l[k + 1 + 1].toNat = l[k + 2].toNat := rfl
  have e3 : l[k + 1 + 1 + 1].toNat = l[k + 3].toNat := rfl
  omega
theorem at32_spec (w0 : World) (a1 : Option Addr) (c1 : Nat) (l : List UInt8) (hr1 : RdB (hp w0) (.slice a1 l.length c1) l) (k : Nat) (hk : k + 4 ≤ l.length) (hl : l.length ≤ 140737488351232) : Calls Tryz.prog 97 #[.slice a1 l.length c1, .int .i64 (k : Int)] w0 fun e w' => e = .returned (.int .i64 ((rd32 l k : Nat) : Int)) ∧ Kept w0 w' None_ := by
 have hs := St.start w0 None_
 obtain ⟨a1, rfl⟩ := hr1.some (by omega)
 have hb0 := toNat_lt l[k + 0]
 have hb1 := toNat_lt l[k + 1]
 have hb2 := toNat_lt l[k + 2]
 have hb3 := toNat_lt l[k + 3]
 refine c_enter (N := 34) Tryz.func97 rfl Tryz.ntmps97 (by simp) ?_
 intro a hf
 refine wp_seq (wp_region_lit ?_)
 refine s_a hf rfl ?_; clear hf a; intro a hf
 refine s_nil (then_n (wp_seq ?_))
 refine c_draw hs (fun _ => True) [.held, .held, .held, .read, .held, .held, .held, .held, .held, .read, .held, .held, .held, .held, .held, .held, .held, .read, .held, .held, .held, .held, .held, .held, .held, .read, .held, .held, .held, .held] (by kernel_rfl) (by kernel_rfl) (fun _ _ _ => trivial) ?_
 clear hs; intro w hs hC hw
 refine m_held hf rfl (fun w' _ => x_move (hf.eval rfl) w') ?_; clear hf a; intro a hf
 refine m_held hf rfl (fun w' _ => x_move (hf.eval rfl) w') ?_; clear hf a; intro a hf
 replace hf := hf.now (k := 6) (v' := .int .i64 ((k + 0 : Nat) : Int)) rfl (rfl)
 refine m_held hf rfl (fun w' _ => x_indexAddr sl22 (hf.eval rfl) (hf.eval rfl) (by omega) (by omega) w') ?_; clear hf a; intro a hf
 refine m_read hf rfl (x_loadB (i := ((k + 0 : Nat) : Int)) sc5 (hs.oldB hr1) (hf.eval rfl) (by rw [Int.toNat_natCast]; omega)) ?_; clear hf a; intro a hf
 replace hf := hf.now (k := 8) (v' := u8v l[k + 0]) rfl (rfl)
 refine m_held hf rfl (fun w' _ => x_convr Tryz.underlying5 Tryz.underlying3 (hf.eval rfl) (wrap_byte _) w') ?_; clear hf a; intro a hf
 refine m_held hf rfl (fun w' _ => x_move (hf.eval rfl) w') ?_; clear hf a; intro a hf
 refine m_held hf rfl (fun w' _ => x_move (hf.eval rfl) w') ?_; clear hf a; intro a hf
 refine m_held hf rfl (fun w' _ => x_bin (hf.eval rfl) (hf.eval rfl) (r_addi _ (by omega) (by omega)) w') ?_; clear hf a; intro a hf
 replace hf := hf.now (k := 12) (v' := .int .i64 ((k + 1 : Nat) : Int)) rfl (rfl)
 refine m_held hf rfl (fun w' _ => x_indexAddr sl22 (hf.eval rfl) (hf.eval rfl) (by omega) (by omega) w') ?_; clear hf a; intro a hf
 refine m_read hf rfl (x_loadB (i := ((k + 1 : Nat) : Int)) sc5 (hs.oldB hr1) (hf.eval rfl) (by rw [Int.toNat_natCast]; omega)) ?_; clear hf a; intro a hf
 replace hf := hf.now (k := 14) (v' := u8v l[k + 1]) rfl (rfl)
 refine m_held hf rfl (fun w' _ => x_convr Tryz.underlying5 Tryz.underlying3 (hf.eval rfl) (wrap_byte _) w') ?_; clear hf a; intro a hf
 refine m_held hf rfl (fun w' _ => x_bin (hf.eval rfl) (hf.eval rfl) (r_muli _ (by omega) (by omega)) w') ?_; clear hf a; intro a hf
 refine m_held hf rfl (fun w' _ => x_bin (hf.eval rfl) (hf.eval rfl) (r_addi _ (by omega) (by omega)) w') ?_; clear hf a; intro a hf
 refine m_held hf rfl (fun w' _ => x_move (hf.eval rfl) w') ?_; clear hf a; intro a hf
 refine m_held hf rfl (fun w' _ => x_move (hf.eval rfl) w') ?_; clear hf a; intro a hf
 refine m_held hf rfl (fun w' _ => x_bin (hf.eval rfl) (hf.eval rfl) (r_addi _ (by omega) (by omega)) w') ?_; clear hf a; intro a hf
 replace hf := hf.now (k := 20) (v' := .int .i64 ((k + 2 : Nat) : Int)) rfl (rfl)
 refine m_held hf rfl (fun w' _ => x_indexAddr sl22 (hf.eval rfl) (hf.eval rfl) (by omega) (by omega) w') ?_; clear hf a; intro a hf
 refine m_read hf rfl (x_loadB (i := ((k + 2 : Nat) : Int)) sc5 (hs.oldB hr1) (hf.eval rfl) (by rw [Int.toNat_natCast]; omega)) ?_; clear hf a; intro a hf
 replace hf := hf.now (k := 22) (v' := u8v l[k + 2]) rfl (rfl)
 refine m_held hf rfl (fun w' _ => x_convr Tryz.underlying5 Tryz.underlying3 (hf.eval rfl) (wrap_byte _) w') ?_; clear hf a; intro a hf
 refine m_held hf rfl (fun w' _ => x_bin (hf.eval rfl) (hf.eval rfl) (r_muli _ (by omega) (by omega)) w') ?_; clear hf a; intro a hf
 refine m_held hf rfl (fun w' _ => x_bin (hf.eval rfl) (hf.eval rfl) (r_addi _ (by omega) (by omega)) w') ?_; clear hf a; intro a hf
 refine m_held hf rfl (fun w' _ => x_move (hf.eval rfl) w') ?_; clear hf a; intro a hf
 refine m_held hf rfl (fun w' _ => x_move (hf.eval rfl) w') ?_; clear hf a; intro a hf
 refine m_held hf rfl (fun w' _ => x_bin (hf.eval rfl) (hf.eval rfl) (r_addi _ (by omega) (by omega)) w') ?_; clear hf a; intro a hf
 replace hf := hf.now (k := 28) (v' := .int .i64 ((k + 3 : Nat) : Int)) rfl (rfl)
 refine m_held hf rfl (fun w' _ => x_indexAddr sl22 (hf.eval rfl) (hf.eval rfl) (by omega) (by omega) w') ?_; clear hf a; intro a hf
 refine m_read hf rfl (x_loadB (i := ((k + 3 : Nat) : Int)) sc5 (hs.oldB hr1) (hf.eval rfl) (by rw [Int.toNat_natCast]; omega)) ?_; clear hf a; intro a hf
 replace hf := hf.now (k := 30) (v' := u8v l[k + 3]) rfl (rfl)
 refine m_held hf rfl (fun w' _ => x_convr Tryz.underlying5 Tryz.underlying3 (hf.eval rfl) (wrap_byte _) w') ?_; clear hf a; intro a hf
 refine m_held hf rfl (fun w' _ => x_bin (hf.eval rfl) (hf.eval rfl) (r_muli _ (by omega) (by omega)) w') ?_; clear hf a; intro a hf
 refine m_held hf rfl (fun w' _ => x_bin (hf.eval rfl) (hf.eval rfl) (r_addi _ (by omega) (by omega)) w') ?_; clear hf a; intro a hf
 refine m_held hf rfl (fun w' _ => x_assign (hf.eval rfl) w') ?_; clear hf a; intro a hf
 refine m_nil ?_
 refine then_n ?_
 refine wp_ret ?_
 refine r_1 hf Tryz.results97 rfl ?_
 refine ⟨?_, hs.kept⟩
 rw [rd32_sum hk]
 simp only [Nat.add_zero]
 congr 2 <;> omega
theorem rsame_spec (w0 : World) (a1 : Option Addr) (c1 : Nat) (l1 : List UInt8) (hr1 : RdB (hp w0) (.slice a1 l1.length c1) l1) (a2 : Option Addr) (c2 : Nat) (l2 : List UInt8) (hr2 : RdB (hp w0) (.slice a2 l2.length c2) l2) (hl1 : l1.length ≤ 140737488355328) : Calls Tryz.prog 114 #[.slice a1 l1.length c1, .slice a2 l2.length c2] w0 fun e w' => e = .returned (.bool (decide (l1 = l2))) ∧ Kept w0 w' None_ := by
 have hs := St.start w0 None_
 refine c_enter (N := 26) Tryz.func114 rfl Tryz.ntmps114 (by simp) ?_
 intro a hf
 refine wp_seq (wp_region_lit ?_)
 refine s_a hf rfl ?_; clear hf a; intro a hf
 refine s_nil (then_n (wp_seq (wp_seq (wp_region_lit ?_))))
 refine s_m hf rfl ?_; clear hf a; intro a hf
 refine s_v hf (x_len Tryz.underlying22 (hf.eval rfl)) ?_; clear hf a; intro a hf
 refine s_m hf rfl ?_; clear hf a; intro a hf
 refine s_v hf (x_len Tryz.underlying22 (hf.eval rfl)) ?_; clear hf a; intro a hf
 refine s_v hf (x_bin (hf.eval rfl) (hf.eval rfl) (r_ne _ _ _ _)) ?_; clear hf a; intro a hf
 refine s_nil (then_n ?_)
 refine c_cond hf rfl (fun hi0 => ?_) (fun hi0 => ?_)
 ·simp only [zd1, zd2, zd3, zd4, zd5, zd6, zd7] at hi0
  refine wp_seq (wp_region_lit ?_)
  refine s_a hf rfl ?_; clear hf a; intro a hf
  refine s_nil (then_n ?_)
  refine wp_ret ?_
  refine then_r ?_
  refine r_1 hf Tryz.results114 rfl ?_
  exact ⟨by rw [decide_eq_false (fun e => hi0 (by rw [e]))], hs.kept⟩
 simp only [zd1, zd2, zd3, zd4, zd5, zd6, zd7] at hi0
 refine wp_skip (then_n (wp_seq (wp_seq (wp_region_lit ?_))))
 refine s_a hf rfl ?_; clear hf a; intro a hf
 refine s_nil (then_n (wp_block ?_))
 refine c_loop (L0 := [(0, _), (1, _)]) (fun M w m => ∃ i : Nat, M = [(5, .int .i64 (i : Int))] ∧ l1.length - i = m ∧ i ≤ l1.length ∧ l1.take i = l2.take i ∧ St ⟨w0, None_⟩ w []) (M0 := [(5, .int .i64 (0 : Nat))]) (⟨0, rfl, rfl, Nat.zero_le _, rfl, hs⟩) (hf.sub ⟨rfl, rfl, rfl, trivial⟩) ?_
 clear hf hs a
 rintro M m a w ⟨i, rfl, rfl, hi, hq, hs⟩ hf
 refine wp_seq (wp_seq (wp_region_lit ?_))
 refine s_m hf rfl ?_; clear hf a; intro a hf
 refine s_m hf rfl ?_; clear hf a; intro a hf
 refine s_v hf (x_len Tryz.underlying22 (hf.eval rfl)) ?_; clear hf a; intro a hf
 refine s_v hf (x_bin (hf.eval rfl) (hf.eval rfl) (r_lt _ _ _ _)) ?_; clear hf a; intro a hf
 refine s_nil (then_n ?_)
 refine c_cond hf rfl (fun hi1 => ?_) (fun hi1 => ?_)
 ·simp only [zd1, zd2, zd3, zd4, zd5, zd6, zd7] at hi1
  obtain ⟨x1, rfl⟩ := hr1.some (by omega)
  obtain ⟨x2, rfl⟩ := hr2.some (by omega)
  have hlt : i < l1.length := by omega
  have hlt2 : i < l2.length := by omega
  refine wp_skip (then_n (wp_seq (wp_block (wp_seq ?_))))
  refine c_draw hs (fun _ => True) [.held, .held, .held, .read, .held, .held, .held, .read, .held] (by kernel_rfl) (by kernel_rfl) (fun _ _ _ => trivial) ?_
  clear hs; intro w hs hC hw
  refine m_held hf rfl (fun w' _ => x_move (hf.eval rfl) w') ?_; clear hf a; intro a hf
  refine m_held hf rfl (fun w' _ => x_move (hf.eval rfl) w') ?_; clear hf a; intro a hf
  refine m_held hf rfl (fun w' _ => x_indexAddr sl22 (hf.eval rfl) (hf.eval rfl) (by omega) (by omega) w') ?_; clear hf a; intro a hf
  refine m_read hf rfl (x_loadB sc5 (hs.oldB hr1) (hf.eval rfl) (by omega)) ?_; clear hf a; intro a hf
  replace hf := hf.now (k := 20) (v' := u8v l1[i]) rfl rfl
  refine m_held hf rfl (fun w' _ => x_move (hf.eval rfl) w') ?_; clear hf a; intro a hf
  refine m_held hf rfl (fun w' _ => x_move (hf.eval rfl) w') ?_; clear hf a; intro a hf
  refine m_held hf rfl (fun w' _ => x_indexAddr sl22 (hf.eval rfl) (hf.eval rfl) (by omega) (by omega) w') ?_; clear hf a; intro a hf
  refine m_read hf rfl (x_loadB sc5 (hs.oldB hr2) (hf.eval rfl) (by omega)) ?_; clear hf a; intro a hf
  replace hf := hf.now (k := 24) (v' := u8v l2[i]) rfl rfl
  refine m_held hf rfl (fun w' _ => x_bin (hf.eval rfl) (hf.eval rfl) (r_ne _ _ _ _) w') ?_; clear hf a; intro a hf
  refine m_nil ?_
  refine then_n ?_
  refine c_cond hf rfl (fun hi2 => ?_) (fun hi2 => ?_)
  ·simp only [zd1, zd2, zd3, zd4, zd5, zd6, zd7] at hi2
   refine wp_seq (wp_region_lit ?_)
   refine s_a hf rfl ?_; clear hf a; intro a hf
   refine s_nil (then_n ?_)
   refine wp_ret ?_
   refine blk_r (then_r (then_r (blk_r (then_r ?_))))
   refine r_1 hf Tryz.results114 rfl ?_
   exact ⟨by rw [decide_eq_false (fun e => hi2 (by subst e; rfl))], hs.kept⟩
  simp only [zd1, zd2, zd3, zd4, zd5, zd6, zd7] at hi2
  have heq : l1[i] = l2[i] := UInt8.toNat_inj.1 (by omega)
  refine wp_skip (blk_n (then_n (wp_region_lit ?_)))
  refine s_m hf rfl ?_; clear hf a; intro a hf
  refine s_v hf (x_bin (hf.eval rfl) (hf.eval rfl) (r_addi _ (by omega) (by omega))) ?_; clear hf a; intro a hf
  refine s_a hf rfl ?_; clear hf a; intro a hf
  refine s_nil ?_
  have hlt : i < l1.length := by omega
  exact ⟨_, _, ⟨i + 1, rfl, rfl, by omega, by rw [List.take_succ_eq_append_getElem hlt, List.take_succ_eq_append_getElem (show i < l2.length by omega), hq, heq], hs⟩, by omega, hf.sub ⟨rfl, rfl, rfl, trivial⟩⟩
 simp only [zd1, zd2, zd3, zd4, zd5, zd6, zd7] at hi1
 refine wp_exit (then_x (then_x (blk_x (then_n (wp_seq (wp_region_lit ?_))))))
 refine s_a hf rfl ?_; clear hf a; intro a hf
 refine s_nil (then_n ?_)
 refine wp_ret ?_
 refine r_1 hf Tryz.results114 rfl ?_
 have hi' : i = l1.length := by omega
 exact ⟨by rw [decide_eq_true (by rw [hi', List.take_length, show l1.length = l2.length by omega, List.take_length] at hq; exact hq)], hs.kept⟩
theorem rdecode_spec (w0 : World) (a1 : Option Addr) (c1 : Nat) (data : List UInt8) (hr1 : RdB (hp w0) (.slice a1 data.length c1) data) (hl1 : data.length ≤ 140737488351232) : Calls Tryz.prog 96 #[.slice a1 data.length c1] w0 fun e w' => e = .returned (.tuple #[.agg (slF (decV data)).toArray, .int .i64 (decE data)]) ∧ Kept w0 w' None_ := by
 have hs := St.start w0 None_
 refine c_enter (N := 42) Tryz.func96 rfl Tryz.ntmps96 (by simp) ?_
 intro a hf
 refine wp_seq (wp_region_lit ?_)
 refine s_do hf rfl (y_alloc hs Tryz.zeroValue99 ?_); clear hf hs a; intro b2 w hs a hf
 change St _ _ (cb b2 99 (slF zSl) :: _) at hs
 refine s_a hf rfl ?_; clear hf a; intro a hf
 refine s_nil (then_n (wp_seq (wp_seq (wp_region_lit ?_))))
 refine s_m hf rfl ?_; clear hf a; intro a hf
 refine s_v hf (x_len Tryz.underlying22 (hf.eval rfl)) ?_; clear hf a; intro a hf
 refine s_v hf (x_bin (hf.eval rfl) (hf.eval rfl) (r_ne _ _ _ _)) ?_; clear hf a; intro a hf
 refine s_nil (then_n ?_)
 refine c_cond hf rfl (fun hi0 => ?_) (fun hi0 => ?_)
 ·first | simp only [zd1, zd2, zd3, zd4] at hi0 | skip
  have hno : decOk data = false := by unfold decOk; rw [decide_eq_false (show ¬ data.length = 512 by omega)]; simp
  refine wp_seq (wp_region_lit ?_)
  refine s_r hf (x_build (v := .agg (slF zSl).toArray) (hf.parts rfl) (fun w => by kernel_rfl) _) ?_; clear hf a; intro a hf
  replace hs := hs.take (A := cb b2 99 (slF zSl)) (by repeat constructor)
  refine s_do0 hf rfl (y_storeAgg (cs := slF zSl) hs (n := 7) (by kernel_rfl) (hf.eval rfl) (hf.eval rfl) (by simp [Value.oneCell', slF]) rfl rfl .k0 ?_); clear hf hs a; intro w hs a hf
  refine s_a hf rfl ?_; clear hf a; intro a hf
  refine s_nil (then_n ?_)
  refine wp_ret ?_
  refine then_r ?_
  refine r_2c hf Tryz.results96 rfl rfl hs ag99 rfl .k0 ?_
  rw [(dec_no hno).1, (dec_no hno).2]
  exact ⟨rfl, hs.kept⟩
 first | simp only [zd1, zd2, zd3, zd4] at hi0 | skip
 have hl5 : data.length = 512 := by omega
 refine wp_skip (then_n (wp_seq (wp_region_lit ?_)))
 refine s_m hf rfl ?_; clear hf a; intro a hf
 refine s_do hf rfl (y_call (hf.eval rfl) (hf.evals rfl) Tryz.call97 ((at32_spec _ _ _ data (hs.oldB hr1) 8 (by omega) hl1).mono ?_))
 rintro e w1 ⟨rfl, hk⟩
 replace hs := hs.ext hk
 refine ⟨_, rfl, ?_⟩; clear hf a; intro a hf
 refine s_m hf rfl ?_; clear hf a; intro a hf
 refine s_do hf rfl (y_call (hf.eval rfl) (hf.evals rfl) Tryz.call97 ((at32_spec _ _ _ data (hs.oldB hr1) 12 (by omega) hl1).mono ?_))
 rintro e w1 ⟨rfl, hk⟩
 replace hs := hs.ext hk
 refine ⟨_, rfl, ?_⟩; clear hf a; intro a hf
 refine s_m hf rfl ?_; clear hf a; intro a hf
 refine s_do hf rfl (y_call (hf.eval rfl) (hf.evals rfl) Tryz.call97 ((at32_spec _ _ _ data (hs.oldB hr1) 16 (by omega) hl1).mono ?_))
 rintro e w1 ⟨rfl, hk⟩
 replace hs := hs.ext hk
 refine ⟨_, rfl, ?_⟩; clear hf a; intro a hf
 refine s_m hf rfl ?_; clear hf a; intro a hf
 refine s_do hf rfl (y_call (hf.eval rfl) (hf.evals rfl) Tryz.call97 ((at32_spec _ _ _ data (hs.oldB hr1) 20 (by omega) hl1).mono ?_))
 rintro e w1 ⟨rfl, hk⟩
 replace hs := hs.ext hk
 refine ⟨_, rfl, ?_⟩; clear hf a; intro a hf
 refine s_m hf rfl ?_; clear hf a; intro a hf
 refine s_do hf rfl (y_call (hf.eval rfl) (hf.evals rfl) Tryz.call97 ((at32_spec _ _ _ data (hs.oldB hr1) 24 (by omega) hl1).mono ?_))
 rintro e w1 ⟨rfl, hk⟩
 replace hs := hs.ext hk
 refine ⟨_, rfl, ?_⟩; clear hf a; intro a hf
 refine s_m hf rfl ?_; clear hf a; intro a hf
 refine s_do hf rfl (y_call (hf.eval rfl) (hf.evals rfl) Tryz.call97 ((at32_spec _ _ _ data (hs.oldB hr1) 28 (by omega) hl1).mono ?_))
 rintro e w1 ⟨rfl, hk⟩
 replace hs := hs.ext hk
 refine ⟨_, rfl, ?_⟩; clear hf a; intro a hf
 refine s_m hf rfl ?_; clear hf a; intro a hf
 refine s_do hf rfl (y_call (hf.eval rfl) (hf.evals rfl) Tryz.call97 ((at32_spec _ _ _ data (hs.oldB hr1) 32 (by omega) hl1).mono ?_))
 rintro e w1 ⟨rfl, hk⟩
 replace hs := hs.ext hk
 refine ⟨_, rfl, ?_⟩; clear hf a; intro a hf
 have hlast := rd32_lt data 32
 refine s_v hf (x_conv Tryz.underlying3 Tryz.underlying96 (hf.eval rfl)) ?_; clear hf a; intro a hf
 replace hf := hf.now (k := 25) (v' := .int .u32 ((rd32 data 32 : Nat) : Int)) rfl (by rw [wrap_u32]; congr 1; omega)
 refine s_r hf (x_build (v := .agg (slF (dsF data : Sl)).toArray) (hf.parts rfl) (fun w => by kernel_rfl) _) ?_; clear hf a; intro a hf
 refine s_do hf rfl (y_alloc hs Tryz.zeroValue99 ?_); clear hf hs a; intro b4 w hs a hf
 change St _ _ (cb b4 99 (slF zSl) :: _) at hs
 refine s_do0 hf rfl (y_storeAgg (cs := slF (dsF data : Sl)) hs (n := 7) (by kernel_rfl) (hf.eval rfl) (hf.eval rfl) (by simp [Value.oneCell', slF]) rfl rfl .k0 ?_); clear hf hs a; intro w hs a hf
 refine s_nil (then_n (wp_seq (wp_region_lit ?_)))
 replace hs := hs.take (A := cb b4 99 (slF (dsF data : Sl))) (by repeat constructor)
 refine s_r hf (x_loadBlk hs ag99 (hf.eval rfl) rfl (by repeat constructor)) ?_; clear hf a; intro a hf
 refine s_do hf rfl (y_call (hf.eval rfl) (hf.evals rfl) Tryz.call53 ((rencode_spec _ (dsF data : Sl) (rd32_lt data 32)).mono ?_))
 rintro e w1 ⟨g, cg, rfl, hj⟩
 replace hs := hs.join hj
 simp only [List.cons_append, List.nil_append] at hs
 refine ⟨_, rfl, ?_⟩; clear hf a; intro a hf
 refine s_m hf rfl ?_; clear hf a; intro a hf
 refine s_v hf (x_extract (hf.eval rfl) rfl) ?_; clear hf a; intro a hf
 refine s_v hf (x_extract (hf.eval rfl) rfl) ?_; clear hf a; intro a hf
 refine s_a hf rfl ?_; clear hf a; intro a hf
 refine s_a hf rfl ?_; clear hf a; intro a hf
 refine s_nil (then_n (wp_seq (wp_seq (wp_region_lit ?_))))
 refine s_m hf rfl ?_; clear hf a; intro a hf
 refine s_v hf (x_bin (hf.eval rfl) (hf.eval rfl) (r_ne _ _ _ _)) ?_; clear hf a; intro a hf
 refine s_m hf rfl ?_; clear hf a; intro a hf
 refine s_bool hf (k := 34) rfl (fun hg5_2 hf' => ?_) (fun hg5_2 hf' => ?_)
 ·clear hf
  have hf := hf'
  clear hf'
  first | simp only [zd1, zd2, zd3, zd4] at hg5_2 | skip
  refine s_pass hf rfl rfl ?_; clear hf a; intro a hf
  refine s_pass hf rfl rfl ?_; clear hf a; intro a hf
  refine s_pass hf rfl rfl ?_; clear hf a; intro a hf
  refine s_pass hf rfl rfl ?_; clear hf a; intro a hf
  refine s_v hf (x_pick_t (hf.eval rfl) (hf.eval rfl)) ?_; clear hf a; intro a hf
  refine s_nil (then_n ?_)
  refine c_cond_t hf rfl rfl ?_
  have hno : decOk data = false := by
    unfold decOk
    by_cases h8 : data.length = 512
    · cases h9 : slOk (dsF data) with
      | false => simp
      | true =>
        obtain ⟨he1, he2⟩ := enc_ok h9
        first
        | exact absurd he1 hg5_2
        | (rw [he2] at hi1; rw [decide_eq_false hi1]; simp)
    · simp [h8]
  refine wp_seq (wp_region_lit ?_)
  refine s_r hf (x_build (v := .agg (slF zSl).toArray) (hf.parts rfl) (fun w => by kernel_rfl) _) ?_; clear hf a; intro a hf
  replace hs := hs.take (A := cb b2 99 (slF zSl)) (by repeat constructor)
  refine s_do0 hf rfl (y_storeAgg (cs := slF zSl) hs (n := 7) (by kernel_rfl) (hf.eval rfl) (hf.eval rfl) (by simp [Value.oneCell', slF]) rfl rfl .k0 ?_); clear hf hs a; intro w hs a hf
  refine s_a hf rfl ?_; clear hf a; intro a hf
  refine s_nil (then_n ?_)
  refine wp_ret ?_
  refine then_r ?_
  refine r_2c hf Tryz.results96 rfl rfl hs ag99 rfl .k0 ?_
  rw [(dec_no hno).1, (dec_no hno).2]
  exact ⟨rfl, hs.kept⟩
 clear hf
 have hf := hf'
 clear hf'
 first | simp only [zd1, zd2, zd3, zd4] at hg5_2 | skip
 refine s_do hf (wanted_of hf rfl rfl rfl) (.value (x_move (hf.eval rfl) _) ?_); clear hf a; intro a hf
 refine s_do hf (wanted_of hf rfl rfl rfl) (.value (x_move (hf.eval rfl) _) ?_); clear hf a; intro a hf
 replace hs := hs.take (A := slB 5 (.slice g (encV (dsF data : Sl)).length cg) (encV (dsF data : Sl))) (by repeat constructor)
 have hel := encV_len (dsF data)
 refine s_do hf (wanted_of hf rfl rfl rfl) (y_call (hf.eval rfl) (hf.evals rfl) Tryz.call114 ((rsame_spec _ _ _ (encV (dsF data : Sl)) (hs.rdB .k0 fun h => slB_rd) _ _ data (hs.oldB hr1) (by omega)).mono ?_))
 rintro e w1 ⟨rfl, hk⟩
 replace hs := hs.ext hk
 refine ⟨_, rfl, ?_⟩; clear hf a; intro a hf
 refine s_do hf (wanted_of hf rfl rfl rfl) (.value (x_not (hf.eval rfl) _) ?_); clear hf a; intro a hf
 refine s_v hf (x_pick_f (hf.eval rfl) (hf.eval rfl)) ?_; clear hf a; intro a hf
 refine s_nil (then_n ?_)
 refine c_cond hf rfl (fun hi1 => ?_) (fun hi1 => ?_)
 ·first | simp only [zd1, zd2, zd3, zd4] at hi1 | skip
  have hno : decOk data = false := by
    unfold decOk
    by_cases h8 : data.length = 512
    · cases h9 : slOk (dsF data) with
      | false => simp
      | true =>
        obtain ⟨he1, he2⟩ := enc_ok h9
        first
        | exact absurd he1 hg5_2
        | (rw [he2] at hi1; rw [decide_eq_false hi1]; simp)
    · simp [h8]
  refine wp_seq (wp_region_lit ?_)
  refine s_r hf (x_build (v := .agg (slF zSl).toArray) (hf.parts rfl) (fun w => by kernel_rfl) _) ?_; clear hf a; intro a hf
  replace hs := hs.take (A := cb b2 99 (slF zSl)) (by repeat constructor)
  refine s_do0 hf rfl (y_storeAgg (cs := slF zSl) hs (n := 7) (by kernel_rfl) (hf.eval rfl) (hf.eval rfl) (by simp [Value.oneCell', slF]) rfl rfl .k0 ?_); clear hf hs a; intro w hs a hf
  refine s_a hf rfl ?_; clear hf a; intro a hf
  refine s_nil (then_n ?_)
  refine wp_ret ?_
  refine then_r ?_
  refine r_2c hf Tryz.results96 rfl rfl hs ag99 rfl .k0 ?_
  rw [(dec_no hno).1, (dec_no hno).2]
  exact ⟨rfl, hs.kept⟩
 first | simp only [zd1, zd2, zd3, zd4] at hi1 | skip
 have hsk : slOk (dsF data) = true := by
   cases h9 : slOk (dsF data) with
   | true => rfl
   | false => exact absurd (enc_no h9).1 (by rw [hg5_2]; decide)
 have hse : secS (dsF data) = data := by rw [← (enc_ok hsk).2]; exact hi1
 have hyes : decOk data = true := by unfold decOk; rw [hsk, decide_eq_true hl5, decide_eq_true hse]; rfl
 refine wp_skip (then_n (wp_seq (wp_region_lit ?_)))
 replace hs := hs.take (A := cb b4 99 (slF (dsF data : Sl))) (by repeat constructor)
 refine s_r hf (x_loadBlk hs ag99 (hf.eval rfl) rfl (by repeat constructor)) ?_; clear hf a; intro a hf
 replace hs := hs.take (A := cb b2 99 (slF zSl)) (by repeat constructor)
 refine s_do0 hf rfl (y_storeAgg (cs := slF (dsF data : Sl)) hs (n := 7) (by kernel_rfl) (hf.eval rfl) (hf.eval rfl) (by simp [Value.oneCell', slF]) rfl rfl .k0 ?_); clear hf hs a; intro w hs a hf
 refine s_a hf rfl ?_; clear hf a; intro a hf
 refine s_nil (then_n ?_)
 refine wp_ret ?_
 refine r_2c hf Tryz.results96 rfl rfl hs ag99 rfl .k0 ?_
 rw [(dec_yes hyes).1, (dec_yes hyes).2]
 exact ⟨rfl, hs.kept⟩
end Go.Proofs.YtehakfbfjpolfaaGreatDoor

namespace Go.Proofs.YtehakfbfjpolfaaGreatDoor
open Go Vw
theorem pre_rd {h : Heaplet} {a : Option Addr} {c n : Nat} {l : List UInt8} (hr : RdB h (.slice a l.length c) l) (hn : n ≤ l.length) : RdB h (.slice a n c) (l.take n) := by
  have hc := RdB.cap hr
  have hlen : (l.take n).length = n := by rw [List.length_take]; omega
  have h0 : RdB h (.slice (subA a c 0 1) (l.take n).length c) (l.take n) := by
    have h1 := RdB.sub (i := 0) (j := n) hr rfl (by omega) (by omega)
    rw [hlen]
    simpa using h1
  rw [hlen] at h0
  have e : subA a c 0 1 = a := by unfold subA; split <;> (cases a <;> simp [Addr.add])
  rwa [e] at h0
theorem trimByte_spec (w0 : World) (a1 : Option Addr) (c1 : Nat) (l : List UInt8) (hr1 : RdB (hp w0) (.slice a1 l.length c1) l) (hl1 : l.length ≤ 140737488351232) : Calls Tryz.prog 118 #[.slice a1 l.length c1, u8v 0] w0 fun e w' => e = .returned (.slice a1 (l.length - zt l) c1) ∧ Kept w0 w' None_ := by
 have hs := St.start w0 None_
 have hcp := RdB.cap hr1
 refine c_enter (N := 24) Tryz.func118 rfl Tryz.ntmps118 (by simp) ?_
 intro a hf
 refine wp_seq (wp_region_lit ?_)
 refine s_a hf rfl ?_; clear hf a; intro a hf
 refine s_nil (then_n (wp_seq (wp_block ?_)))
 refine c_loop (L0 := [(1, _), (4, _)]) (fun M w m => ∃ n : Nat, M = [(0, .slice a1 n c1)] ∧ n = m ∧ n ≤ l.length ∧ zt l = (l.length - n) + zt (l.take n) ∧ St ⟨w0, None_⟩ w []) (M0 := _) (⟨l.length, rfl, rfl, Nat.le_refl _, by rw [List.take_length]; omega, hs⟩) (hf.sub ⟨rfl, rfl, rfl, trivial⟩) ?_
 clear hf hs a
 rintro M m a w ⟨n, rfl, rfl, hn, hz, hs⟩ hf
 refine wp_seq (wp_seq (wp_region_lit ?_))
 refine s_m hf rfl ?_; clear hf a; intro a hf
 refine s_v hf (x_len Tryz.underlying22 (hf.eval rfl)) ?_; clear hf a; intro a hf
 refine s_v hf (x_bin (hf.eval rfl) (hf.eval rfl) (r_gt _ _ _ _)) ?_; clear hf a; intro a hf
 refine s_m hf rfl ?_; clear hf a; intro a hf
 refine s_bool hf (k := 8) rfl (fun hg1_3 hf' => ?_) (fun hg1_3 hf' => ?_)
 ·clear hf
  have hf := hf'
  clear hf'
  first | simp only [zd1, zd2, zd3, zd4] at hg1_3 | skip
  obtain ⟨n, rfl⟩ : ∃ k, n = k + 1 := ⟨n - 1, by omega⟩
  have hlt : n < l.length := by omega
  obtain ⟨a1, rfl⟩ := hr1.some (by omega)
  refine s_do hf (wanted_of hf rfl rfl rfl) (.value (x_move (hf.eval rfl) _) ?_); clear hf a; intro a hf
  refine s_do hf (wanted_of hf rfl rfl rfl) (.value (x_move (hf.eval rfl) _) ?_); clear hf a; intro a hf
  refine s_do hf (wanted_of hf rfl rfl rfl) (.value (x_len Tryz.underlying22 (hf.eval rfl) _) ?_); clear hf a; intro a hf
  refine s_do hf (wanted_of hf rfl rfl rfl) (.value (x_bin (hf.eval rfl) (hf.eval rfl) (r_subi _ (by omega) (by omega)) _) ?_); clear hf a; intro a hf
  replace hf := hf.now (k := 12) (v' := .int .i64 (n : Int)) rfl (by congr 1 <;> omega)
  refine s_do hf (wanted_of hf rfl rfl rfl) (.value (x_indexAddr sl22 (hf.eval rfl) (hf.eval rfl) (by omega) (by omega) _) ?_); clear hf a; intro a hf
  refine s_do hf (wanted_of hf rfl rfl rfl) (.value (x_loadB (i := (n : Int)) sc5 (hs.oldB hr1) (hf.eval rfl) (by rw [Int.toNat_natCast]; exact hlt)) ?_); clear hf a; intro a hf
  replace hf := hf.now (k := 14) (v' := u8v l[n]) rfl (rfl)
  refine s_do hf (wanted_of hf rfl rfl rfl) (.value (x_move (hf.eval rfl) _) ?_); clear hf a; intro a hf
  refine s_do hf (wanted_of hf rfl rfl rfl) (.value (x_bin (hf.eval rfl) (hf.eval rfl) (r_eq _ _ _ _) _) ?_); clear hf a; intro a hf
  refine s_v hf (x_pick_t (hf.eval rfl) (hf.eval rfl)) ?_; clear hf a; intro a hf
  refine s_nil (then_n ?_)
  refine c_cond hf rfl (fun hi0 => ?_) (fun hi0 => ?_)
  ·first | simp only [zd1, zd2, zd3, zd4] at hi0 | skip
   have h0 : l[n] = 0 := UInt8.toNat_inj.1 (by omega)
   have hz9 : zt l = (l.length - n) + zt (l.take n) := by rw [hz, zt_take0 hlt h0]; omega
   refine wp_skip (then_n (wp_block (wp_region_lit ?_)))
   refine s_m hf rfl ?_; clear hf a; intro a hf
   refine s_m hf rfl ?_; clear hf a; intro a hf
   refine s_v hf (x_len Tryz.underlying22 (hf.eval rfl)) ?_; clear hf a; intro a hf
   refine s_v hf (x_bin (hf.eval rfl) (hf.eval rfl) (r_subi _ (by omega) (by omega))) ?_; clear hf a; intro a hf
   replace hf := hf.now (k := 21) (v' := .int .i64 (n : Int)) rfl (by congr 1 <;> omega)
   refine s_v hf (x_slice_hi sl22 (hf.eval rfl) (hf.eval rfl)  (by omega) (by omega)) ?_; clear hf a; intro a hf
   replace hf := hf.now (k := 22) (v' := .slice (some a1) n c1) rfl (rfl)
   refine s_a hf rfl ?_; clear hf a; intro a hf
   refine s_nil (blk_n ?_)
   exact ⟨_, _, ⟨n, rfl, rfl, by omega, hz9, hs⟩, by omega, hf.sub ⟨rfl, rfl, rfl, trivial⟩⟩
  first | simp only [zd1, zd2, zd3, zd4] at hi0 | skip
  refine wp_exit (then_x (then_x (blk_x (then_n (wp_seq (wp_region_lit ?_))))))
  refine s_m hf rfl ?_; clear hf a; intro a hf
  refine s_a hf rfl ?_; clear hf a; intro a hf
  refine s_nil (then_n ?_)
  refine wp_ret ?_
  refine r_1 hf Tryz.results118 rfl ?_
  first | (rw [show l.length - zt l = n by rw [hz, show n = 0 by omega, List.take_zero, zt_nil] <;> omega]; exact ⟨rfl, hs.kept⟩) | (rw [show l.length - zt l = n + 1 by rw [hz, zt_take1 hlt (fun h9 => hi0 (by rw [h9]))]; omega]; exact ⟨rfl, hs.kept⟩)
 clear hf
 have hf := hf'
 clear hf'
 first | simp only [zd1, zd2, zd3, zd4] at hg1_3 | skip
 refine s_pass hf rfl rfl ?_; clear hf a; intro a hf
 refine s_pass hf rfl rfl ?_; clear hf a; intro a hf
 refine s_pass hf rfl rfl ?_; clear hf a; intro a hf
 refine s_pass hf rfl rfl ?_; clear hf a; intro a hf
 refine s_pass hf rfl rfl ?_; clear hf a; intro a hf
 refine s_pass hf rfl rfl ?_; clear hf a; intro a hf
 refine s_pass hf rfl rfl ?_; clear hf a; intro a hf
 refine s_pass hf rfl rfl ?_; clear hf a; intro a hf
 refine s_v hf (x_pick_f (hf.eval rfl) (hf.eval rfl)) ?_; clear hf a; intro a hf
 refine s_nil (then_n ?_)
 refine c_cond_f hf rfl rfl ?_
 refine wp_exit (then_x (then_x (blk_x (then_n (wp_seq (wp_region_lit ?_))))))
 refine s_m hf rfl ?_; clear hf a; intro a hf
 refine s_a hf rfl ?_; clear hf a; intro a hf
 refine s_nil (then_n ?_)
 refine wp_ret ?_
 refine r_1 hf Tryz.results118 rfl ?_
 first | (rw [show l.length - zt l = n by rw [hz, show n = 0 by omega, List.take_zero, zt_nil] <;> omega]; exact ⟨rfl, hs.kept⟩) | (rw [show l.length - zt l = n + 1 by rw [hz, zt_take1 hlt (fun h9 => hi0 (by rw [h9]))]; omega]; exact ⟨rfl, hs.kept⟩)
theorem trim_spec (w0 : World) (a1 : Option Addr) (c1 : Nat) (l : List UInt8) (hr1 : RdB (hp w0) (.slice a1 l.length c1) l) (hl1 : l.length ≤ 140737488351232) : Calls Tryz.prog 111 #[.slice a1 l.length c1, .string ⟨#[0]⟩] w0 fun e w' => e = .returned (.slice a1 (l.length - zt l) c1) ∧ Kept w0 w' None_ := by
 have hs := St.start w0 None_
 refine c_enter (N := 38) Tryz.func111 rfl Tryz.ntmps111 (by simp) ?_
 intro a hf
 refine wp_seq (wp_region_lit ?_)
 refine s_a hf rfl ?_; clear hf a; intro a hf
 refine s_nil (then_n (wp_seq (wp_seq (wp_region_lit ?_))))
 refine s_m hf rfl ?_; clear hf a; intro a hf
 refine s_v hf (x_len Tryz.underlying22 (hf.eval rfl)) ?_; clear hf a; intro a hf
 refine s_v hf (x_bin (hf.eval rfl) (hf.eval rfl) (r_eq _ _ _ _)) ?_; clear hf a; intro a hf
 refine s_m hf rfl ?_; clear hf a; intro a hf
 refine s_bool hf (k := 10) rfl (fun hg1_3 hf' => ?_) (fun hg1_3 hf' => ?_)
 ·clear hf
  have hf := hf'
  clear hf'
  first | simp only [zd1, zd2, zd3, zd4] at hg1_3 | skip
  refine s_pass hf rfl rfl ?_; clear hf a; intro a hf
  refine s_pass hf rfl rfl ?_; clear hf a; intro a hf
  refine s_v hf (x_pick_t (hf.eval rfl) (hf.eval rfl)) ?_; clear hf a; intro a hf
  refine s_nil (then_n ?_)
  refine c_cond_t hf rfl rfl ?_
  refine wp_seq (wp_region_lit ?_)
  refine s_m hf rfl ?_; clear hf a; intro a hf
  refine s_a hf rfl ?_; clear hf a; intro a hf
  refine s_nil (then_n ?_)
  refine wp_ret ?_
  refine then_r ?_
  refine r_1 hf Tryz.results111 rfl ?_
  first | exact absurd hi0 (by simp) | (have hz := zt_le l; exact ⟨by rw [show l.length - zt l = l.length by omega], hs.kept⟩)
 clear hf
 have hf := hf'
 clear hf'
 first | simp only [zd1, zd2, zd3, zd4] at hg1_3 | skip
 refine s_do hf (wanted_of hf rfl rfl rfl) (.value (x_move (hf.eval rfl) _) ?_); clear hf a; intro a hf
 refine s_do hf (wanted_of hf rfl rfl rfl) (.value (x_strEq (hf.eval rfl) (hf.eval rfl) _) ?_); clear hf a; intro a hf
 replace hf := hf.now (k := 12) (v' := .bool false) rfl (by rw [show (⟨#[0]⟩ : ByteArray).toList = [0] from bytes_toList [0], show (⟨#[]⟩ : ByteArray).toList = [] from bytes_toList []]; rfl)
 refine s_v hf (x_pick_f (hf.eval rfl) (hf.eval rfl)) ?_; clear hf a; intro a hf
 refine s_nil (then_n ?_)
 refine c_cond hf rfl (fun hi0 => ?_) (fun hi0 => ?_)
 ·skip
  refine wp_seq (wp_region_lit ?_)
  refine s_m hf rfl ?_; clear hf a; intro a hf
  refine s_a hf rfl ?_; clear hf a; intro a hf
  refine s_nil (then_n ?_)
  refine wp_ret ?_
  refine then_r ?_
  refine r_1 hf Tryz.results111 rfl ?_
  first | exact absurd hi0 (by simp) | (have hz := zt_le l; exact ⟨by rw [show l.length - zt l = l.length by omega], hs.kept⟩)
 skip
 refine wp_skip (then_n (wp_seq (wp_seq (wp_region_lit ?_))))
 refine s_m hf rfl ?_; clear hf a; intro a hf
 refine s_v hf (x_lenS Tryz.underlying9 (hf.eval rfl)) ?_; clear hf a; intro a hf
 replace hf := hf.now (k := 16) (v' := .int .i64 1) rfl (rfl)
 refine s_v hf (x_bin (hf.eval rfl) (hf.eval rfl) (r_eq _ _ _ _)) ?_; clear hf a; intro a hf
 refine s_m hf rfl ?_; clear hf a; intro a hf
 replace hf := hf.now (k := 18) (v' := .bool true) rfl (congrArg Value.bool rfl)
 refine s_do hf (wanted_of hf rfl rfl rfl) (.value (x_move (hf.eval rfl) _) ?_); clear hf a; intro a hf
 refine s_do hf (wanted_of hf rfl rfl rfl) (.value (x_indexStr (l := [0]) (i := 0) Tryz.underlying9 (hf.eval rfl) rfl (by decide) _) ?_); clear hf a; intro a hf
 replace hf := hf.now (k := 20) (v' := u8v 0) rfl (rfl)
 refine s_do hf (wanted_of hf rfl rfl rfl) (.value (x_bin (hf.eval rfl) (hf.eval rfl) (r_lt _ _ _ _) _) ?_); clear hf a; intro a hf
 refine s_v hf (x_pick_t (hf.eval rfl) (hf.eval rfl)) ?_; clear hf a; intro a hf
 refine s_nil (then_n ?_)
 refine c_cond_t hf rfl rfl ?_
 refine wp_seq (wp_region_lit ?_)
 refine s_m hf rfl ?_; clear hf a; intro a hf
 refine s_m hf rfl ?_; clear hf a; intro a hf
 refine s_r hf (x_indexStr (l := [0]) (i := 0) Tryz.underlying9 (hf.eval rfl) rfl (by decide) _) ?_; clear hf a; intro a hf
 replace hf := hf.now (k := 25) (v' := u8v 0) rfl (rfl)
 refine s_do hf rfl (y_call (hf.eval rfl) (hf.evals rfl) Tryz.call118 ((trimByte_spec _ _ _ l (hs.oldB hr1) hl1).mono ?_))
 rintro e w1 ⟨rfl, hk⟩
 replace hs := hs.ext hk
 refine ⟨_, rfl, ?_⟩; clear hf a; intro a hf
 refine s_a hf rfl ?_; clear hf a; intro a hf
 refine s_nil (then_n ?_)
 refine wp_ret ?_
 refine then_r ?_
 refine r_1 hf Tryz.results111 rfl ?_
 exact ⟨rfl, hs.kept⟩
theorem tail_spec (w0 : World) (a1 : Option Addr) (c1 : Nat) (l : List UInt8) (hr1 : RdB (hp w0) (.slice a1 l.length c1) l) (hl1 : l.length ≤ 140737488351232) : Calls Tryz.prog 92 #[.slice a1 l.length c1] w0 fun e w' => e = .returned (.int .i64 (zt l : Int)) ∧ Kept w0 w' None_ := by
 have hs := St.start w0 None_
 refine c_enter (N := 9) Tryz.func92 rfl Tryz.ntmps92 (by simp) ?_
 intro a hf
 refine wp_seq (wp_region_lit ?_)
 refine s_a hf rfl ?_; clear hf a; intro a hf
 refine s_nil (then_n (wp_seq (wp_region_lit ?_)))
 refine s_m hf rfl ?_; clear hf a; intro a hf
 refine s_v hf (x_len Tryz.underlying22 (hf.eval rfl)) ?_; clear hf a; intro a hf
 refine s_m hf rfl ?_; clear hf a; intro a hf
 refine s_do hf rfl (y_call (hf.eval rfl) (hf.evals rfl) Tryz.call111 ((trim_spec _ _ _ l (hs.oldB hr1) hl1).mono ?_))
 rintro e w1 ⟨rfl, hk⟩
 replace hs := hs.ext hk
 refine ⟨_, rfl, ?_⟩; clear hf a; intro a hf
 refine s_v hf (x_len Tryz.underlying22 (hf.eval rfl)) ?_; clear hf a; intro a hf
 refine s_v hf (x_bin (hf.eval rfl) (hf.eval rfl) (r_subi _ (by omega) (by omega))) ?_; clear hf a; intro a hf
 refine s_a hf rfl ?_; clear hf a; intro a hf
 refine s_nil (then_n ?_)
 refine wp_ret ?_
 refine r_1 hf Tryz.results92 rfl ?_
 have hz := zt_le l
 exact ⟨by congr 2; omega, hs.kept⟩
theorem rtail_spec (w0 : World) (a1 : Option Addr) (c1 : Nat) (l : List UInt8) (hr1 : RdB (hp w0) (.slice a1 l.length c1) l) (hl1 : l.length ≤ 140737488351232) : Calls Tryz.prog 94 #[.slice a1 l.length c1] w0 fun e w' => e = .returned (.int .i64 (zt l : Int)) ∧ Kept w0 w' None_ := by
 have hs := St.start w0 None_
 refine c_enter (N := 22) Tryz.func94 rfl Tryz.ntmps94 (by simp) ?_
 intro a hf
 refine wp_seq (wp_region_lit ?_)
 refine s_a hf rfl ?_; clear hf a; intro a hf
 refine s_nil (then_n (wp_seq (wp_region_lit ?_)))
 refine s_a hf rfl ?_; clear hf a; intro a hf
 refine s_nil (then_n (wp_seq (wp_block ?_)))
 refine c_loop (L0 := [(0, _), (2, _)]) (fun M w m => ∃ n : Nat, M = [(3, .int .i64 ((l.length - n : Nat) : Int))] ∧ n = m ∧ n ≤ l.length ∧ zt l = (l.length - n) + zt (l.take n) ∧ St ⟨w0, None_⟩ w []) (M0 := [(3, .int .i64 0)]) (⟨l.length, by rw [Nat.sub_self]; rfl, rfl, Nat.le_refl _, by rw [List.take_length]; omega, hs⟩) (hf.sub ⟨rfl, rfl, rfl, trivial⟩) ?_
 clear hf hs a
 rintro M m a w ⟨n, rfl, rfl, hn, hz, hs⟩ hf
 refine wp_seq (wp_seq (wp_region_lit ?_))
 refine s_m hf rfl ?_; clear hf a; intro a hf
 refine s_m hf rfl ?_; clear hf a; intro a hf
 refine s_v hf (x_len Tryz.underlying22 (hf.eval rfl)) ?_; clear hf a; intro a hf
 refine s_v hf (x_bin (hf.eval rfl) (hf.eval rfl) (r_lt _ _ _ _)) ?_; clear hf a; intro a hf
 refine s_m hf rfl ?_; clear hf a; intro a hf
 refine s_bool hf (k := 8) rfl (fun hg2_4 hf' => ?_) (fun hg2_4 hf' => ?_)
 ·clear hf
  have hf := hf'
  clear hf'
  first | simp only [zd1, zd2, zd3, zd4] at hg2_4 | skip
  obtain ⟨n, rfl⟩ : ∃ k, n = k + 1 := ⟨n - 1, by omega⟩
  have hlt : n < l.length := by omega
  obtain ⟨a1, rfl⟩ := hr1.some (by omega)
  refine s_do hf (wanted_of hf rfl rfl rfl) (.value (x_move (hf.eval rfl) _) ?_); clear hf a; intro a hf
  refine s_do hf (wanted_of hf rfl rfl rfl) (.value (x_move (hf.eval rfl) _) ?_); clear hf a; intro a hf
  refine s_do hf (wanted_of hf rfl rfl rfl) (.value (x_len Tryz.underlying22 (hf.eval rfl) _) ?_); clear hf a; intro a hf
  refine s_do hf (wanted_of hf rfl rfl rfl) (.value (x_bin (hf.eval rfl) (hf.eval rfl) (r_subi _ (by omega) (by omega)) _) ?_); clear hf a; intro a hf
  refine s_do hf (wanted_of hf rfl rfl rfl) (.value (x_move (hf.eval rfl) _) ?_); clear hf a; intro a hf
  refine s_do hf (wanted_of hf rfl rfl rfl) (.value (x_bin (hf.eval rfl) (hf.eval rfl) (r_subi _ (by omega) (by omega)) _) ?_); clear hf a; intro a hf
  replace hf := hf.now (k := 14) (v' := .int .i64 (n : Int)) rfl (by congr 1 <;> omega)
  refine s_do hf (wanted_of hf rfl rfl rfl) (.value (x_indexAddr sl22 (hf.eval rfl) (hf.eval rfl) (by omega) (by omega) _) ?_); clear hf a; intro a hf
  refine s_do hf (wanted_of hf rfl rfl rfl) (.value (x_loadB (i := (n : Int)) sc5 (hs.oldB hr1) (hf.eval rfl) (by rw [Int.toNat_natCast]; exact hlt)) ?_); clear hf a; intro a hf
  replace hf := hf.now (k := 16) (v' := u8v l[n]) rfl (rfl)
  refine s_do hf (wanted_of hf rfl rfl rfl) (.value (x_bin (hf.eval rfl) (hf.eval rfl) (r_eq _ _ _ _) _) ?_); clear hf a; intro a hf
  refine s_v hf (x_pick_t (hf.eval rfl) (hf.eval rfl)) ?_; clear hf a; intro a hf
  refine s_nil (then_n ?_)
  refine c_cond hf rfl (fun hi0 => ?_) (fun hi0 => ?_)
  ·first | simp only [zd1, zd2, zd3, zd4] at hi0 | skip
   have h0 : l[n] = 0 := UInt8.toNat_inj.1 (by show l[n].toNat = 0; omega)
   have hz9 : zt l = (l.length - n) + zt (l.take n) := by rw [hz, zt_take0 hlt h0]; omega
   refine wp_skip (then_n (wp_block (wp_region_lit ?_)))
   refine s_m hf rfl ?_; clear hf a; intro a hf
   refine s_v hf (x_bin (hf.eval rfl) (hf.eval rfl) (r_addi _ (by omega) (by omega))) ?_; clear hf a; intro a hf
   replace hf := hf.now (k := 20) (v' := .int .i64 ((l.length - n : Nat) : Int)) rfl (by congr 1 <;> omega)
   refine s_a hf rfl ?_; clear hf a; intro a hf
   refine s_nil (blk_n ?_)
   exact ⟨_, _, ⟨n, rfl, rfl, by omega, hz9, hs⟩, by omega, hf.sub ⟨rfl, rfl, rfl, trivial⟩⟩
  first | simp only [zd1, zd2, zd3, zd4] at hi0 | skip
  refine wp_exit (then_x (then_x (blk_x (then_n (wp_seq (wp_region_lit ?_))))))
  refine s_m hf rfl ?_; clear hf a; intro a hf
  refine s_a hf rfl ?_; clear hf a; intro a hf
  refine s_nil (then_n ?_)
  refine wp_ret ?_
  refine r_1 hf Tryz.results94 rfl ?_
  first | (rw [show zt l = l.length - n by rw [hz, show n = 0 by omega, List.take_zero, zt_nil] <;> omega]; exact ⟨rfl, hs.kept⟩) | (rw [show zt l = l.length - (n + 1) by rw [hz, zt_take1 hlt (fun h9 => hi0 (by rw [h9]; rfl))]; omega]; exact ⟨rfl, hs.kept⟩)
 clear hf
 have hf := hf'
 clear hf'
 first | simp only [zd1, zd2, zd3, zd4] at hg2_4 | skip
 refine s_pass hf rfl rfl ?_; clear hf a; intro a hf
 refine s_pass hf rfl rfl ?_; clear hf a; intro a hf
 refine s_pass hf rfl rfl ?_; clear hf a; intro a hf
 refine s_pass hf rfl rfl ?_; clear hf a; intro a hf
 refine s_pass hf rfl rfl ?_; clear hf a; intro a hf
 refine s_pass hf rfl rfl ?_; clear hf a; intro a hf
 refine s_pass hf rfl rfl ?_; clear hf a; intro a hf
 refine s_pass hf rfl rfl ?_; clear hf a; intro a hf
 refine s_pass hf rfl rfl ?_; clear hf a; intro a hf
 refine s_v hf (x_pick_f (hf.eval rfl) (hf.eval rfl)) ?_; clear hf a; intro a hf
 refine s_nil (then_n ?_)
 refine c_cond_f hf rfl rfl ?_
 refine wp_exit (then_x (then_x (blk_x (then_n (wp_seq (wp_region_lit ?_))))))
 refine s_m hf rfl ?_; clear hf a; intro a hf
 refine s_a hf rfl ?_; clear hf a; intro a hf
 refine s_nil (then_n ?_)
 refine wp_ret ?_
 refine r_1 hf Tryz.results94 rfl ?_
 first | (rw [show zt l = l.length - n by rw [hz, show n = 0 by omega, List.take_zero, zt_nil] <;> omega]; exact ⟨rfl, hs.kept⟩) | (rw [show zt l = l.length - (n + 1) by rw [hz, zt_take1 hlt (fun h9 => hi0 (by rw [h9]; rfl))]; omega]; exact ⟨rfl, hs.kept⟩)
end Go.Proofs.YtehakfbfjpolfaaGreatDoor

namespace Go.Proofs.YtehakfbfjpolfaaGreatDoor
open Go Vw
theorem back_spec (w0 : World) (s : Sl) (hsu : s.2.2.2.2.2.2 < 4294967296) (hso : 0 ≤ s.2.2.1 ∧ s.2.2.1 ≤ 16777216) (hsc : 0 ≤ s.2.2.2.2.1 ∧ s.2.2.2.2.1 ≤ 4294967295) (a1 : Option Addr) (c1 : Nat) (body : List UInt8) (hr1 : RdB (hp w0) (.slice a1 body.length c1) body) (hl1 : body.length ≤ 16777216) : Calls Tryz.prog 64 #[.agg (slF s).toArray, .slice a1 body.length c1] w0 fun e w' => ∃ (v : Value) (k : Nat), e = .returned (.tuple #[v, .bool (bkOk s body)]) ∧ (bkOk s body = true → k = s.2.2.2.2.1.toNat) ∧ St ⟨w0, None_⟩ w' [sl 119 2 v (spL body k).length ((spL body k).flatMap spF)] := by
 have hs := St.start w0 None_
 obtain ⟨N, hN⟩ : ∃ N : Nat, s.2.2.2.2.1 = (N : Int) := ⟨s.2.2.2.2.1.toNat, by omega⟩
 have hNt : s.2.2.2.2.1.toNat = N := by omega
 refine c_enter (N := 76) Tryz.func64 rfl Tryz.ntmps64 (by simp) ?_
 intro a hf
 refine wp_seq (wp_region_lit ?_)
 refine s_do hf rfl (y_box hs (hf.eval rfl) ?_); clear hf hs a; intro b2 w hs a hf
 replace hs : St _ w (cb b2 99 (slF s) :: _) := hs
 refine s_a hf rfl ?_; clear hf a; intro a hf
 refine s_a hf rfl ?_; clear hf a; intro a hf
 refine s_nil (then_n (wp_seq (wp_seq ?_)))
 refine c_draw hs (fun w' => w'.cell? ⟨b2, 6, none⟩ = some (.int .u32 (s.2.2.2.2.2.2 : Int))) [.held, .eff, .held, .held, .held, .held, .held, .read, .held, .held, .held, .held, .held] (by kernel_rfl) (by kernel_rfl) (fun _ _ hs => hs.cell (k := 6) .k0 rfl) ?_
 clear hs; intro w hs hC hw
 refine m_held hf rfl (fun w' _ => x_move (hf.eval rfl) w') ?_; clear hf a; intro a hf
 refine m_eff hf rfl (y_call (hf.eval rfl) (hf.evals rfl) Tryz.call52 ((refSum_spec _ _ _ body (hs.oldB hr1) (by omega)).mono ?_))
 rintro e w1 ⟨rfl, hk⟩
 replace hs := hs.ext hk
 refine ⟨_, rfl, ⟨hs.cell (k := 6) .k0 rfl, ?_⟩⟩; clear hf a; intro a hf
 refine m_held hf rfl (fun w' _ => x_fieldAddr fo99_6 (hf.eval rfl) w') ?_; clear hf a; intro a hf
 refine m_held hf rfl (fun w' hc => x_load sc96 (hf.eval rfl) hc) ?_; clear hf a; intro a hf
 refine m_held hf rfl (fun w' _ => x_bin (hf.eval rfl) (hf.eval rfl) (r_ne _ _ _ _) w') ?_; clear hf a; intro a hf
 refine m_held hf rfl (fun w' _ => x_move (hf.eval rfl) w') ?_; clear hf a; intro a hf
 refine s_bool hf (k := 17) rfl (fun hg1_5 hf' => ?_) (fun hg1_5 hf' => ?_)
 ·clear hf
  have hf := hf'
  clear hf'
  first | simp only [zd1, zd2, zd3, zd4] at hg1_5 | skip
  refine m_pass hf rfl rfl ?_; clear hf a; intro a hf
  refine m_pass hf rfl rfl ?_; clear hf a; intro a hf
  refine m_pass hf rfl rfl ?_; clear hf a; intro a hf
  refine m_pass hf rfl rfl ?_; clear hf a; intro a hf
  refine m_pass hf rfl rfl ?_; clear hf a; intro a hf
  refine m_pass hf rfl rfl ?_; clear hf a; intro a hf
  refine m_held hf rfl (fun w' _ => x_pick_t (hf.eval rfl) (hf.eval rfl) w') ?_; clear hf a; intro a hf
  refine m_nil ?_
  refine then_n ?_
  refine c_cond_t hf rfl rfl ?_
  refine wp_seq (wp_region_lit ?_)
  refine s_a hf rfl ?_; clear hf a; intro a hf
  refine s_a hf rfl ?_; clear hf a; intro a hf
  refine s_nil (then_n ?_)
  refine wp_ret ?_
  refine then_r ?_
  refine r_2 hf Tryz.results64 rfl rfl ?_
  have hno : bkOk s body = false := by unfold bkOk; first | (rw [decide_eq_false (show ¬ crcU 0 body = s.2.2.2.2.2.2 by omega)]; simp; done) | (rw [decide_eq_false (show ¬ 8 * s.2.2.2.2.1 ≤ (body.length : Int) by omega)]; simp; done)
  rw [hno]
  exact ⟨.slice none 0 0, 0, rfl, fun h => (by cases h), (St.keep [] _ hs).emp (fun _ => ⟨rfl, .inl ⟨rfl, rfl⟩⟩)⟩
 clear hf
 have hf := hf'
 clear hf'
 first | simp only [zd1, zd2, zd3, zd4] at hg1_5 | skip
 refine m_held hf (wanted_of hf rfl rfl rfl) (fun w' _ => x_fieldAddr fo99_4 (hf.eval rfl) w') ?_; clear hf a; intro a hf
 refine m_read hf (wanted_of hf rfl rfl rfl) (x_load sc3 (hf.eval rfl) (by apply hs.cell <;> repeat constructor)) ?_; clear hf a; intro a hf
 refine m_held hf (wanted_of hf rfl rfl rfl) (fun w' _ => x_bin (hf.eval rfl) (hf.eval rfl) (r_muli _ (by omega) (by omega)) w') ?_; clear hf a; intro a hf
 refine m_held hf (wanted_of hf rfl rfl rfl) (fun w' _ => x_move (hf.eval rfl) w') ?_; clear hf a; intro a hf
 refine m_held hf (wanted_of hf rfl rfl rfl) (fun w' _ => x_len Tryz.underlying22 (hf.eval rfl) w') ?_; clear hf a; intro a hf
 refine m_held hf (wanted_of hf rfl rfl rfl) (fun w' _ => x_bin (hf.eval rfl) (hf.eval rfl) (r_gt _ _ _ _) w') ?_; clear hf a; intro a hf
 refine m_held hf rfl (fun w' _ => x_pick_f (hf.eval rfl) (hf.eval rfl) w') ?_; clear hf a; intro a hf
 refine m_nil ?_
 refine then_n ?_
 refine c_cond hf rfl (fun hi0 => ?_) (fun hi0 => ?_)
 ·first | simp only [zd1, zd2, zd3, zd4] at hi0 | skip
  refine wp_seq (wp_region_lit ?_)
  refine s_a hf rfl ?_; clear hf a; intro a hf
  refine s_a hf rfl ?_; clear hf a; intro a hf
  refine s_nil (then_n ?_)
  refine wp_ret ?_
  refine then_r ?_
  refine r_2 hf Tryz.results64 rfl rfl ?_
  have hno : bkOk s body = false := by unfold bkOk; first | (rw [decide_eq_false (show ¬ crcU 0 body = s.2.2.2.2.2.2 by omega)]; simp; done) | (rw [decide_eq_false (show ¬ 8 * s.2.2.2.2.1 ≤ (body.length : Int) by omega)]; simp; done)
  rw [hno]
  exact ⟨.slice none 0 0, 0, rfl, fun h => (by cases h), (St.keep [] _ hs).emp (fun _ => ⟨rfl, .inl ⟨rfl, rfl⟩⟩)⟩
 first | simp only [zd1, zd2, zd3, zd4] at hi0 | skip
 refine wp_skip (then_n (wp_seq (wp_region_lit ?_)))
 refine s_a hf rfl ?_; clear hf a; intro a hf
 refine s_nil (then_n (wp_seq (wp_region_lit ?_)))
 refine s_a hf rfl ?_; clear hf a; intro a hf
 refine s_nil (then_n (wp_seq (wp_region_lit ?_)))
 refine s_a hf rfl ?_; clear hf a; intro a hf
 refine s_nil (then_n (wp_seq (wp_seq (wp_region_lit ?_))))
 refine s_a hf rfl ?_; clear hf a; intro a hf
 refine s_nil (then_n (wp_block ?_))
 have hc1 : crcU 0 body = s.2.2.2.2.2.2 := by omega
 have hc2 : 8 * N ≤ body.length := by omega
 replace hs := hs.emp (A := sl 119 2 (.slice none 0 0) (spL body 0).length ((spL body 0).flatMap spF)) (fun _ => ⟨rfl, .inl ⟨rfl, rfl⟩⟩)
 refine c_loop (L0 := [(1, _), (2, _)]) (fun M w m => ∃ (i en t : Nat) (v : Value), M = [(6, v), (7, .int .i64 (en : Int)), (8, .int .i64 (t : Int)), (9, .int .i64 (i : Int))] ∧ N - i = m ∧ i ≤ N ∧ wlk s.2.2.1 body i = some (en, t) ∧ St ⟨w0, None_⟩ w [sl 119 2 v (spL body i).length ((spL body i).flatMap spF), cb b2 99 (slF s)]) (M0 := _) (⟨0, 0, 0, _, rfl, rfl, Nat.zero_le _, rfl, hs⟩) (hf.sub ⟨rfl, rfl, rfl, rfl, rfl, rfl, trivial⟩) ?_
 clear hf hs a
 rintro M m a w ⟨i, en, t, v, rfl, rfl, hi, hwk, hs⟩ hf
 have hle := wlk_le hso.1 hwk
 have hsl : (spL body i).length = i := by unfold spL; simp
 refine wp_seq (wp_seq (wp_region_lit ?_))
 refine s_m hf rfl ?_; clear hf a; intro a hf
 refine s_v hf (x_fieldAddr fo99_4 (hf.eval rfl)) ?_; clear hf a; intro a hf
 refine s_r hf (x_load sc3 (hf.eval rfl) (by apply hs.cell <;> repeat constructor)) ?_; clear hf a; intro a hf
 replace hf := hf.now (k := 27) (v' := .int .i64 (N : Int)) rfl (by rw [← hN])
 refine s_v hf (x_bin (hf.eval rfl) (hf.eval rfl) (r_lt _ _ _ _)) ?_; clear hf a; intro a hf
 refine s_nil (then_n ?_)
 refine c_cond hf rfl (fun hi1 => ?_) (fun hi1 => ?_)
 ·simp only [zd1, zd2, zd3, zd4, zd5, zd6, zd7] at hi1
  have hlt : i < N := by omega
  have ha1 := rd32_lt body (8 * i)
  have ha2 := rd32_lt body (8 * i + 4)
  have hA : spA body i = rd32 body (8 * i) := rfl
  have hB : spN body i = rd32 body (8 * i + 4) := rfl
  refine wp_skip (then_n (wp_seq (wp_block (wp_seq (wp_region_lit ?_)))))
  refine s_m hf rfl ?_; clear hf a; intro a hf
  refine s_m hf rfl ?_; clear hf a; intro a hf
  refine s_v hf (x_bin (hf.eval rfl) (hf.eval rfl) (r_muli _ (by omega) (by omega))) ?_; clear hf a; intro a hf
  replace hf := hf.now (k := 33) (v' := .int .i64 ((8 * i : Nat) : Int)) rfl (by congr 1 <;> omega)
  refine s_do hf rfl (y_call (hf.eval rfl) (hf.evals rfl) Tryz.call97 ((at32_spec _ _ _ body (hs.oldB hr1) (8 * i) (by omega) (by omega)).mono ?_))
  rintro e w1 ⟨rfl, hk⟩
  replace hs := hs.ext hk
  refine ⟨_, rfl, ?_⟩; clear hf a; intro a hf
  refine s_a hf rfl ?_; clear hf a; intro a hf
  replace hf := hf.now (k := 10) (v' := .int .i64 ((spA body i : Nat) : Int)) rfl (rfl)
  refine s_nil (then_n (wp_seq (wp_region_lit ?_)))
  refine s_m hf rfl ?_; clear hf a; intro a hf
  refine s_m hf rfl ?_; clear hf a; intro a hf
  refine s_v hf (x_bin (hf.eval rfl) (hf.eval rfl) (r_muli _ (by omega) (by omega))) ?_; clear hf a; intro a hf
  replace hf := hf.now (k := 37) (v' := .int .i64 ((8 * i : Nat) : Int)) rfl (by congr 1 <;> omega)
  refine s_v hf (x_bin (hf.eval rfl) (hf.eval rfl) (r_addi _ (by omega) (by omega))) ?_; clear hf a; intro a hf
  replace hf := hf.now (k := 38) (v' := .int .i64 ((8 * i + 4 : Nat) : Int)) rfl (by congr 1 <;> omega)
  refine s_do hf rfl (y_call (hf.eval rfl) (hf.evals rfl) Tryz.call97 ((at32_spec _ _ _ body (hs.oldB hr1) (8 * i + 4) (by omega) (by omega)).mono ?_))
  rintro e w1 ⟨rfl, hk⟩
  replace hs := hs.ext hk
  refine ⟨_, rfl, ?_⟩; clear hf a; intro a hf
  refine s_a hf rfl ?_; clear hf a; intro a hf
  replace hf := hf.now (k := 11) (v' := .int .i64 ((spN body i : Nat) : Int)) rfl (rfl)
  refine s_nil (then_n (wp_seq (wp_seq (wp_region_lit ?_))))
  refine s_m hf rfl ?_; clear hf a; intro a hf
  refine s_v hf (x_bin (hf.eval rfl) (hf.eval rfl) (r_lt _ _ _ _)) ?_; clear hf a; intro a hf
  refine s_m hf rfl ?_; clear hf a; intro a hf
  refine s_bool hf (k := 42) rfl (fun hg11_2 hf' => ?_) (fun hg11_2 hf' => ?_)
  ·clear hf
   have hf := hf'
   clear hf'
   first | simp only [zd1, zd2, zd3, zd4] at hg11_2 | skip
   refine s_pass hf rfl rfl ?_; clear hf a; intro a hf
   refine s_pass hf rfl rfl ?_; clear hf a; intro a hf
   refine s_pass hf rfl rfl ?_; clear hf a; intro a hf
   refine s_v hf (x_pick_t (hf.eval rfl) (hf.eval rfl)) ?_; clear hf a; intro a hf
   refine s_m hf rfl ?_; clear hf a; intro a hf
   refine s_pass hf rfl rfl ?_; clear hf a; intro a hf
   refine s_pass hf rfl rfl ?_; clear hf a; intro a hf
   refine s_pass hf rfl rfl ?_; clear hf a; intro a hf
   refine s_pass hf rfl rfl ?_; clear hf a; intro a hf
   refine s_pass hf rfl rfl ?_; clear hf a; intro a hf
   refine s_pass hf rfl rfl ?_; clear hf a; intro a hf
   refine s_v hf (x_pick_t (hf.eval rfl) (hf.eval rfl)) ?_; clear hf a; intro a hf
   refine s_nil (then_n ?_)
   refine c_cond_t hf rfl rfl ?_
   refine wp_seq (wp_region_lit ?_)
   refine s_a hf rfl ?_; clear hf a; intro a hf
   refine s_a hf rfl ?_; clear hf a; intro a hf
   refine s_nil (then_n ?_)
   refine wp_ret ?_
   refine then_r (blk_r (then_r (then_r (blk_r (then_r ?_)))))
   refine r_2 hf Tryz.results64 rfl rfl ?_
   have hw := wlk_none (wlk_bad hwk (show spN body i < 1 ∨ spA body i < en ∨ s.2.2.1 < ((spA body i + spN body i : Nat) : Int) by omega)) (N - (i + 1))
   rw [show i + 1 + (N - (i + 1)) = N by omega] at hw
   have hno : bkOk s body = false := by unfold bkOk; rw [hNt, hw]; simp
   rw [hno]
   exact ⟨.slice none 0 0, 0, rfl, fun h => (by cases h), (St.keep [] _ hs).emp (fun _ => ⟨rfl, .inl ⟨rfl, rfl⟩⟩)⟩
  clear hf
  have hf := hf'
  clear hf'
  first | simp only [zd1, zd2, zd3, zd4] at hg11_2 | skip
  refine s_do hf (wanted_of hf rfl rfl rfl) (.value (x_move (hf.eval rfl) _) ?_); clear hf a; intro a hf
  refine s_do hf (wanted_of hf rfl rfl rfl) (.value (x_move (hf.eval rfl) _) ?_); clear hf a; intro a hf
  refine s_do hf (wanted_of hf rfl rfl rfl) (.value (x_bin (hf.eval rfl) (hf.eval rfl) (r_lt _ _ _ _) _) ?_); clear hf a; intro a hf
  refine s_v hf (x_pick_f (hf.eval rfl) (hf.eval rfl)) ?_; clear hf a; intro a hf
  refine s_m hf rfl ?_; clear hf a; intro a hf
  refine s_bool hf (k := 47) rfl (fun hg11_7 hf' => ?_) (fun hg11_7 hf' => ?_)
  ·clear hf
   have hf := hf'
   clear hf'
   first | simp only [zd1, zd2, zd3, zd4] at hg11_7 | skip
   refine s_pass hf rfl rfl ?_; clear hf a; intro a hf
   refine s_pass hf rfl rfl ?_; clear hf a; intro a hf
   refine s_pass hf rfl rfl ?_; clear hf a; intro a hf
   refine s_pass hf rfl rfl ?_; clear hf a; intro a hf
   refine s_pass hf rfl rfl ?_; clear hf a; intro a hf
   refine s_pass hf rfl rfl ?_; clear hf a; intro a hf
   refine s_v hf (x_pick_t (hf.eval rfl) (hf.eval rfl)) ?_; clear hf a; intro a hf
   refine s_nil (then_n ?_)
   refine c_cond_t hf rfl rfl ?_
   refine wp_seq (wp_region_lit ?_)
   refine s_a hf rfl ?_; clear hf a; intro a hf
   refine s_a hf rfl ?_; clear hf a; intro a hf
   refine s_nil (then_n ?_)
   refine wp_ret ?_
   refine then_r (blk_r (then_r (then_r (blk_r (then_r ?_)))))
   refine r_2 hf Tryz.results64 rfl rfl ?_
   have hw := wlk_none (wlk_bad hwk (show spN body i < 1 ∨ spA body i < en ∨ s.2.2.1 < ((spA body i + spN body i : Nat) : Int) by omega)) (N - (i + 1))
   rw [show i + 1 + (N - (i + 1)) = N by omega] at hw
   have hno : bkOk s body = false := by unfold bkOk; rw [hNt, hw]; simp
   rw [hno]
   exact ⟨.slice none 0 0, 0, rfl, fun h => (by cases h), (St.keep [] _ hs).emp (fun _ => ⟨rfl, .inl ⟨rfl, rfl⟩⟩)⟩
  clear hf
  have hf := hf'
  clear hf'
  first | simp only [zd1, zd2, zd3, zd4] at hg11_7 | skip
  refine s_do hf (wanted_of hf rfl rfl rfl) (.value (x_move (hf.eval rfl) _) ?_); clear hf a; intro a hf
  refine s_do hf (wanted_of hf rfl rfl rfl) (.value (x_move (hf.eval rfl) _) ?_); clear hf a; intro a hf
  refine s_do hf (wanted_of hf rfl rfl rfl) (.value (x_bin (hf.eval rfl) (hf.eval rfl) (r_addi _ (by omega) (by omega)) _) ?_); clear hf a; intro a hf
  refine s_do hf (wanted_of hf rfl rfl rfl) (.value (x_fieldAddr fo99_2 (hf.eval rfl) _) ?_); clear hf a; intro a hf
  refine s_do hf (wanted_of hf rfl rfl rfl) (.value (x_load sc3 (hf.eval rfl) (by apply hs.cell <;> repeat constructor)) ?_); clear hf a; intro a hf
  refine s_do hf (wanted_of hf rfl rfl rfl) (.value (x_bin (hf.eval rfl) (hf.eval rfl) (r_gt _ _ _ _) _) ?_); clear hf a; intro a hf
  refine s_v hf (x_pick_f (hf.eval rfl) (hf.eval rfl)) ?_; clear hf a; intro a hf
  refine s_nil (then_n ?_)
  refine c_cond hf rfl (fun hi2 => ?_) (fun hi2 => ?_)
  ·first | simp only [zd1, zd2, zd3, zd4] at hi2 | skip
   refine wp_seq (wp_region_lit ?_)
   refine s_a hf rfl ?_; clear hf a; intro a hf
   refine s_a hf rfl ?_; clear hf a; intro a hf
   refine s_nil (then_n ?_)
   refine wp_ret ?_
   refine then_r (blk_r (then_r (then_r (blk_r (then_r ?_)))))
   refine r_2 hf Tryz.results64 rfl rfl ?_
   have hw := wlk_none (wlk_bad hwk (show spN body i < 1 ∨ spA body i < en ∨ s.2.2.1 < ((spA body i + spN body i : Nat) : Int) by omega)) (N - (i + 1))
   rw [show i + 1 + (N - (i + 1)) = N by omega] at hw
   have hno : bkOk s body = false := by unfold bkOk; rw [hNt, hw]; simp
   rw [hno]
   exact ⟨.slice none 0 0, 0, rfl, fun h => (by cases h), (St.keep [] _ hs).emp (fun _ => ⟨rfl, .inl ⟨rfl, rfl⟩⟩)⟩
  first | simp only [zd1, zd2, zd3, zd4] at hi2 | skip
  have hnb : ¬ (spN body i < 1 ∨ spA body i < en ∨ s.2.2.1 < ((spA body i + spN body i : Nat) : Int)) := by omega
  refine wp_skip (then_n (wp_seq (wp_region_lit ?_)))
  refine s_m hf rfl ?_; clear hf a; intro a hf
  refine s_m hf rfl ?_; clear hf a; intro a hf
  refine s_v hf (x_bin (hf.eval rfl) (hf.eval rfl) (r_addi _ (by omega) (by omega))) ?_; clear hf a; intro a hf
  replace hf := hf.now (k := 57) (v' := .int .i64 ((spA body i + spN body i : Nat) : Int)) rfl (by congr 1)
  refine s_a hf rfl ?_; clear hf a; intro a hf
  refine s_nil (then_n (wp_seq (wp_region_lit ?_)))
  refine s_m hf rfl ?_; clear hf a; intro a hf
  refine s_m hf rfl ?_; clear hf a; intro a hf
  refine s_v hf (x_bin (hf.eval rfl) (hf.eval rfl) (r_addi _ (by omega) (by omega))) ?_; clear hf a; intro a hf
  replace hf := hf.now (k := 60) (v' := .int .i64 ((t + spN body i : Nat) : Int)) rfl (by congr 1)
  refine s_a hf rfl ?_; clear hf a; intro a hf
  refine s_nil (then_n (wp_region_lit ?_))
  refine s_m hf rfl ?_; clear hf a; intro a hf
  refine s_m hf rfl ?_; clear hf a; intro a hf
  refine s_m hf rfl ?_; clear hf a; intro a hf
  refine s_r hf (x_build (v := .agg #[.int .i64 ((spA body i : Nat) : Int), .int .i64 ((spA body i + spN body i : Nat) : Int)]) (hf.parts rfl) (fun w => by kernel_rfl) _) ?_; clear hf a; intro a hf
  refine s_do hf rfl (y_lit (xs := [.tmp 64]) hs sl68 (hf.evals rfl) rfl (by simp [Value.cells]) (by decide) ?_); clear hf hs a; intro b7 w hs a hf
  refine s_do hf rfl (y_append (n := (spL body i).length) (m := 1) (ys := [.int .i64 ((spA body i : Nat) : Int), .int .i64 ((spA body i + spN body i : Nat) : Int)]) hs sl68 (hf.eval rfl) (hf.eval rfl) .k1 (hs.rd .k0 fun h hb => rd_rows hb rfl) (by simp [Value.oneCell']) (by omega) (by rw [maxLen_eq]; omega) ?_); clear hf hs a; intro v2 w hs hv a hf
  replace hs := hs.lose .k1
  have hsp := spL_succ body i
  have hsq : (spL body (i + 1)).length = (spL body i).length + 1 := by rw [hsp]; simp
  replace hs : St ⟨w0, None_⟩ w [sl 119 2 v2 (spL body (i + 1)).length ((spL body (i + 1)).flatMap spF), cb b2 99 (slF s)] := by rw [hsq, hsp, List.flatMap_append]; exact hs
  refine s_a hf rfl ?_; clear hf a; intro a hf
  refine s_nil (blk_n (then_n (wp_region_lit ?_)))
  refine s_m hf rfl ?_; clear hf a; intro a hf
  refine s_v hf (x_bin (hf.eval rfl) (hf.eval rfl) (r_addi _ (by omega) (by omega))) ?_; clear hf a; intro a hf
  refine s_a hf rfl ?_; clear hf a; intro a hf
  refine s_nil ?_
  exact ⟨_, _, ⟨i + 1, spA body i + spN body i, t + spN body i, _, rfl, rfl, by omega, wlk_good hwk hnb, hs⟩, by omega, hf.sub ⟨rfl, rfl, rfl, rfl, rfl, rfl, trivial⟩⟩
 simp only [zd1, zd2, zd3, zd4, zd5, zd6, zd7] at hi1
 refine wp_exit (then_x (then_x (blk_x (then_n (wp_seq ?_)))))
 refine c_draw hs (fun _ => True) [.held, .held, .read, .held, .held, .held, .held, .held, .held, .held, .held] (by kernel_rfl) (by kernel_rfl) (fun _ _ _ => trivial) ?_
 clear hs; intro w hs hC hw
 refine m_held hf rfl (fun w' _ => x_move (hf.eval rfl) w') ?_; clear hf a; intro a hf
 refine m_held hf rfl (fun w' _ => x_fieldAddr fo99_4 (hf.eval rfl) w') ?_; clear hf a; intro a hf
 refine m_read hf rfl (x_load sc3 (hf.eval rfl) (by apply hs.cell <;> repeat constructor)) ?_; clear hf a; intro a hf
 refine m_held hf rfl (fun w' _ => x_bin (hf.eval rfl) (hf.eval rfl) (r_muli _ (by omega) (by omega)) w') ?_; clear hf a; intro a hf
 refine m_held hf rfl (fun w' _ => x_move (hf.eval rfl) w') ?_; clear hf a; intro a hf
 refine m_held hf rfl (fun w' _ => x_bin (hf.eval rfl) (hf.eval rfl) (r_addi _ (by omega) (by omega)) w') ?_; clear hf a; intro a hf
 refine m_held hf rfl (fun w' _ => x_move (hf.eval rfl) w') ?_; clear hf a; intro a hf
 refine m_held hf rfl (fun w' _ => x_len Tryz.underlying22 (hf.eval rfl) w') ?_; clear hf a; intro a hf
 refine m_held hf rfl (fun w' _ => x_bin (hf.eval rfl) (hf.eval rfl) (r_eq _ _ _ _) w') ?_; clear hf a; intro a hf
 refine m_held hf rfl (fun w' _ => x_assign (hf.eval rfl) w') ?_; clear hf a; intro a hf
 refine m_held hf rfl (fun w' _ => x_assign (hf.eval rfl) w') ?_; clear hf a; intro a hf
 refine m_nil ?_
 refine then_n ?_
 refine wp_ret ?_
 refine r_2 hf Tryz.results64 rfl rfl ?_
 obtain rfl : i = N := by omega
 have hyes : bkOk s body = decide (8 * s.2.2.2.2.1 + (t : Int) = (body.length : Int)) := by unfold bkOk; rw [hNt, hwk, decide_eq_true hc1, decide_eq_true (show 8 * s.2.2.2.2.1 ≤ (body.length : Int) by omega)]; simp only [Bool.true_and]; exact decide_eq_decide.2 (by omega)
 rw [hyes]
 exact ⟨v, i, rfl, fun _ => hNt.symm, St.keep [_] _ hs⟩
end Go.Proofs.YtehakfbfjpolfaaGreatDoor

namespace Go.Proofs.YtehakfbfjpolfaaGreatDoor
open Go Vw
theorem restored_spec (w0 : World) (hT : Tab 0 (hp w0)) (s : Sl) (hsu : s.2.2.2.2.2.2 < 4294967296) (hso : 0 ≤ s.2.2.1 ∧ s.2.2.1 ≤ 16777216) (hsc : 0 ≤ s.2.2.2.2.1 ∧ s.2.2.2.2.1 ≤ 4294967295) (a1 : Option Addr) (c1 : Nat) (body : List UInt8) (hr1 : RdB (hp w0) (.slice a1 body.length c1) body) (hl1 : body.length ≤ 16777216) : Calls Tryz.prog 113 #[.agg (slF s).toArray, .slice a1 body.length c1] w0 fun e w' => ∃ (v : Value) (ps : List Pt), e = .returned (.tuple #[v, .bool (bkOk s body)]) ∧ (bkOk s body = true → ps.map pcOf = bkL s body s.2.2.2.2.1.toNat) ∧ St ⟨w0, None_⟩ w' [sl 54 2 v ps.length (ps.flatMap pcF), datR ps] := by
 have hs := St.start w0 None_
 obtain ⟨N, hN⟩ : ∃ N : Nat, s.2.2.2.2.1 = (N : Int) := ⟨s.2.2.2.2.1.toNat, by omega⟩
 have hNt : s.2.2.2.2.1.toNat = N := by omega
 refine c_enter (N := 78) Tryz.func113 rfl Tryz.ntmps113 (by simp) ?_
 intro a hf
 refine wp_seq (wp_region_lit ?_)
 refine s_do hf rfl (y_box hs (hf.eval rfl) ?_); clear hf hs a; intro b2 w hs a hf
 replace hs : St _ w (cb b2 99 (slF s) :: _) := hs
 refine s_a hf rfl ?_; clear hf a; intro a hf
 refine s_a hf rfl ?_; clear hf a; intro a hf
 refine s_nil (then_n (wp_seq (wp_seq ?_)))
 refine c_draw hs (fun w' => w'.cell? ⟨b2, 6, none⟩ = some (.int .u32 (s.2.2.2.2.2.2 : Int))) [.held, .eff, .held, .held, .held, .held, .held, .read, .held, .held, .held, .held, .held] (by kernel_rfl) (by kernel_rfl) (fun _ _ hs => hs.cell (k := 6) .k0 rfl) ?_
 clear hs; intro w hs hC hw
 refine m_held hf rfl (fun w' _ => x_move (hf.eval rfl) w') ?_; clear hf a; intro a hf
 refine m_eff hf rfl (y_call (hf.eval rfl) (hf.evals rfl) Tryz.call80 ((sum_spec _ (hT.kept hs.kept) _ _ body (hs.oldB hr1) (by omega)).mono ?_))
 rintro e w1 ⟨rfl, hk⟩
 replace hs := hs.ext hk
 refine ⟨_, rfl, ⟨hs.cell (k := 6) .k0 rfl, ?_⟩⟩; clear hf a; intro a hf
 refine m_held hf rfl (fun w' _ => x_fieldAddr fo99_6 (hf.eval rfl) w') ?_; clear hf a; intro a hf
 refine m_held hf rfl (fun w' hc => x_load sc96 (hf.eval rfl) hc) ?_; clear hf a; intro a hf
 refine m_held hf rfl (fun w' _ => x_bin (hf.eval rfl) (hf.eval rfl) (r_ne _ _ _ _) w') ?_; clear hf a; intro a hf
 refine m_held hf rfl (fun w' _ => x_move (hf.eval rfl) w') ?_; clear hf a; intro a hf
 refine s_bool hf (k := 17) rfl (fun hg1_5 hf' => ?_) (fun hg1_5 hf' => ?_)
 ·clear hf
  have hf := hf'
  clear hf'
  first | simp only [zd1, zd2, zd3, zd4] at hg1_5 | skip
  refine m_pass hf rfl rfl ?_; clear hf a; intro a hf
  refine m_pass hf rfl rfl ?_; clear hf a; intro a hf
  refine m_pass hf rfl rfl ?_; clear hf a; intro a hf
  refine m_pass hf rfl rfl ?_; clear hf a; intro a hf
  refine m_pass hf rfl rfl ?_; clear hf a; intro a hf
  refine m_pass hf rfl rfl ?_; clear hf a; intro a hf
  refine m_held hf rfl (fun w' _ => x_pick_t (hf.eval rfl) (hf.eval rfl) w') ?_; clear hf a; intro a hf
  refine m_nil ?_
  refine then_n ?_
  refine c_cond_t hf rfl rfl ?_
  refine wp_seq (wp_region_lit ?_)
  refine s_a hf rfl ?_; clear hf a; intro a hf
  refine s_a hf rfl ?_; clear hf a; intro a hf
  refine s_nil (then_n ?_)
  refine wp_ret ?_
  refine then_r ?_
  refine r_2 hf Tryz.results113 rfl rfl ?_
  have hno : bkOk s body = false := by unfold bkOk; first | (rw [decide_eq_false (show ¬ crcU 0 body = s.2.2.2.2.2.2 by omega)]; simp; done) | (rw [decide_eq_false (show ¬ 8 * s.2.2.2.2.1 ≤ (body.length : Int) by omega)]; simp; done)
  rw [hno]
  exact ⟨.slice none 0 0, [], rfl, fun h => (by cases h), ((St.keep [] _ hs).emp (A := datR []) (fun _ => trivial)).emp (fun _ => ⟨rfl, .inl ⟨rfl, rfl⟩⟩)⟩
 clear hf
 have hf := hf'
 clear hf'
 first | simp only [zd1, zd2, zd3, zd4] at hg1_5 | skip
 refine m_held hf (wanted_of hf rfl rfl rfl) (fun w' _ => x_fieldAddr fo99_4 (hf.eval rfl) w') ?_; clear hf a; intro a hf
 refine m_read hf (wanted_of hf rfl rfl rfl) (x_load sc3 (hf.eval rfl) (by apply hs.cell <;> repeat constructor)) ?_; clear hf a; intro a hf
 refine m_held hf (wanted_of hf rfl rfl rfl) (fun w' _ => x_move (hf.eval rfl) w') ?_; clear hf a; intro a hf
 refine m_held hf (wanted_of hf rfl rfl rfl) (fun w' _ => x_len Tryz.underlying22 (hf.eval rfl) w') ?_; clear hf a; intro a hf
 refine m_held hf (wanted_of hf rfl rfl rfl) (fun w' _ => x_bin (hf.eval rfl) (hf.eval rfl) (r_quon _ (Int.natCast_nonneg _) (by decide) (by omega)) w') ?_; clear hf a; intro a hf
 refine m_held hf (wanted_of hf rfl rfl rfl) (fun w' _ => x_bin (hf.eval rfl) (hf.eval rfl) (r_gt _ _ _ _) w') ?_; clear hf a; intro a hf
 refine m_held hf rfl (fun w' _ => x_pick_f (hf.eval rfl) (hf.eval rfl) w') ?_; clear hf a; intro a hf
 refine m_nil ?_
 refine then_n ?_
 refine c_cond hf rfl (fun hi0 => ?_) (fun hi0 => ?_)
 ·first | simp only [zd1, zd2, zd3, zd4] at hi0 | skip
  refine wp_seq (wp_region_lit ?_)
  refine s_a hf rfl ?_; clear hf a; intro a hf
  refine s_a hf rfl ?_; clear hf a; intro a hf
  refine s_nil (then_n ?_)
  refine wp_ret ?_
  refine then_r ?_
  refine r_2 hf Tryz.results113 rfl rfl ?_
  have hno : bkOk s body = false := by unfold bkOk; first | (rw [decide_eq_false (show ¬ crcU 0 body = s.2.2.2.2.2.2 by omega)]; simp; done) | (rw [decide_eq_false (show ¬ 8 * s.2.2.2.2.1 ≤ (body.length : Int) by omega)]; simp; done)
  rw [hno]
  exact ⟨.slice none 0 0, [], rfl, fun h => (by cases h), ((St.keep [] _ hs).emp (A := datR []) (fun _ => trivial)).emp (fun _ => ⟨rfl, .inl ⟨rfl, rfl⟩⟩)⟩
 first | simp only [zd1, zd2, zd3, zd4] at hi0 | skip
 refine wp_skip (then_n (wp_seq (wp_region_lit ?_)))
 refine s_m hf rfl ?_; clear hf a; intro a hf
 refine s_do hf rfl (y_call (hf.eval rfl) (hf.evals rfl) Tryz.call122 ((newCursor_spec _ _ _ body (hs.oldB hr1) (by omega)).mono ?_))
 rintro e w1 ⟨p, rfl, hj⟩
 replace hs := hs.join hj
 simp only [List.cons_append, List.nil_append] at hs
 refine ⟨_, rfl, ?_⟩; clear hf a; intro a hf
 refine s_a hf rfl ?_; clear hf a; intro a hf
 refine s_nil (then_n (wp_seq (wp_region_lit ?_)))
 refine s_a hf rfl ?_; clear hf a; intro a hf
 refine s_nil (then_n (wp_seq (wp_region_lit ?_)))
 refine s_a hf rfl ?_; clear hf a; intro a hf
 refine s_nil (then_n (wp_seq (wp_region_lit ?_)))
 refine s_m hf rfl ?_; clear hf a; intro a hf
 refine s_v hf (x_fieldAddr fo99_4 (hf.eval rfl)) ?_; clear hf a; intro a hf
 refine s_r hf (x_load sc3 (hf.eval rfl) (by apply hs.cell <;> repeat constructor)) ?_; clear hf a; intro a hf
 have hc1 : crcU 0 body = s.2.2.2.2.2.2 := by omega
 have hc2 : 8 * N ≤ body.length := by omega
 have hrl : (body.drop (8 * N)).length = body.length - 8 * N := by rw [List.length_drop]
 refine s_v hf (x_bin (hf.eval rfl) (hf.eval rfl) (r_muli _ (by omega) (by omega))) ?_; clear hf a; intro a hf
 replace hf := hf.now (k := 30) (v' := .int .i64 ((8 * N : Nat) : Int)) rfl (by rw [hN]; congr 1 <;> omega)
 refine s_v hf (x_slice_lo sl22 (hf.eval rfl) (hf.eval rfl)  (by omega) (by omega)) ?_; clear hf a; intro a hf
 have hrr : RdB (hp w0) (.slice (subA a1 c1 (8 * N) 1) (body.length - 8 * N) (c1 - 8 * N)) (body.drop (8 * N)) := by
   have h9 := RdB.sub (i := 8 * N) (j := body.length) hr1 rfl hc2 (Nat.le_refl _)
   rwa [List.take_of_length_le (by rw [hrl]; exact Nat.le_refl _)] at h9
 replace hf := hf.now (k := 31) (v' := .slice (subA a1 c1 (8 * N) 1) (body.drop (8 * N)).length (c1 - 8 * N)) rfl (by rw [hrl, Int.toNat_natCast])
 refine s_do hf rfl (y_call (hf.eval rfl) (hf.evals rfl) Tryz.call122 ((newCursor_spec _ _ _ (body.drop (8 * N)) (hs.oldB (by rw [hrl]; exact hrr)) (by omega)).mono ?_))
 rintro e w1 ⟨q, rfl, hj⟩
 replace hs := hs.join hj
 simp only [List.cons_append, List.nil_append] at hs
 refine ⟨_, rfl, ?_⟩; clear hf a; intro a hf
 refine s_a hf rfl ?_; clear hf a; intro a hf
 refine s_nil (then_n (wp_seq (wp_seq (wp_region_lit ?_))))
 refine s_v hf (x_fieldAddr fo99_4 (hf.eval rfl)) ?_; clear hf a; intro a hf
 refine s_r hf (x_load sc3 (hf.eval rfl) (by apply hs.cell <;> repeat constructor)) ?_; clear hf a; intro a hf
 replace hf := hf.now (k := 34) (v' := .int .i64 (N : Int)) rfl (by rw [← hN])
 refine s_m hf rfl ?_; clear hf a; intro a hf
 refine s_nil (then_n (wp_block ?_))
 replace hs := hs.take (A := cb b2 99 (slF s)) (by repeat constructor)
 replace hs := hs.emp (A := datR []) (fun _ => trivial)
 replace hs := hs.emp (A := sl 54 2 (.slice none 0 0) ([] : List Pt).length (([] : List Pt).flatMap pcF)) (fun _ => ⟨rfl, .inl ⟨rfl, rfl⟩⟩)
 replace hs := hs.take (A := curA 179 5 q (body.drop (8 * N)) 0 0) (by repeat constructor)
 replace hs := hs.take (A := curA 179 5 p body (8 * 0) 0) (by repeat constructor)
 refine c_loop (L0 := [(2, _), (6, _), (9, _), (34, _)]) (fun M w m => ∃ (i en t tat : Nat) (tb : Int) (v : Value) (ps : List Pt), M = [(7, v), (8, .int .i64 (en : Int)), (35, .int .i64 (i : Int))] ∧ N - i = m ∧ i ≤ N ∧ wlk s.2.2.1 body i = some (en, t) ∧ (tb = 0 → tat = t) ∧ (tb ≠ 0 → (body.drop (8 * N)).length < t) ∧ tat ≤ (body.drop (8 * N)).length ∧ ps.length = i ∧ (tb = 0 → ps.map pcOf = bkL s body i) ∧ St ⟨w0, None_⟩ w [curA 179 5 p body (8 * i) 0, curA 179 5 q (body.drop (8 * N)) tat tb, sl 54 2 v ps.length (ps.flatMap pcF), datR ps, cb b2 99 (slF s)]) (M0 := _) (⟨0, 0, 0, 0, 0, _, [], rfl, rfl, Nat.zero_le _, rfl, fun _ => rfl, fun h => absurd rfl h, Nat.zero_le _, rfl, fun _ => rfl, hs⟩) (hf.sub ⟨rfl, rfl, rfl, rfl, rfl, rfl, rfl, trivial⟩) ?_
 clear hf hs a
 rintro M m a w ⟨i, en, t, tat, tb, v, ps, rfl, rfl, hi, hwk, hx1, hx2, hx3, hpl, hpm, hs⟩ hf
 have hle := wlk_le hso.1 hwk
 refine wp_seq (wp_region_lit ?_)
 refine s_v hf (x_bin (hf.eval rfl) (hf.eval rfl) (r_lt _ _ _ _)) ?_; clear hf a; intro a hf
 refine s_nil (then_n (wp_seq ?_))
 refine c_cond hf rfl (fun hi1 => ?_) (fun hi1 => ?_)
 ·simp only [zd1, zd2, zd3, zd4, zd5, zd6, zd7] at hi1
  have hlt : i < N := by omega
  have ha1 := rd32_lt body (8 * i)
  have ha2 := rd32_lt body (8 * i + 4)
  have hA : spA body i = rd32 body (8 * i) := rfl
  have hB : spN body i = rd32 body (8 * i + 4) := rfl
  refine wp_skip (then_n (wp_seq (wp_block (wp_seq (wp_region_lit ?_)))))
  refine s_m hf rfl ?_; clear hf a; intro a hf
  refine s_do hf rfl (y_call (hf.eval rfl) (hf.evals rfl) Tryz.call124 ((u32_spec _ _ _ p body (8 * i) 0 hs (by omega) (by omega)).mono ?_))
  rintro e w1 ⟨rfl, hs⟩
  rw [nx4 (by omega)] at hs ⊢
  simp only [] at hs ⊢
  change St _ _ (curA 179 5 p body (8 * i + 4) 0 :: _) at hs
  refine ⟨_, rfl, ?_⟩; clear hf a; intro a hf
  refine s_m hf rfl ?_; clear hf a; intro a hf
  refine s_do hf rfl (y_call (hf.eval rfl) (hf.evals rfl) Tryz.call124 ((u32_spec _ _ _ p body (8 * i + 4) 0 hs (by omega) (by omega)).mono ?_))
  rintro e w1 ⟨rfl, hs⟩
  rw [nx4 (by omega)] at hs ⊢
  simp only [] at hs ⊢
  change St _ _ (curA 179 5 p body (8 * (i + 1)) 0 :: _) at hs
  refine ⟨_, rfl, ?_⟩; clear hf a; intro a hf
  refine s_a hf rfl ?_; clear hf a; intro a hf
  replace hf := hf.now (k := 10) (v' := .int .i64 ((spA body i : Nat) : Int)) rfl (rfl)
  refine s_a hf rfl ?_; clear hf a; intro a hf
  replace hf := hf.now (k := 11) (v' := .int .i64 ((spN body i : Nat) : Int)) rfl (rfl)
  refine s_nil (then_n (wp_seq (wp_seq (wp_region_lit ?_))))
  refine s_m hf rfl ?_; clear hf a; intro a hf
  refine s_v hf (x_bin (hf.eval rfl) (hf.eval rfl) (r_lt _ _ _ _)) ?_; clear hf a; intro a hf
  refine s_m hf rfl ?_; clear hf a; intro a hf
  refine s_bool hf (k := 43) rfl (fun hg10_2 hf' => ?_) (fun hg10_2 hf' => ?_)
  ·clear hf
   have hf := hf'
   clear hf'
   first | simp only [zd1, zd2, zd3, zd4] at hg10_2 | skip
   refine s_pass hf rfl rfl ?_; clear hf a; intro a hf
   refine s_pass hf rfl rfl ?_; clear hf a; intro a hf
   refine s_pass hf rfl rfl ?_; clear hf a; intro a hf
   refine s_v hf (x_pick_t (hf.eval rfl) (hf.eval rfl)) ?_; clear hf a; intro a hf
   refine s_m hf rfl ?_; clear hf a; intro a hf
   refine s_pass hf rfl rfl ?_; clear hf a; intro a hf
   refine s_pass hf rfl rfl ?_; clear hf a; intro a hf
   refine s_pass hf rfl rfl ?_; clear hf a; intro a hf
   refine s_pass hf rfl rfl ?_; clear hf a; intro a hf
   refine s_pass hf rfl rfl ?_; clear hf a; intro a hf
   refine s_pass hf rfl rfl ?_; clear hf a; intro a hf
   refine s_v hf (x_pick_t (hf.eval rfl) (hf.eval rfl)) ?_; clear hf a; intro a hf
   refine s_nil (then_n ?_)
   refine c_cond_t hf rfl rfl ?_
   refine wp_seq (wp_region_lit ?_)
   refine s_a hf rfl ?_; clear hf a; intro a hf
   refine s_a hf rfl ?_; clear hf a; intro a hf
   refine s_nil (then_n ?_)
   refine wp_ret ?_
   refine then_r (blk_r (then_r (then_r (blk_r (then_r ?_)))))
   refine r_2 hf Tryz.results113 rfl rfl ?_
   have hw := wlk_none (wlk_bad hwk (show spN body i < 1 ∨ spA body i < en ∨ s.2.2.1 < ((spA body i + spN body i : Nat) : Int) by omega)) (N - (i + 1))
   rw [show i + 1 + (N - (i + 1)) = N by omega] at hw
   have hno : bkOk s body = false := by unfold bkOk; rw [hNt, hw]; simp
   rw [hno]
   exact ⟨.slice none 0 0, [], rfl, fun h => (by cases h), ((St.keep [] _ hs).emp (A := datR []) (fun _ => trivial)).emp (fun _ => ⟨rfl, .inl ⟨rfl, rfl⟩⟩)⟩
  clear hf
  have hf := hf'
  clear hf'
  first | simp only [zd1, zd2, zd3, zd4] at hg10_2 | skip
  refine s_do hf (wanted_of hf rfl rfl rfl) (.value (x_move (hf.eval rfl) _) ?_); clear hf a; intro a hf
  refine s_do hf (wanted_of hf rfl rfl rfl) (.value (x_move (hf.eval rfl) _) ?_); clear hf a; intro a hf
  refine s_do hf (wanted_of hf rfl rfl rfl) (.value (x_bin (hf.eval rfl) (hf.eval rfl) (r_lt _ _ _ _) _) ?_); clear hf a; intro a hf
  refine s_v hf (x_pick_f (hf.eval rfl) (hf.eval rfl)) ?_; clear hf a; intro a hf
  refine s_m hf rfl ?_; clear hf a; intro a hf
  refine s_bool hf (k := 48) rfl (fun hg10_7 hf' => ?_) (fun hg10_7 hf' => ?_)
  ·clear hf
   have hf := hf'
   clear hf'
   first | simp only [zd1, zd2, zd3, zd4] at hg10_7 | skip
   refine s_pass hf rfl rfl ?_; clear hf a; intro a hf
   refine s_pass hf rfl rfl ?_; clear hf a; intro a hf
   refine s_pass hf rfl rfl ?_; clear hf a; intro a hf
   refine s_pass hf rfl rfl ?_; clear hf a; intro a hf
   refine s_pass hf rfl rfl ?_; clear hf a; intro a hf
   refine s_pass hf rfl rfl ?_; clear hf a; intro a hf
   refine s_v hf (x_pick_t (hf.eval rfl) (hf.eval rfl)) ?_; clear hf a; intro a hf
   refine s_nil (then_n ?_)
   refine c_cond_t hf rfl rfl ?_
   refine wp_seq (wp_region_lit ?_)
   refine s_a hf rfl ?_; clear hf a; intro a hf
   refine s_a hf rfl ?_; clear hf a; intro a hf
   refine s_nil (then_n ?_)
   refine wp_ret ?_
   refine then_r (blk_r (then_r (then_r (blk_r (then_r ?_)))))
   refine r_2 hf Tryz.results113 rfl rfl ?_
   have hw := wlk_none (wlk_bad hwk (show spN body i < 1 ∨ spA body i < en ∨ s.2.2.1 < ((spA body i + spN body i : Nat) : Int) by omega)) (N - (i + 1))
   rw [show i + 1 + (N - (i + 1)) = N by omega] at hw
   have hno : bkOk s body = false := by unfold bkOk; rw [hNt, hw]; simp
   rw [hno]
   exact ⟨.slice none 0 0, [], rfl, fun h => (by cases h), ((St.keep [] _ hs).emp (A := datR []) (fun _ => trivial)).emp (fun _ => ⟨rfl, .inl ⟨rfl, rfl⟩⟩)⟩
  clear hf
  have hf := hf'
  clear hf'
  first | simp only [zd1, zd2, zd3, zd4] at hg10_7 | skip
  refine s_do hf (wanted_of hf rfl rfl rfl) (.value (x_move (hf.eval rfl) _) ?_); clear hf a; intro a hf
  refine s_do hf (wanted_of hf rfl rfl rfl) (.value (x_move (hf.eval rfl) _) ?_); clear hf a; intro a hf
  refine s_do hf (wanted_of hf rfl rfl rfl) (.value (x_bin (hf.eval rfl) (hf.eval rfl) (r_addi _ (by omega) (by omega)) _) ?_); clear hf a; intro a hf
  refine s_do hf (wanted_of hf rfl rfl rfl) (.value (x_fieldAddr fo99_2 (hf.eval rfl) _) ?_); clear hf a; intro a hf
  refine s_do hf (wanted_of hf rfl rfl rfl) (.value (x_load sc3 (hf.eval rfl) (by apply hs.cell <;> repeat constructor)) ?_); clear hf a; intro a hf
  refine s_do hf (wanted_of hf rfl rfl rfl) (.value (x_bin (hf.eval rfl) (hf.eval rfl) (r_gt _ _ _ _) _) ?_); clear hf a; intro a hf
  refine s_v hf (x_pick_f (hf.eval rfl) (hf.eval rfl)) ?_; clear hf a; intro a hf
  refine s_nil (then_n ?_)
  refine c_cond hf rfl (fun hi2 => ?_) (fun hi2 => ?_)
  ·first | simp only [zd1, zd2, zd3, zd4] at hi2 | skip
   refine wp_seq (wp_region_lit ?_)
   refine s_a hf rfl ?_; clear hf a; intro a hf
   refine s_a hf rfl ?_; clear hf a; intro a hf
   refine s_nil (then_n ?_)
   refine wp_ret ?_
   refine then_r (blk_r (then_r (then_r (blk_r (then_r ?_)))))
   refine r_2 hf Tryz.results113 rfl rfl ?_
   have hw := wlk_none (wlk_bad hwk (show spN body i < 1 ∨ spA body i < en ∨ s.2.2.1 < ((spA body i + spN body i : Nat) : Int) by omega)) (N - (i + 1))
   rw [show i + 1 + (N - (i + 1)) = N by omega] at hw
   have hno : bkOk s body = false := by unfold bkOk; rw [hNt, hw]; simp
   rw [hno]
   exact ⟨.slice none 0 0, [], rfl, fun h => (by cases h), ((St.keep [] _ hs).emp (A := datR []) (fun _ => trivial)).emp (fun _ => ⟨rfl, .inl ⟨rfl, rfl⟩⟩)⟩
  first | simp only [zd1, zd2, zd3, zd4] at hi2 | skip
  have hnb : ¬ (spN body i < 1 ∨ spA body i < en ∨ s.2.2.1 < ((spA body i + spN body i : Nat) : Int)) := by omega
  refine wp_skip (then_n (wp_seq (wp_region_lit ?_)))
  refine s_m hf rfl ?_; clear hf a; intro a hf
  refine s_m hf rfl ?_; clear hf a; intro a hf
  refine s_v hf (x_bin (hf.eval rfl) (hf.eval rfl) (r_addi _ (by omega) (by omega))) ?_; clear hf a; intro a hf
  replace hf := hf.now (k := 58) (v' := .int .i64 ((spA body i + spN body i : Nat) : Int)) rfl (by congr 1)
  refine s_a hf rfl ?_; clear hf a; intro a hf
  refine s_nil (then_n (wp_region_lit ?_))
  refine s_m hf rfl ?_; clear hf a; intro a hf
  refine s_m hf rfl ?_; clear hf a; intro a hf
  refine s_m hf rfl ?_; clear hf a; intro a hf
  refine s_m hf rfl ?_; clear hf a; intro a hf
  replace hs := hs.take (A := curA 179 5 q (body.drop (8 * N)) tat tb) (by repeat constructor)
  refine s_do hf rfl (y_call (hf.eval rfl) (hf.evals rfl) Tryz.call127 ((text_spec _ _ _ q (body.drop (8 * N)) tat tb ((spN body i : Nat) : Int) hs hx3 (by omega) (by omega)).mono ?_))
  rintro e w1 ⟨rfl, hs⟩
  obtain ⟨hy1, hy2, hy3⟩ := tx_step (rest := (body.drop (8 * N))) (tat := tat) (t := t) (n := spN body i) (tb := tb) hx1 hx2 hx3
  obtain ⟨TX, hTX⟩ : ∃ TX, TX = (((body.drop (8 * N)).drop tat).take (nextC (body.drop (8 * N)).length tat tb (spN body i : Nat)).2.2) := ⟨_, rfl⟩
  rw [← hTX] at hy1 ⊢
  have htl : TX.length ≤ body.length := by rw [hTX, List.length_take, List.length_drop, List.length_drop]; omega
  generalize (nextC (body.drop (8 * N)).length tat tb (spN body i : Nat)).1 = tat2 at hs hy1 hy2 hy3
  generalize (nextC (body.drop (8 * N)).length tat tb (spN body i : Nat)).2.1 = tb2 at hs hy1 hy2 hy3
  refine ⟨_, rfl, ?_⟩; clear hf a; intro a hf
  refine s_do hf rfl (y_strBytes (l := TX) hs Tryz.underlying9 Tryz.underlying22 Tryz.underlying5 (hf.eval rfl) ?_); clear hf hs a; intro v8 w hs hv a hf
  obtain ⟨a8, c8, hv8⟩ := hv
  replace hs := hs.take (A := datR ps) (by repeat constructor)
  replace hs := datR_push (p := ((spA body i, v8, TX) : Pt)) (hs.take .k1 |>.take .k1)
  refine s_r hf (x_build (v := .agg #[.int .i64 ((spA body i : Nat) : Int), v8]) (hf.parts rfl) (fun w => by rw [hv8]; kernel_rfl) _) ?_; clear hf a; intro a hf
  refine s_do hf rfl (y_lit (xs := [.tmp 65]) hs sl23 (hf.evals rfl) rfl (by simp [Value.cells]) (by decide) ?_); clear hf hs a; intro b7 w hs a hf
  refine s_do hf rfl (y_append (n := ps.length) (m := 1) (ys := [.int .i64 ((spA body i : Nat) : Int), v8]) hs sl23 (hf.eval rfl) (hf.eval rfl) (by repeat constructor) (hs.rd .k0 fun h hb => rd_rows hb rfl) (by rw [hv8]; simp [Value.oneCell']) (by omega) (by rw [maxLen_eq]; omega) ?_); clear hf hs a; intro v9 w hs hv a hf
  have hsq : (ps ++ [((spA body i, v8, TX) : Pt)]).length = ps.length + 1 := by simp
  have hsf : (ps ++ [((spA body i, v8, TX) : Pt)]).flatMap pcF = ps.flatMap pcF ++ [.int .i64 ((spA body i : Nat) : Int), v8] := by simp [pcF]
  rw [← hsq, ← hsf] at hs
  replace hs := hs.take (A := cb b2 99 (slF s)) (by repeat constructor)
  replace hs := hs.take (A := datR (ps ++ [((spA body i, v8, TX) : Pt)])) (by repeat constructor)
  replace hs := hs.take (A := sl 54 2 v9 (ps ++ [((spA body i, v8, TX) : Pt)]).length ((ps ++ [((spA body i, v8, TX) : Pt)]).flatMap pcF)) (by repeat constructor)
  replace hs := hs.take (A := curA 179 5 q (body.drop (8 * N)) tat2 tb2) (by repeat constructor)
  replace hs := hs.take (A := curA 179 5 p body (8 * (i + 1)) 0) (by repeat constructor)
  replace hs := St.keep [curA 179 5 p body (8 * (i + 1)) 0, curA 179 5 q (body.drop (8 * N)) tat2 tb2, sl 54 2 v9 (ps ++ [((spA body i, v8, TX) : Pt)]).length ((ps ++ [((spA body i, v8, TX) : Pt)]).flatMap pcF), datR (ps ++ [((spA body i, v8, TX) : Pt)]), cb b2 99 (slF s)] _ hs
  have hpm9 : tb2 = 0 → (ps ++ [((spA body i, v8, TX) : Pt)]).map pcOf = bkL s body (i + 1) := fun h => by
    obtain ⟨_, hz2, hz3⟩ := hy1 h
    rw [List.map_append, hpm hz3, bkL_succ, hNt]
    have htt : totB s.2.2.1 body i = t := by unfold totB; rw [hwk]
    rw [htt]
    show bkL s body i ++ [(spA body i, TX)] = _
    rw [hz2, List.drop_drop]
  refine s_a hf rfl ?_; clear hf a; intro a hf
  refine s_nil (blk_n (then_n (wp_region_lit ?_)))
  refine s_v hf (x_bin (hf.eval rfl) (hf.eval rfl) (r_addi _ (by omega) (by omega))) ?_; clear hf a; intro a hf
  refine s_m hf rfl ?_; clear hf a; intro a hf
  refine s_nil ?_
  exact ⟨_, _, ⟨i + 1, spA body i + spN body i, t + spN body i, tat2, tb2, _, (ps ++ [((spA body i, v8, TX) : Pt)]), rfl, rfl, by omega, wlk_good hwk hnb, fun h => (hy1 h).1, hy2, hy3, by simp [hpl], hpm9, hs⟩, by omega, hf.sub ⟨rfl, rfl, rfl, rfl, rfl, rfl, rfl, trivial⟩⟩
 simp only [zd1, zd2, zd3, zd4, zd5, zd6, zd7] at hi1
 refine wp_exit (then_x (then_x (blk_x (then_n (wp_seq (wp_region_lit ?_))))))
 refine s_m hf rfl ?_; clear hf a; intro a hf
 refine s_m hf rfl ?_; clear hf a; intro a hf
 obtain rfl : i = N := by omega
 have hyes : bkOk s body = decide (8 * i + t = body.length) := by unfold bkOk; rw [hNt, hwk, decide_eq_true hc1, decide_eq_true (show 8 * s.2.2.2.2.1 ≤ (body.length : Int) by omega)]; simp only [Bool.true_and]
 replace hs := hs.take (A := curA 179 5 q (body.drop (8 * i)) tat tb) (by repeat constructor)
 refine s_do hf rfl (y_call (hf.eval rfl) (hf.evals rfl) Tryz.call125 ((err_spec _ _ _ q (body.drop (8 * i)) tat tb hs hx3 (by omega)).mono ?_))
 rintro e w1 ⟨rfl, hs⟩
 refine ⟨_, rfl, ?_⟩; clear hf a; intro a hf
 refine s_v hf (x_bin (hf.eval rfl) (hf.eval rfl) (r_eq _ _ _ _)) ?_; clear hf a; intro a hf
 refine s_m hf rfl ?_; clear hf a; intro a hf
 refine s_bool hf (k := 73) rfl (fun hg15_4 hf' => ?_) (fun hg15_4 hf' => ?_)
 ·clear hf
  have hf := hf'
  clear hf'
  first | simp only [zd1, zd2, zd3, zd4] at hg15_4 | skip
  refine s_do hf (wanted_of hf rfl rfl rfl) (.value (x_move (hf.eval rfl) _) ?_); clear hf a; intro a hf
  refine s_do hf (wanted_of hf rfl rfl rfl) (y_call (hf.eval rfl) (hf.evals rfl) Tryz.call128 ((left_spec _ _ _ q (body.drop (8 * i)) tat tb hs hx3 (by omega)).mono ?_))
  rintro e w1 ⟨rfl, hs⟩
  refine ⟨_, rfl, ?_⟩; clear hf a; intro a hf
  refine s_do hf (wanted_of hf rfl rfl rfl) (.value (x_bin (hf.eval rfl) (hf.eval rfl) (r_eq _ _ _ _) _) ?_); clear hf a; intro a hf
  refine s_v hf (x_pick_t (hf.eval rfl) (hf.eval rfl)) ?_; clear hf a; intro a hf
  refine s_a hf rfl ?_; clear hf a; intro a hf
  refine s_a hf rfl ?_; clear hf a; intro a hf
  refine s_nil (then_n ?_)
  refine wp_ret ?_
  refine r_2 hf Tryz.results113 rfl rfl ?_
  replace hs := hs.take (A := datR ps) (by repeat constructor)
  replace hs := hs.take (A := sl 54 2 v ps.length (ps.flatMap pcF)) (by repeat constructor)
  first | (have ht0 := hx1 hg15_4; have hq : bkOk s body = decide ((((body.drop (8 * i)).length : Int) - tat) = 0) := by rw [hyes]; exact decide_eq_decide.2 (by omega)) | (have hq : bkOk s body = false := by rw [hyes]; exact decide_eq_false (by have := hx2 hg15_4; omega))
  rw [hq]
  refine ⟨v, ps, rfl, fun h => ?_, St.keep [_, _] _ hs⟩
  first | (rw [hNt]; exact hpm hg15_4) | cases h
 clear hf
 have hf := hf'
 clear hf'
 first | simp only [zd1, zd2, zd3, zd4] at hg15_4 | skip
 refine s_pass hf rfl rfl ?_; clear hf a; intro a hf
 refine s_pass hf rfl rfl ?_; clear hf a; intro a hf
 refine s_pass hf rfl rfl ?_; clear hf a; intro a hf
 refine s_v hf (x_pick_f (hf.eval rfl) (hf.eval rfl)) ?_; clear hf a; intro a hf
 refine s_a hf rfl ?_; clear hf a; intro a hf
 refine s_a hf rfl ?_; clear hf a; intro a hf
 refine s_nil (then_n ?_)
 refine wp_ret ?_
 refine r_2 hf Tryz.results113 rfl rfl ?_
 replace hs := hs.take (A := datR ps) (by repeat constructor)
 replace hs := hs.take (A := sl 54 2 v ps.length (ps.flatMap pcF)) (by repeat constructor)
 first | (have ht0 := hx1 hg15_4; have hq : bkOk s body = decide ((((body.drop (8 * i)).length : Int) - tat) = 0) := by rw [hyes]; exact decide_eq_decide.2 (by omega)) | (have hq : bkOk s body = false := by rw [hyes]; exact decide_eq_false (by have := hx2 hg15_4; omega))
 rw [hq]
 refine ⟨v, ps, rfl, fun h => ?_, St.keep [_, _] _ hs⟩
 first | (rw [hNt]; exact hpm hg15_4) | cases h
end Go.Proofs.YtehakfbfjpolfaaGreatDoor

namespace Go.Proofs.YtehakfbfjpolfaaGreatDoor
open Go Vw
theorem up_spec (w : World) (n : Int) (h0 : 0 ≤ n) (h1 : n ≤ 1125899906842624) : Calls Tryz.prog 106 #[.int .i64 n] w fun e w' => e = .returned (.int .i64 (upZ n)) ∧ w' = w := by
 refine c_enter (N := 8) Tryz.func106 rfl Tryz.ntmps106 (by simp) ?_
 intro a hf
 refine wp_seq (wp_region_lit ?_)
 refine s_a hf rfl ?_; clear hf a; intro a hf
 refine s_nil (then_n (wp_seq (wp_region_lit ?_)))
 refine s_m hf rfl ?_; clear hf a; intro a hf
 refine s_v hf (x_bin (hf.eval rfl) (hf.eval rfl) (r_addi _ (by omega) (by omega))) ?_; clear hf a; intro a hf
 refine s_v hf (x_bin (hf.eval rfl) (hf.eval rfl) (r_subi _ (by omega) (by omega))) ?_; clear hf a; intro a hf
 refine s_v hf (x_bin (hf.eval rfl) (hf.eval rfl) (r_quon _ (by omega) (by omega) (by omega))) ?_; clear hf a; intro a hf
 refine s_v hf (x_bin (hf.eval rfl) (hf.eval rfl) (r_muli _ (by omega) (by omega))) ?_; clear hf a; intro a hf
 refine s_a hf rfl ?_; clear hf a; intro a hf
 refine s_nil (then_n ?_)
 refine wp_ret ?_
 refine r_1 hf Tryz.results106 rfl ?_
 exact ⟨rfl, rfl⟩
theorem sized_spec (w : World) (n : Int) : Calls Tryz.prog 74 #[.int .i64 n] w fun e w' => e = .returned (.bool (decide (0 ≤ n ∧ n ≤ 16777216))) ∧ w' = w := by
 refine c_enter (N := 9) Tryz.func74 rfl Tryz.ntmps74 (by simp) ?_
 intro a hf
 refine wp_seq (wp_region_lit ?_)
 refine s_a hf rfl ?_; clear hf a; intro a hf
 refine s_nil (then_n (wp_seq (wp_region_lit ?_)))
 refine s_m hf rfl ?_; clear hf a; intro a hf
 refine s_v hf (x_bin (hf.eval rfl) (hf.eval rfl) (r_ge _ _ _ _)) ?_; clear hf a; intro a hf
 refine s_m hf rfl ?_; clear hf a; intro a hf
 refine s_bool hf (k := 5) rfl (fun hg1_2 hf' => ?_) (fun hg1_2 hf' => ?_)
 ·clear hf
  have hf := hf'
  clear hf'
  simp only [zd1, zd2, zd3, zd4, zd5, zd6, zd7] at hg1_2
  refine s_do hf (wanted_of hf rfl rfl rfl) (.value (x_move (hf.eval rfl) _) ?_); clear hf a; intro a hf
  refine s_do hf (wanted_of hf rfl rfl rfl) (.value (x_bin (hf.eval rfl) (hf.eval rfl) (r_le _ _ _ _) _) ?_); clear hf a; intro a hf
  refine s_v hf (x_pick_t (hf.eval rfl) (hf.eval rfl)) ?_; clear hf a; intro a hf
  refine s_a hf rfl ?_; clear hf a; intro a hf
  refine s_nil (then_n ?_)
  refine wp_ret ?_
  refine r_1 hf Tryz.results74 rfl ?_
  exact ⟨by congr 2; simp; omega, rfl⟩
 clear hf
 have hf := hf'
 clear hf'
 simp only [zd1, zd2, zd3, zd4, zd5, zd6, zd7] at hg1_2
 refine s_pass hf rfl rfl ?_; clear hf a; intro a hf
 refine s_pass hf rfl rfl ?_; clear hf a; intro a hf
 refine s_v hf (x_pick_f (hf.eval rfl) (hf.eval rfl)) ?_; clear hf a; intro a hf
 refine s_a hf rfl ?_; clear hf a; intro a hf
 refine s_nil (then_n ?_)
 refine wp_ret ?_
 refine r_1 hf Tryz.results74 rfl ?_
 exact ⟨by congr 2; simp; omega, rfl⟩
theorem placedF_spec (w0 : World) (old size length : Int) (ho : 0 ≤ old) (ho2 : old ≤ 16777216) (hz : 0 ≤ size) (hz2 : size ≤ 16777216) (hl : 0 ≤ length) (hl2 : length ≤ 1125899906842624) : Calls Tryz.prog 78 #[.int .i64 old, .int .i64 size, .int .i64 length] w0 fun e w' => e = .returned (.agg #[.int .i64 (upZ (max old size)), .int .i64 (filZ old size length / 512 * 512 - 512), .int .i64 (filZ old size length)]) ∧ Kept w0 w' None_ := by
 have hs := St.start w0 None_
 refine c_enter (N := 40) Tryz.func78 rfl Tryz.ntmps78 (by simp) ?_
 intro a hf
 refine wp_seq (wp_region_lit ?_)
 refine s_do hf rfl (y_alloc hs Tryz.zeroValue111 ?_); clear hf hs a; intro b6 w hs a hf
 change St _ _ (cb b6 111 [.int .i64 (0), .int .i64 (0), .int .i64 (0)] :: _) at hs
 refine s_nil (then_n (wp_seq (wp_region_lit ?_)))
 refine s_m hf rfl ?_; clear hf a; intro a hf
 refine s_m hf rfl ?_; clear hf a; intro a hf
 refine s_v hf (x_maxI (hf.eval rfl) (hf.eval rfl)) ?_; clear hf a; intro a hf
 refine s_do hf rfl (y_call (hf.eval rfl) (hf.evals rfl) Tryz.call106 ((up_spec _ _ (by omega) (by omega)).mono ?_))
 rintro e w1 ⟨rfl, rfl⟩
 refine ⟨_, rfl, ?_⟩; clear hf a; intro a hf
 have hu1 : old ≤ upZ (max old size) ∧ upZ (max old size) ≤ 16777727 := by unfold upZ; omega
 have hu2 : 0 ≤ upZ length ∧ upZ length ≤ 1125899906843136 := by unfold upZ; omega
 refine s_r hf (x_build (v := .agg #[.int .i64 (upZ (max old size)), .int .i64 0, .int .i64 0]) (hf.parts rfl) (fun w => by kernel_rfl) _) ?_; clear hf a; intro a hf
 refine s_do hf rfl (y_alloc hs Tryz.zeroValue111 ?_); clear hf hs a; intro b7 w hs a hf
 change St _ _ (cb b7 111 [.int .i64 (0), .int .i64 (0), .int .i64 (0)] :: _) at hs
 refine s_do0 hf rfl (y_storeAgg (cs := [.int .i64 (upZ (max old size)), .int .i64 0, .int .i64 0]) hs (n := 3) (by kernel_rfl) (hf.eval rfl) (hf.eval rfl) (by simp [Value.oneCell']) rfl rfl .k0 ?_); clear hf hs a; intro w hs a hf
 refine s_nil (then_n (wp_seq ?_))
 refine c_draw hs (fun w' => w'.cell? ⟨b7, 0, none⟩ = some (.int .i64 (upZ (max old size)))) [.held, .held, .held, .eff, .held, .held, .held] (by kernel_rfl) (by kernel_rfl) (fun w' _ hs => hs.cell .k0 rfl) ?_
 clear hs; intro w hs hC hw
 refine m_held hf rfl (fun w' _ => x_fieldAddr fo111_0 (hf.eval rfl) w') ?_; clear hf a; intro a hf
 refine m_held hf rfl (fun w' hc => x_load sc3 (hf.eval rfl) hc) ?_; clear hf a; intro a hf
 refine m_held hf rfl (fun w' _ => x_move (hf.eval rfl) w') ?_; clear hf a; intro a hf
 refine m_eff hf rfl (y_call (hf.eval rfl) (hf.evals rfl) Tryz.call106 ((up_spec _ _ hl hl2).mono ?_))
 rintro e w1 ⟨rfl, rfl⟩
 refine ⟨_, rfl, ⟨hs.cell .k0 rfl, ?_⟩⟩; clear hf a; intro a hf
 refine m_held hf rfl (fun w' _ => x_bin (hf.eval rfl) (hf.eval rfl) (r_addi _ (by omega) (by omega)) w') ?_; clear hf a; intro a hf
 refine m_held hf rfl (fun w' _ => x_bin (hf.eval rfl) (hf.eval rfl) (r_addi _ (by omega) (by omega)) w') ?_; clear hf a; intro a hf
 refine m_held hf rfl (fun w' _ => x_assign (hf.eval rfl) w') ?_; clear hf a; intro a hf
 refine m_nil ?_
 refine then_n (wp_seq (wp_region_lit ?_))
 refine s_m hf rfl ?_; clear hf a; intro a hf
 refine s_m hf rfl ?_; clear hf a; intro a hf
 refine s_v hf (x_bin (hf.eval rfl) (hf.eval rfl) (r_subi _ (by omega) (by omega))) ?_; clear hf a; intro a hf
 refine s_v hf (x_bin (hf.eval rfl) (hf.eval rfl) (r_addi _ (by omega) (by omega))) ?_; clear hf a; intro a hf
 refine s_v hf (x_bin (hf.eval rfl) (hf.eval rfl) (r_subi _ (by omega) (by omega))) ?_; clear hf a; intro a hf
 refine s_v hf (x_bin (hf.eval rfl) (hf.eval rfl) (r_quon _ (by omega) (by omega) (by omega))) ?_; clear hf a; intro a hf
 refine s_v hf (x_maxI (hf.eval rfl) (hf.eval rfl)) ?_; clear hf a; intro a hf
 refine s_a hf rfl ?_; clear hf a; intro a hf
 refine s_nil (then_n (wp_seq (wp_region_lit ?_)))
 refine s_m hf rfl ?_; clear hf a; intro a hf
 refine s_m hf rfl ?_; clear hf a; intro a hf
 refine s_v hf (x_bin (hf.eval rfl) (hf.eval rfl) (r_muli _ (by omega) (by omega))) ?_; clear hf a; intro a hf
 refine s_v hf (x_bin (hf.eval rfl) (hf.eval rfl) (r_addi _ (by omega) (by omega))) ?_; clear hf a; intro a hf
 refine s_v hf (x_fieldAddr fo111_2 (hf.eval rfl)) ?_; clear hf a; intro a hf
 refine s_do0 hf rfl (y_store hs sc3 (hf.eval rfl) (hf.eval rfl) rfl (by repeat constructor) (by simp) ?_); clear hf hs a; intro w hs a hf
 refine s_nil (then_n (wp_seq (wp_region_lit ?_)))
 refine s_v hf (x_fieldAddr fo111_2 (hf.eval rfl)) ?_; clear hf a; intro a hf
 refine s_r hf (x_load sc3 (hf.eval rfl) (by apply hs.cell <;> repeat constructor)) ?_; clear hf a; intro a hf
 refine s_v hf (x_bin (hf.eval rfl) (hf.eval rfl) (r_quon _ (by omega) (by omega) (by omega))) ?_; clear hf a; intro a hf
 refine s_v hf (x_bin (hf.eval rfl) (hf.eval rfl) (r_muli _ (by omega) (by omega))) ?_; clear hf a; intro a hf
 refine s_v hf (x_bin (hf.eval rfl) (hf.eval rfl) (r_subi _ (by omega) (by omega))) ?_; clear hf a; intro a hf
 refine s_v hf (x_fieldAddr fo111_1 (hf.eval rfl)) ?_; clear hf a; intro a hf
 refine s_do0 hf rfl (y_store hs sc3 (hf.eval rfl) (hf.eval rfl) rfl (by repeat constructor) (by simp) ?_); clear hf hs a; intro w hs a hf
 refine s_nil (then_n (wp_seq (wp_region_lit ?_)))
 refine s_r hf (x_loadBlk hs ag111 (hf.eval rfl) rfl .k0) ?_; clear hf a; intro a hf
 refine s_do0 hf rfl (y_storeAgg hs (n := 3) (by kernel_rfl) (hf.eval rfl) (hf.eval rfl) (by simp [Value.oneCell']) rfl rfl .k1 ?_); clear hf hs a; intro w hs a hf
 refine s_nil (then_n ?_)
 refine wp_ret ?_
 refine r_1c hf Tryz.results78 rfl hs ag111 rfl .k1 ?_
 exact ⟨rfl, hs.kept⟩
theorem rup_spec (w0 : World) (n : Int) (h0 : 0 ≤ n) (h1 : n ≤ 1125899906842624) : Calls Tryz.prog 88 #[.int .i64 n] w0 fun e w' => e = .returned (.int .i64 (upZ n)) ∧ Kept w0 w' None_ := by
 have hs := St.start w0 None_
 have hu : upZ n = (n + 512 - 1) / 512 * 512 := rfl
 refine c_enter (N := 9) Tryz.func88 rfl Tryz.ntmps88 (by simp) ?_
 intro a hf
 refine wp_seq (wp_region_lit ?_)
 refine s_a hf rfl ?_; clear hf a; intro a hf
 refine s_nil (then_n (wp_seq (wp_block ?_)))
 refine c_loop (L0 := [(2, _)]) (fun M w m => ∃ x : Int, M = [(0, .int .i64 x)] ∧ (upZ n - x).toNat = m ∧ n ≤ x ∧ x ≤ upZ n ∧ St ⟨w0, None_⟩ w []) (M0 := [(0, .int .i64 n)]) (⟨n, rfl, rfl, by omega, by omega, hs⟩) (hf.sub ⟨rfl, rfl, trivial⟩) ?_
 clear hf hs a
 rintro M m a w ⟨x, rfl, rfl, hx0, hx1, hs⟩ hf
 refine wp_seq (wp_seq (wp_region_lit ?_))
 refine s_m hf rfl ?_; clear hf a; intro a hf
 refine s_v hf (x_bin (hf.eval rfl) (hf.eval rfl) (r_remn _ _ (by omega) (by omega))) ?_; clear hf a; intro a hf
 refine s_v hf (x_bin (hf.eval rfl) (hf.eval rfl) (r_ne _ _ _ _)) ?_; clear hf a; intro a hf
 refine s_nil (then_n ?_)
 refine c_cond hf rfl (fun hi0 => ?_) (fun hi0 => ?_)
 ·simp at hi0
  refine wp_skip (then_n (wp_block (wp_region_lit ?_)))
  refine s_m hf rfl ?_; clear hf a; intro a hf
  refine s_v hf (x_bin (hf.eval rfl) (hf.eval rfl) (r_addi _ (by omega) (by omega))) ?_; clear hf a; intro a hf
  refine s_a hf rfl ?_; clear hf a; intro a hf
  refine s_nil (blk_n ?_)
  exact ⟨_, _, ⟨x + 1, rfl, rfl, by omega, by omega, hs⟩, by omega, hf.sub ⟨rfl, rfl, trivial⟩⟩
 simp at hi0
 refine wp_exit (then_x (then_x (blk_x (then_n (wp_seq (wp_region_lit ?_))))))
 refine s_m hf rfl ?_; clear hf a; intro a hf
 refine s_a hf rfl ?_; clear hf a; intro a hf
 refine s_nil (then_n ?_)
 refine wp_ret ?_
 refine r_1 hf Tryz.results88 rfl ?_
 exact ⟨by rw [show x = upZ n by omega], hs.kept⟩
theorem seal_spec (w : World) (n : Int) (h0 : 0 ≤ n) (h1 : n ≤ 2251799813685248) : Calls Tryz.prog 54 #[.int .i64 n] w fun e w' => e = .returned (.int .i64 (n / 512 * 512 - 512)) ∧ w' = w := by
 refine c_enter (N := 7) Tryz.func54 rfl Tryz.ntmps54 (by simp) ?_
 intro a hf
 refine wp_seq (wp_region_lit ?_)
 refine s_a hf rfl ?_; clear hf a; intro a hf
 refine s_nil (then_n (wp_seq (wp_region_lit ?_)))
 refine s_m hf rfl ?_; clear hf a; intro a hf
 refine s_v hf (x_bin (hf.eval rfl) (hf.eval rfl) (r_quon _ (by omega) (by omega) (by omega))) ?_; clear hf a; intro a hf
 refine s_v hf (x_bin (hf.eval rfl) (hf.eval rfl) (r_muli _ (by omega) (by omega))) ?_; clear hf a; intro a hf
 refine s_v hf (x_bin (hf.eval rfl) (hf.eval rfl) (r_subi _ (by omega) (by omega))) ?_; clear hf a; intro a hf
 refine s_a hf rfl ?_; clear hf a; intro a hf
 refine s_nil (then_n ?_)
 refine wp_ret ?_
 refine r_1 hf Tryz.results54 rfl ?_
 exact ⟨rfl, rfl⟩
theorem body_spec (w0 : World) (old size : Int) (ho : 0 ≤ old) (ho2 : old ≤ 16777216) (hz : 0 ≤ size) (hz2 : size ≤ 16777216) : Calls Tryz.prog 56 #[.int .i64 old, .int .i64 size] w0 fun e w' => e = .returned (.int .i64 (upZ (max old size))) ∧ Kept w0 w' None_ := by
 have hs := St.start w0 None_
 refine c_enter (N := 9) Tryz.func56 rfl Tryz.ntmps56 (by simp) ?_
 intro a hf
 refine wp_seq (wp_region_lit ?_)
 refine s_a hf rfl ?_; clear hf a; intro a hf
 refine s_nil (then_n (wp_seq (wp_region_lit ?_)))
 refine s_m hf rfl ?_; clear hf a; intro a hf
 refine s_m hf rfl ?_; clear hf a; intro a hf
 refine s_v hf (x_maxI (hf.eval rfl) (hf.eval rfl)) ?_; clear hf a; intro a hf
 refine s_do hf rfl (y_call (hf.eval rfl) (hf.evals rfl) Tryz.call88 ((rup_spec _ _ (by omega) (by omega)).mono ?_))
 rintro e w1 ⟨rfl, hk⟩
 replace hs := hs.ext hk
 refine ⟨_, rfl, ?_⟩; clear hf a; intro a hf
 refine s_a hf rfl ?_; clear hf a; intro a hf
 refine s_nil (then_n ?_)
 refine wp_ret ?_
 refine r_1 hf Tryz.results56 rfl ?_
 exact ⟨rfl, hs.kept⟩
theorem file_spec (w0 : World) (old size length : Int) (ho : 0 ≤ old) (ho2 : old ≤ 16777216) (hz : 0 ≤ size) (hz2 : size ≤ 16777216) (hl : 0 ≤ length) (hl2 : length ≤ 1125899906842624) : Calls Tryz.prog 51 #[.int .i64 old, .int .i64 size, .int .i64 length] w0 fun e w' => e = .returned (.int .i64 (filZ old size length)) ∧ Kept w0 w' None_ := by
 have hs := St.start w0 None_
 obtain ⟨u1, hu1⟩ : ∃ u1, upZ (max old size) = u1 * 512 := ⟨_, rfl⟩
 obtain ⟨u2, hu2⟩ : ∃ u2, upZ length = u2 * 512 := ⟨_, rfl⟩
 have hb1 : old ≤ upZ (max old size) ∧ upZ (max old size) ≤ 16777727 := by unfold upZ; omega
 have hb2 : 0 ≤ upZ length ∧ upZ length ≤ 1125899906843136 := by unfold upZ; omega
 have hF : filZ old size length = old + max 1 ((upZ (max old size) + upZ length + 512 - old + 1024 - 1) / 1024) * 1024 := rfl
 generalize filZ old size length = F at hF ⊢
 generalize hA : upZ (max old size) = A at hu1 hb1 hF
 generalize hB : upZ length = B at hu2 hb2 hF
 refine c_enter (N := 24) Tryz.func51 rfl Tryz.ntmps51 (by simp) ?_
 intro a hf
 refine wp_seq (wp_region_lit ?_)
 refine s_a hf rfl ?_; clear hf a; intro a hf
 refine s_nil (then_n (wp_seq (wp_region_lit ?_)))
 refine s_m hf rfl ?_; clear hf a; intro a hf
 refine s_m hf rfl ?_; clear hf a; intro a hf
 refine s_do hf rfl (y_call (hf.eval rfl) (hf.evals rfl) Tryz.call56 ((body_spec _ old size ho ho2 hz hz2).mono ?_))
 rintro e w1 ⟨rfl, hk⟩
 replace hs := hs.ext hk
 rw [hA]
 refine ⟨_, rfl, ?_⟩; clear hf a; intro a hf
 refine s_m hf rfl ?_; clear hf a; intro a hf
 refine s_do hf rfl (y_call (hf.eval rfl) (hf.evals rfl) Tryz.call88 ((rup_spec _ length hl hl2).mono ?_))
 rintro e w1 ⟨rfl, hk⟩
 replace hs := hs.ext hk
 rw [hB]
 refine ⟨_, rfl, ?_⟩; clear hf a; intro a hf
 refine s_v hf (x_bin (hf.eval rfl) (hf.eval rfl) (r_addi _ (by omega) (by omega))) ?_; clear hf a; intro a hf
 refine s_a hf rfl ?_; clear hf a; intro a hf
 refine s_nil (then_n (wp_seq (wp_region_lit ?_)))
 refine s_m hf rfl ?_; clear hf a; intro a hf
 refine s_v hf (x_bin (hf.eval rfl) (hf.eval rfl) (r_addi _ (by omega) (by omega))) ?_; clear hf a; intro a hf
 refine s_a hf rfl ?_; clear hf a; intro a hf
 refine s_nil (then_n (wp_seq (wp_block ?_)))
 refine c_loop (L0 := [(6, _), (7, _)]) (fun M w m => ∃ f : Int, M = [(8, .int .i64 f)] ∧ (F - f).toNat = m ∧ old + 1024 ≤ f ∧ f ≤ F ∧ (F - f) % 1024 = 0 ∧ St ⟨w0, None_⟩ w []) (M0 := [(8, .int .i64 (old + 1024))]) (⟨old + 1024, rfl, rfl, by omega, by omega, by omega, hs⟩) (hf.sub ⟨rfl, rfl, rfl, trivial⟩) ?_
 clear hf hs a
 rintro M m a w ⟨f, rfl, rfl, hf0, hf1, hf2, hs⟩ hf
 refine wp_seq (wp_seq (wp_region_lit ?_))
 refine s_m hf rfl ?_; clear hf a; intro a hf
 refine s_do hf rfl (y_call (hf.eval rfl) (hf.evals rfl) Tryz.call54 ((seal_spec _ f (by omega) (by omega)).mono ?_))
 rintro e w1 ⟨rfl, rfl⟩
 refine ⟨_, rfl, ?_⟩; clear hf a; intro a hf
 refine s_m hf rfl ?_; clear hf a; intro a hf
 refine s_v hf (x_bin (hf.eval rfl) (hf.eval rfl) (r_lt _ _ _ _)) ?_; clear hf a; intro a hf
 refine s_nil (then_n ?_)
 refine c_cond hf rfl (fun hi0 => ?_) (fun hi0 => ?_)
 ·simp only [zd1, zd2, zd3, zd4, zd5, zd6, zd7] at hi0
  refine wp_skip (then_n (wp_block (wp_region_lit ?_)))
  refine s_m hf rfl ?_; clear hf a; intro a hf
  refine s_v hf (x_bin (hf.eval rfl) (hf.eval rfl) (r_addi _ (by omega) (by omega))) ?_; clear hf a; intro a hf
  refine s_a hf rfl ?_; clear hf a; intro a hf
  refine s_nil (blk_n ?_)
  exact ⟨_, _, ⟨f + 1024, rfl, rfl, by omega, by omega, by omega, hs⟩, by omega, hf.sub ⟨rfl, rfl, rfl, trivial⟩⟩
 simp only [zd1, zd2, zd3, zd4, zd5, zd6, zd7] at hi0
 refine wp_exit (then_x (then_x (blk_x (then_n (wp_seq (wp_region_lit ?_))))))
 refine s_m hf rfl ?_; clear hf a; intro a hf
 refine s_a hf rfl ?_; clear hf a; intro a hf
 refine s_nil (then_n ?_)
 refine wp_ret ?_
 refine r_1 hf Tryz.results51 rfl ?_
 exact ⟨by rw [show f = F by omega], hs.kept⟩
theorem fil_ge {old size length : Int} (h0 : 0 ≤ old) (h1 : 0 ≤ size) (h2 : 0 ≤ length) : upZ (max old size) + upZ length + 512 ≤ filZ old size length ∧ old + 1024 ≤ filZ old size length ∧ max old size ≤ upZ (max old size) ∧ length ≤ upZ length := by
  unfold filZ upZ
  omega
end Go.Proofs.YtehakfbfjpolfaaGreatDoor

namespace Go.Proofs.YtehakfbfjpolfaaGreatDoor
open Go Vw
theorem cells_of {σ : Sig} {w : World} {L R : List Asrt} {b T : Nat} {vs : List Value} (hs : St σ w L) (tk : Take (cb b T vs) L R) : ∀ (j : Nat) (v : Value), vs[j]? = some v → w.cell? ((⟨b, 0, none⟩ : Addr).add j) = some v := fun j v hv => by
  have := hs.cell tk hv
  rwa [show (⟨b, 0, none⟩ : Addr).add j = ⟨b, j, none⟩ by unfold Addr.add; split <;> simp_all]
theorem seg_rd {h : Heaplet} {a : Option Addr} {c : Nat} {l : List UInt8} (hr : RdB h (.slice a l.length c) l) (hn : 512 ≤ l.length) : RdB h (.slice (subA a c (seAt l.length) 1) (segS l).length (c - seAt l.length)) (segS l) := by
  have h2 := seAt_le hn
  have h1 := RdB.sub (i := seAt l.length) (j := seAt l.length + 512) hr rfl (by omega) h2
  rw [show seAt l.length + 512 - seAt l.length = 512 by omega] at h1
  rw [segS_len hn]
  exact h1
theorem tl_rd {h : Heaplet} {a : Option Addr} {c k : Nat} {l : List UInt8} (hr : RdB h (.slice a l.length c) l) (hk : k ≤ l.length) : RdB h (.slice (subA a c k 1) (l.drop k).length (c - k)) (l.drop k) := by
  have h1 := RdB.sub (i := k) (j := l.length) hr rfl hk (Nat.le_refl _)
  rw [List.take_of_length_le (by rw [List.length_drop]; exact Nat.le_refl _)] at h1
  rw [List.length_drop]
  exact h1
theorem decE_yes {l : List UInt8} (h : decE l = 0) : decOk l = true := by
  unfold decE at h
  cases e : decOk l with
  | true => rfl
  | false => rw [e] at h; simp at h
theorem dec_ne {l : List UInt8} (h : decE l ≠ 0) : decOk l = false := by
  cases e : decOk l with
  | false => rfl
  | true => exact absurd (dec_yes e).2 h
theorem dec_flds {l : List UInt8} (h : decOk l = true) : (2 ≤ (dsF l).1 ∧ (dsF l).1 ≤ 4) ∧ (0 ≤ (dsF l).2.1 ∧ (dsF l).2.1 ≤ 4294967295) ∧ (0 ≤ (dsF l).2.2.1 ∧ (dsF l).2.2.1 ≤ 4294967295) ∧ (0 ≤ (dsF l).2.2.2.1 ∧ (dsF l).2.2.2.1 ≤ 4294967295) ∧ (0 ≤ (dsF l).2.2.2.2.1 ∧ (dsF l).2.2.2.2.1 ≤ 4294967295) ∧ (0 ≤ (dsF l).2.2.2.2.2.1 ∧ (dsF l).2.2.2.2.2.1 ≤ 4294967295) := by
  unfold decOk at h
  simp only [Bool.and_eq_true, decide_eq_true_eq] at h
  exact ⟨slOk_st h.1.2, slOk_in h.1.2⟩
theorem rsealed_spec (w0 : World) (a1 : Option Addr) (c1 : Nat) (l : List UInt8) (hr1 : RdB (hp w0) (.slice a1 l.length c1) l) (hl1 : l.length ≤ 16777216) : Calls Tryz.prog 63 #[.slice a1 l.length c1] w0 fun e w' => ∃ sv : Sl, e = .returned (.tuple #[.agg (slF sv).toArray, .bool (seOk l)]) ∧ (seOk l = true → sv = sdS l) ∧ Kept w0 w' None_ := by
 have hs := St.start w0 None_
 have hcp := RdB.cap hr1
 refine c_enter (N := 65) Tryz.func63 rfl Tryz.ntmps63 (by simp) ?_
 intro a hf
 refine wp_seq (wp_region_lit ?_)
 refine s_do hf rfl (y_alloc hs Tryz.zeroValue99 ?_); clear hf hs a; intro b2 w hs a hf
 change St _ _ (cb b2 99 (slF zSl) :: _) at hs
 refine s_a hf rfl ?_; clear hf a; intro a hf
 refine s_nil (then_n (wp_seq (wp_region_lit ?_)))
 refine s_m hf rfl ?_; clear hf a; intro a hf
 refine s_v hf (x_len Tryz.underlying22 (hf.eval rfl)) ?_; clear hf a; intro a hf
 refine s_a hf rfl ?_; clear hf a; intro a hf
 refine s_nil (then_n (wp_seq (wp_seq (wp_region_lit ?_))))
 refine s_m hf rfl ?_; clear hf a; intro a hf
 refine s_v hf (x_bin (hf.eval rfl) (hf.eval rfl) (r_lt _ _ _ _)) ?_; clear hf a; intro a hf
 refine s_nil (then_n ?_)
 refine c_cond hf rfl (fun hi0 => ?_) (fun hi0 => ?_)
 ·first | simp only [zd1, zd2, zd3, zd4] at hi0 | skip
  refine wp_seq (wp_region_lit ?_)
  refine s_r hf (x_build (v := .agg (slF zSl).toArray) (hf.parts rfl) (fun w => by kernel_rfl) _) ?_; clear hf a; intro a hf
  replace hs := hs.take (A := cb b2 99 (slF zSl)) (by repeat constructor)
  refine s_do0 hf rfl (y_storeAgg (cs := slF zSl) hs (n := 7) (by kernel_rfl) (hf.eval rfl) (hf.eval rfl) (by simp [Value.oneCell', slF]) rfl rfl .k0 ?_); clear hf hs a; intro w hs a hf
  refine s_a hf rfl ?_; clear hf a; intro a hf
  refine s_nil (then_n ?_)
  refine wp_ret ?_
  refine then_r ?_
  refine r_2c hf Tryz.results63 rfl rfl hs ag99 rfl .k0 ?_
  have hno : seOk l = false := by
    unfold seOk
    first
    | (rw [decide_eq_false (show ¬ 512 ≤ l.length by omega)]; simp; done)
    | (rw [dec_ne hg6_2]; simp; done)
    | (rw [decide_eq_false (show ¬ (sdS l).2.2.1 ≤ 16777216 by omega)]; simp; done)
    | (rw [decide_eq_false (show ¬ (sdS l).2.2.2.1 ≤ 16777216 by omega)]; simp; done)
    | (have h9 := fil_ge (old := (sdS l).2.2.1) (size := (sdS l).2.2.2.1) (length := (sdS l).2.2.2.2.2.1) (by omega) (by omega) (by omega); rw [decide_eq_false (show ¬ filZ (sdS l).2.2.1 (sdS l).2.2.2.1 (sdS l).2.2.2.2.2.1 = (l.length : Int) by omega)]; simp; done)
  rw [hno]
  exact ⟨_, rfl, fun h => (by cases h), hs.kept⟩
 first | simp only [zd1, zd2, zd3, zd4] at hi0 | skip
 have hn5 : 512 ≤ l.length := by omega
 have hsa := seAt_le hn5
 have hsl := segS_len hn5
 refine wp_skip (then_n (wp_seq (wp_region_lit ?_)))
 refine s_m hf rfl ?_; clear hf a; intro a hf
 refine s_do hf rfl (y_call (hf.eval rfl) (hf.evals rfl) Tryz.call54 ((seal_spec _ _ (by omega) (by omega)).mono ?_))
 rintro e w1 ⟨rfl, hw9⟩
 rw [hw9]
 clear hw9 w1
 refine ⟨_, rfl, ?_⟩; clear hf a; intro a hf
 refine s_a hf rfl ?_; clear hf a; intro a hf
 replace hf := hf.now (k := 5) (v' := .int .i64 (((seAt l.length) : Nat) : Int)) rfl (by congr 1; unfold seAt; omega)
 refine s_nil (then_n (wp_seq (wp_region_lit ?_)))
 refine s_m hf rfl ?_; clear hf a; intro a hf
 refine s_m hf rfl ?_; clear hf a; intro a hf
 refine s_m hf rfl ?_; clear hf a; intro a hf
 refine s_v hf (x_bin (hf.eval rfl) (hf.eval rfl) (r_addi _ (by omega) (by omega))) ?_; clear hf a; intro a hf
 refine s_v hf (x_slice sl22 (hf.eval rfl) (hf.eval rfl) (hf.eval rfl)  (by omega) (by omega) (by omega)) ?_; clear hf a; intro a hf
 replace hf := hf.now (k := 20) (v' := .slice (subA a1 c1 (seAt l.length) 1) (segS l).length (c1 - (seAt l.length))) rfl (by rw [hsl]; congr 1 <;> omega)
 refine s_do hf rfl (y_call (hf.eval rfl) (hf.evals rfl) Tryz.call96 ((rdecode_spec _ _ _ (segS l) (hs.oldB (seg_rd hr1 hn5)) (by omega)).mono ?_))
 rintro e w1 ⟨rfl, hk⟩
 replace hs := hs.ext hk
 refine ⟨_, rfl, ?_⟩; clear hf a; intro a hf
 refine s_m hf rfl ?_; clear hf a; intro a hf
 refine s_v hf (x_extract (hf.eval rfl) rfl) ?_; clear hf a; intro a hf
 refine s_v hf (x_extract (hf.eval rfl) rfl) ?_; clear hf a; intro a hf
 refine s_do hf rfl (y_alloc hs Tryz.zeroValue99 ?_); clear hf hs a; intro b6 w hs a hf
 change St _ _ (cb b6 99 (slF zSl) :: _) at hs
 refine s_do0 hf rfl (y_storeAgg (cs := slF (decV (segS l))) hs (n := 7) (by kernel_rfl) (hf.eval rfl) (hf.eval rfl) (by simp [Value.oneCell', slF]) rfl rfl .k0 ?_); clear hf hs a; intro w hs a hf
 refine s_a hf rfl ?_; clear hf a; intro a hf
 refine s_nil (then_n (wp_seq (wp_seq (wp_region_lit ?_))))
 refine s_m hf rfl ?_; clear hf a; intro a hf
 refine s_v hf (x_bin (hf.eval rfl) (hf.eval rfl) (r_ne _ _ _ _)) ?_; clear hf a; intro a hf
 refine s_m hf rfl ?_; clear hf a; intro a hf
 refine s_bool hf (k := 26) rfl (fun hg6_2 hf' => ?_) (fun hg6_2 hf' => ?_)
 ·clear hf
  have hf := hf'
  clear hf'
  first | simp only [zd1, zd2, zd3, zd4] at hg6_2 | skip
  refine s_pass hf rfl rfl ?_; clear hf a; intro a hf
  refine s_pass hf rfl rfl ?_; clear hf a; intro a hf
  refine s_pass hf rfl rfl ?_; clear hf a; intro a hf
  refine s_v hf (x_pick_t (hf.eval rfl) (hf.eval rfl)) ?_; clear hf a; intro a hf
  refine s_m hf rfl ?_; clear hf a; intro a hf
  refine s_pass hf rfl rfl ?_; clear hf a; intro a hf
  refine s_pass hf rfl rfl ?_; clear hf a; intro a hf
  refine s_pass hf rfl rfl ?_; clear hf a; intro a hf
  refine s_v hf (x_pick_t (hf.eval rfl) (hf.eval rfl)) ?_; clear hf a; intro a hf
  refine s_m hf rfl ?_; clear hf a; intro a hf
  refine s_pass hf rfl rfl ?_; clear hf a; intro a hf
  refine s_pass hf rfl rfl ?_; clear hf a; intro a hf
  refine s_pass hf rfl rfl ?_; clear hf a; intro a hf
  refine s_pass hf rfl rfl ?_; clear hf a; intro a hf
  refine s_v hf (x_pick_t (hf.eval rfl) (hf.eval rfl)) ?_; clear hf a; intro a hf
  refine s_m hf rfl ?_; clear hf a; intro a hf
  refine s_pass hf rfl rfl ?_; clear hf a; intro a hf
  refine s_pass hf rfl rfl ?_; clear hf a; intro a hf
  refine s_pass hf rfl rfl ?_; clear hf a; intro a hf
  refine s_pass hf rfl rfl ?_; clear hf a; intro a hf
  refine s_pass hf rfl rfl ?_; clear hf a; intro a hf
  refine s_pass hf rfl rfl ?_; clear hf a; intro a hf
  refine s_pass hf rfl rfl ?_; clear hf a; intro a hf
  refine s_pass hf rfl rfl ?_; clear hf a; intro a hf
  refine s_pass hf rfl rfl ?_; clear hf a; intro a hf
  refine s_v hf (x_pick_t (hf.eval rfl) (hf.eval rfl)) ?_; clear hf a; intro a hf
  refine s_nil (then_n ?_)
  refine c_cond_t hf rfl rfl ?_
  refine wp_seq (wp_region_lit ?_)
  refine s_r hf (x_build (v := .agg (slF zSl).toArray) (hf.parts rfl) (fun w => by kernel_rfl) _) ?_; clear hf a; intro a hf
  replace hs := hs.take (A := cb b2 99 (slF zSl)) (by repeat constructor)
  refine s_do0 hf rfl (y_storeAgg (cs := slF zSl) hs (n := 7) (by kernel_rfl) (hf.eval rfl) (hf.eval rfl) (by simp [Value.oneCell', slF]) rfl rfl .k0 ?_); clear hf hs a; intro w hs a hf
  refine s_a hf rfl ?_; clear hf a; intro a hf
  refine s_nil (then_n ?_)
  refine wp_ret ?_
  refine then_r ?_
  refine r_2c hf Tryz.results63 rfl rfl hs ag99 rfl .k0 ?_
  have hno : seOk l = false := by
    unfold seOk
    first
    | (rw [decide_eq_false (show ¬ 512 ≤ l.length by omega)]; simp; done)
    | (rw [dec_ne hg6_2]; simp; done)
    | (rw [decide_eq_false (show ¬ (sdS l).2.2.1 ≤ 16777216 by omega)]; simp; done)
    | (rw [decide_eq_false (show ¬ (sdS l).2.2.2.1 ≤ 16777216 by omega)]; simp; done)
    | (have h9 := fil_ge (old := (sdS l).2.2.1) (size := (sdS l).2.2.2.1) (length := (sdS l).2.2.2.2.2.1) (by omega) (by omega) (by omega); rw [decide_eq_false (show ¬ filZ (sdS l).2.2.1 (sdS l).2.2.2.1 (sdS l).2.2.2.2.2.1 = (l.length : Int) by omega)]; simp; done)
  rw [hno]
  exact ⟨_, rfl, fun h => (by cases h), hs.kept⟩
 clear hf
 have hf := hf'
 clear hf'
 first | simp only [zd1, zd2, zd3, zd4] at hg6_2 | skip
 have hdk := decE_yes hg6_2
 obtain ⟨d0, d1, d2, d3, d4, d5⟩ := dec_flds hdk
 rw [(dec_yes hdk).1] at hs
 have hsd : dsF (segS l) = sdS l := rfl
 rw [hsd] at d0 d1 d2 d3 d4 d5 hs
 refine s_do hf (wanted_of hf rfl rfl rfl) (.value (x_fieldAddr fo99_2 (hf.eval rfl) _) ?_); clear hf a; intro a hf
 refine s_do hf (wanted_of hf rfl rfl rfl) (.value (x_load sc3 (hf.eval rfl) (by apply hs.cell <;> repeat constructor)) ?_); clear hf a; intro a hf
 refine s_do hf (wanted_of hf rfl rfl rfl) (.value (x_bin (hf.eval rfl) (hf.eval rfl) (r_gt _ _ _ _) _) ?_); clear hf a; intro a hf
 refine s_v hf (x_pick_f (hf.eval rfl) (hf.eval rfl)) ?_; clear hf a; intro a hf
 refine s_m hf rfl ?_; clear hf a; intro a hf
 refine s_bool hf (k := 31) rfl (fun hg6_7 hf' => ?_) (fun hg6_7 hf' => ?_)
 ·clear hf
  have hf := hf'
  clear hf'
  first | simp only [zd1, zd2, zd3, zd4] at hg6_7 | skip
  refine s_pass hf rfl rfl ?_; clear hf a; intro a hf
  refine s_pass hf rfl rfl ?_; clear hf a; intro a hf
  refine s_pass hf rfl rfl ?_; clear hf a; intro a hf
  refine s_v hf (x_pick_t (hf.eval rfl) (hf.eval rfl)) ?_; clear hf a; intro a hf
  refine s_m hf rfl ?_; clear hf a; intro a hf
  refine s_pass hf rfl rfl ?_; clear hf a; intro a hf
  refine s_pass hf rfl rfl ?_; clear hf a; intro a hf
  refine s_pass hf rfl rfl ?_; clear hf a; intro a hf
  refine s_pass hf rfl rfl ?_; clear hf a; intro a hf
  refine s_v hf (x_pick_t (hf.eval rfl) (hf.eval rfl)) ?_; clear hf a; intro a hf
  refine s_m hf rfl ?_; clear hf a; intro a hf
  refine s_pass hf rfl rfl ?_; clear hf a; intro a hf
  refine s_pass hf rfl rfl ?_; clear hf a; intro a hf
  refine s_pass hf rfl rfl ?_; clear hf a; intro a hf
  refine s_pass hf rfl rfl ?_; clear hf a; intro a hf
  refine s_pass hf rfl rfl ?_; clear hf a; intro a hf
  refine s_pass hf rfl rfl ?_; clear hf a; intro a hf
  refine s_pass hf rfl rfl ?_; clear hf a; intro a hf
  refine s_pass hf rfl rfl ?_; clear hf a; intro a hf
  refine s_pass hf rfl rfl ?_; clear hf a; intro a hf
  refine s_v hf (x_pick_t (hf.eval rfl) (hf.eval rfl)) ?_; clear hf a; intro a hf
  refine s_nil (then_n ?_)
  refine c_cond_t hf rfl rfl ?_
  refine wp_seq (wp_region_lit ?_)
  refine s_r hf (x_build (v := .agg (slF zSl).toArray) (hf.parts rfl) (fun w => by kernel_rfl) _) ?_; clear hf a; intro a hf
  replace hs := hs.take (A := cb b2 99 (slF zSl)) (by repeat constructor)
  refine s_do0 hf rfl (y_storeAgg (cs := slF zSl) hs (n := 7) (by kernel_rfl) (hf.eval rfl) (hf.eval rfl) (by simp [Value.oneCell', slF]) rfl rfl .k0 ?_); clear hf hs a; intro w hs a hf
  refine s_a hf rfl ?_; clear hf a; intro a hf
  refine s_nil (then_n ?_)
  refine wp_ret ?_
  refine then_r ?_
  refine r_2c hf Tryz.results63 rfl rfl hs ag99 rfl .k0 ?_
  have hno : seOk l = false := by
    unfold seOk
    first
    | (rw [decide_eq_false (show ¬ 512 ≤ l.length by omega)]; simp; done)
    | (rw [dec_ne hg6_2]; simp; done)
    | (rw [decide_eq_false (show ¬ (sdS l).2.2.1 ≤ 16777216 by omega)]; simp; done)
    | (rw [decide_eq_false (show ¬ (sdS l).2.2.2.1 ≤ 16777216 by omega)]; simp; done)
    | (have h9 := fil_ge (old := (sdS l).2.2.1) (size := (sdS l).2.2.2.1) (length := (sdS l).2.2.2.2.2.1) (by omega) (by omega) (by omega); rw [decide_eq_false (show ¬ filZ (sdS l).2.2.1 (sdS l).2.2.2.1 (sdS l).2.2.2.2.2.1 = (l.length : Int) by omega)]; simp; done)
  rw [hno]
  exact ⟨_, rfl, fun h => (by cases h), hs.kept⟩
 clear hf
 have hf := hf'
 clear hf'
 first | simp only [zd1, zd2, zd3, zd4] at hg6_7 | skip
 refine s_do hf (wanted_of hf rfl rfl rfl) (.value (x_fieldAddr fo99_3 (hf.eval rfl) _) ?_); clear hf a; intro a hf
 refine s_do hf (wanted_of hf rfl rfl rfl) (.value (x_load sc3 (hf.eval rfl) (by apply hs.cell <;> repeat constructor)) ?_); clear hf a; intro a hf
 refine s_do hf (wanted_of hf rfl rfl rfl) (.value (x_bin (hf.eval rfl) (hf.eval rfl) (r_gt _ _ _ _) _) ?_); clear hf a; intro a hf
 refine s_v hf (x_pick_f (hf.eval rfl) (hf.eval rfl)) ?_; clear hf a; intro a hf
 refine s_m hf rfl ?_; clear hf a; intro a hf
 refine s_bool hf (k := 36) rfl (fun hg6_12 hf' => ?_) (fun hg6_12 hf' => ?_)
 ·clear hf
  have hf := hf'
  clear hf'
  first | simp only [zd1, zd2, zd3, zd4] at hg6_12 | skip
  refine s_pass hf rfl rfl ?_; clear hf a; intro a hf
  refine s_pass hf rfl rfl ?_; clear hf a; intro a hf
  refine s_pass hf rfl rfl ?_; clear hf a; intro a hf
  refine s_pass hf rfl rfl ?_; clear hf a; intro a hf
  refine s_v hf (x_pick_t (hf.eval rfl) (hf.eval rfl)) ?_; clear hf a; intro a hf
  refine s_m hf rfl ?_; clear hf a; intro a hf
  refine s_pass hf rfl rfl ?_; clear hf a; intro a hf
  refine s_pass hf rfl rfl ?_; clear hf a; intro a hf
  refine s_pass hf rfl rfl ?_; clear hf a; intro a hf
  refine s_pass hf rfl rfl ?_; clear hf a; intro a hf
  refine s_pass hf rfl rfl ?_; clear hf a; intro a hf
  refine s_pass hf rfl rfl ?_; clear hf a; intro a hf
  refine s_pass hf rfl rfl ?_; clear hf a; intro a hf
  refine s_pass hf rfl rfl ?_; clear hf a; intro a hf
  refine s_pass hf rfl rfl ?_; clear hf a; intro a hf
  refine s_v hf (x_pick_t (hf.eval rfl) (hf.eval rfl)) ?_; clear hf a; intro a hf
  refine s_nil (then_n ?_)
  refine c_cond_t hf rfl rfl ?_
  refine wp_seq (wp_region_lit ?_)
  refine s_r hf (x_build (v := .agg (slF zSl).toArray) (hf.parts rfl) (fun w => by kernel_rfl) _) ?_; clear hf a; intro a hf
  replace hs := hs.take (A := cb b2 99 (slF zSl)) (by repeat constructor)
  refine s_do0 hf rfl (y_storeAgg (cs := slF zSl) hs (n := 7) (by kernel_rfl) (hf.eval rfl) (hf.eval rfl) (by simp [Value.oneCell', slF]) rfl rfl .k0 ?_); clear hf hs a; intro w hs a hf
  refine s_a hf rfl ?_; clear hf a; intro a hf
  refine s_nil (then_n ?_)
  refine wp_ret ?_
  refine then_r ?_
  refine r_2c hf Tryz.results63 rfl rfl hs ag99 rfl .k0 ?_
  have hno : seOk l = false := by
    unfold seOk
    first
    | (rw [decide_eq_false (show ¬ 512 ≤ l.length by omega)]; simp; done)
    | (rw [dec_ne hg6_2]; simp; done)
    | (rw [decide_eq_false (show ¬ (sdS l).2.2.1 ≤ 16777216 by omega)]; simp; done)
    | (rw [decide_eq_false (show ¬ (sdS l).2.2.2.1 ≤ 16777216 by omega)]; simp; done)
    | (have h9 := fil_ge (old := (sdS l).2.2.1) (size := (sdS l).2.2.2.1) (length := (sdS l).2.2.2.2.2.1) (by omega) (by omega) (by omega); rw [decide_eq_false (show ¬ filZ (sdS l).2.2.1 (sdS l).2.2.2.1 (sdS l).2.2.2.2.2.1 = (l.length : Int) by omega)]; simp; done)
  rw [hno]
  exact ⟨_, rfl, fun h => (by cases h), hs.kept⟩
 clear hf
 have hf := hf'
 clear hf'
 first | simp only [zd1, zd2, zd3, zd4] at hg6_12 | skip
 refine s_do hf (wanted_of hf rfl rfl rfl) (.value (x_fieldAddr fo99_5 (hf.eval rfl) _) ?_); clear hf a; intro a hf
 refine s_do hf (wanted_of hf rfl rfl rfl) (.value (x_load sc3 (hf.eval rfl) (by apply hs.cell <;> repeat constructor)) ?_); clear hf a; intro a hf
 refine s_do hf (wanted_of hf rfl rfl rfl) (.value (x_move (hf.eval rfl) _) ?_); clear hf a; intro a hf
 refine s_do hf (wanted_of hf rfl rfl rfl) (.value (x_bin (hf.eval rfl) (hf.eval rfl) (r_gt _ _ _ _) _) ?_); clear hf a; intro a hf
 refine s_v hf (x_pick_f (hf.eval rfl) (hf.eval rfl)) ?_; clear hf a; intro a hf
 refine s_m hf rfl ?_; clear hf a; intro a hf
 refine s_bool hf (k := 42) rfl (fun hg6_18 hf' => ?_) (fun hg6_18 hf' => ?_)
 ·clear hf
  have hf := hf'
  clear hf'
  first | simp only [zd1, zd2, zd3, zd4] at hg6_18 | skip
  refine s_pass hf rfl rfl ?_; clear hf a; intro a hf
  refine s_pass hf rfl rfl ?_; clear hf a; intro a hf
  refine s_pass hf rfl rfl ?_; clear hf a; intro a hf
  refine s_pass hf rfl rfl ?_; clear hf a; intro a hf
  refine s_pass hf rfl rfl ?_; clear hf a; intro a hf
  refine s_pass hf rfl rfl ?_; clear hf a; intro a hf
  refine s_pass hf rfl rfl ?_; clear hf a; intro a hf
  refine s_pass hf rfl rfl ?_; clear hf a; intro a hf
  refine s_pass hf rfl rfl ?_; clear hf a; intro a hf
  refine s_v hf (x_pick_t (hf.eval rfl) (hf.eval rfl)) ?_; clear hf a; intro a hf
  refine s_nil (then_n ?_)
  refine c_cond_t hf rfl rfl ?_
  refine wp_seq (wp_region_lit ?_)
  refine s_r hf (x_build (v := .agg (slF zSl).toArray) (hf.parts rfl) (fun w => by kernel_rfl) _) ?_; clear hf a; intro a hf
  replace hs := hs.take (A := cb b2 99 (slF zSl)) (by repeat constructor)
  refine s_do0 hf rfl (y_storeAgg (cs := slF zSl) hs (n := 7) (by kernel_rfl) (hf.eval rfl) (hf.eval rfl) (by simp [Value.oneCell', slF]) rfl rfl .k0 ?_); clear hf hs a; intro w hs a hf
  refine s_a hf rfl ?_; clear hf a; intro a hf
  refine s_nil (then_n ?_)
  refine wp_ret ?_
  refine then_r ?_
  refine r_2c hf Tryz.results63 rfl rfl hs ag99 rfl .k0 ?_
  have hno : seOk l = false := by
    unfold seOk
    first
    | (rw [decide_eq_false (show ¬ 512 ≤ l.length by omega)]; simp; done)
    | (rw [dec_ne hg6_2]; simp; done)
    | (rw [decide_eq_false (show ¬ (sdS l).2.2.1 ≤ 16777216 by omega)]; simp; done)
    | (rw [decide_eq_false (show ¬ (sdS l).2.2.2.1 ≤ 16777216 by omega)]; simp; done)
    | (have h9 := fil_ge (old := (sdS l).2.2.1) (size := (sdS l).2.2.2.1) (length := (sdS l).2.2.2.2.2.1) (by omega) (by omega) (by omega); rw [decide_eq_false (show ¬ filZ (sdS l).2.2.1 (sdS l).2.2.2.1 (sdS l).2.2.2.2.2.1 = (l.length : Int) by omega)]; simp; done)
  rw [hno]
  exact ⟨_, rfl, fun h => (by cases h), hs.kept⟩
 clear hf
 have hf := hf'
 clear hf'
 first | simp only [zd1, zd2, zd3, zd4] at hg6_18 | skip
 refine s_do hf (wanted_of hf rfl rfl rfl) (.value (x_fieldAddr fo99_2 (hf.eval rfl) _) ?_); clear hf a; intro a hf
 refine s_do hf (wanted_of hf rfl rfl rfl) (.value (x_load sc3 (hf.eval rfl) (by apply hs.cell <;> repeat constructor)) ?_); clear hf a; intro a hf
 refine s_do hf (wanted_of hf rfl rfl rfl) (.value (x_fieldAddr fo99_3 (hf.eval rfl) _) ?_); clear hf a; intro a hf
 refine s_do hf (wanted_of hf rfl rfl rfl) (.value (x_load sc3 (hf.eval rfl) (by apply hs.cell <;> repeat constructor)) ?_); clear hf a; intro a hf
 refine s_do hf (wanted_of hf rfl rfl rfl) (.value (x_fieldAddr fo99_5 (hf.eval rfl) _) ?_); clear hf a; intro a hf
 refine s_do hf (wanted_of hf rfl rfl rfl) (.value (x_load sc3 (hf.eval rfl) (by apply hs.cell <;> repeat constructor)) ?_); clear hf a; intro a hf
 refine s_do hf (wanted_of hf rfl rfl rfl) (y_call (hf.eval rfl) (hf.evals rfl) Tryz.call51 ((file_spec _ (sdS l).2.2.1 (sdS l).2.2.2.1 (sdS l).2.2.2.2.2.1 (by omega) (by omega) (by omega) (by omega) (by omega) (by omega)).mono ?_))
 rintro e w1 ⟨rfl, hk⟩
 replace hs := hs.ext hk
 refine ⟨_, rfl, ?_⟩; clear hf a; intro a hf
 refine s_do hf (wanted_of hf rfl rfl rfl) (.value (x_move (hf.eval rfl) _) ?_); clear hf a; intro a hf
 refine s_do hf (wanted_of hf rfl rfl rfl) (.value (x_bin (hf.eval rfl) (hf.eval rfl) (r_ne _ _ _ _) _) ?_); clear hf a; intro a hf
 refine s_v hf (x_pick_f (hf.eval rfl) (hf.eval rfl)) ?_; clear hf a; intro a hf
 refine s_nil (then_n ?_)
 refine c_cond hf rfl (fun hi1 => ?_) (fun hi1 => ?_)
 ·first | simp only [zd1, zd2, zd3, zd4] at hi1 | skip
  refine wp_seq (wp_region_lit ?_)
  refine s_r hf (x_build (v := .agg (slF zSl).toArray) (hf.parts rfl) (fun w => by kernel_rfl) _) ?_; clear hf a; intro a hf
  replace hs := hs.take (A := cb b2 99 (slF zSl)) (by repeat constructor)
  refine s_do0 hf rfl (y_storeAgg (cs := slF zSl) hs (n := 7) (by kernel_rfl) (hf.eval rfl) (hf.eval rfl) (by simp [Value.oneCell', slF]) rfl rfl .k0 ?_); clear hf hs a; intro w hs a hf
  refine s_a hf rfl ?_; clear hf a; intro a hf
  refine s_nil (then_n ?_)
  refine wp_ret ?_
  refine then_r ?_
  refine r_2c hf Tryz.results63 rfl rfl hs ag99 rfl .k0 ?_
  have hno : seOk l = false := by
    unfold seOk
    first
    | (rw [decide_eq_false (show ¬ 512 ≤ l.length by omega)]; simp; done)
    | (rw [dec_ne hg6_2]; simp; done)
    | (rw [decide_eq_false (show ¬ (sdS l).2.2.1 ≤ 16777216 by omega)]; simp; done)
    | (rw [decide_eq_false (show ¬ (sdS l).2.2.2.1 ≤ 16777216 by omega)]; simp; done)
    | (have h9 := fil_ge (old := (sdS l).2.2.1) (size := (sdS l).2.2.2.1) (length := (sdS l).2.2.2.2.2.1) (by omega) (by omega) (by omega); rw [decide_eq_false (show ¬ filZ (sdS l).2.2.1 (sdS l).2.2.2.1 (sdS l).2.2.2.2.2.1 = (l.length : Int) by omega)]; simp; done)
  rw [hno]
  exact ⟨_, rfl, fun h => (by cases h), hs.kept⟩
 first | simp only [zd1, zd2, zd3, zd4] at hi1 | skip
 refine wp_skip (then_n (wp_seq ?_))
 replace hs := hs.take (A := cb b6 99 (slF (sdS l))) (by repeat constructor)
 refine c_draw hs (fun w' => ∀ (j : Nat) (v : Value), (slF (sdS l))[j]? = some v → w'.cell? ((⟨b6, 0, none⟩ : Addr).add j) = some v) [.held, .held, .held, .held, .held, .eff, .held, .held, .held, .held, .held, .eff, .held] (by kernel_rfl) (by kernel_rfl) (fun _ _ hs => cells_of hs .k0) ?_
 clear hs; intro w hs hC hw
 refine m_held hf rfl (fun w' hc => x_loadAgg ag99 (hf.eval rfl) (vs := slF (sdS l)) rfl hc) ?_; clear hf a; intro a hf
 refine m_held hf rfl (fun w' _ => x_move (hf.eval rfl) w') ?_; clear hf a; intro a hf
 refine m_held hf rfl (fun w' _ => x_move (hf.eval rfl) w') ?_; clear hf a; intro a hf
 refine m_held hf rfl (fun w' _ => x_bin (hf.eval rfl) (hf.eval rfl) (r_addi _ (by omega) (by omega)) w') ?_; clear hf a; intro a hf
 refine m_held hf rfl (fun w' _ => x_slice_lo sl22 (hf.eval rfl) (hf.eval rfl)  (by omega) (by omega) w') ?_; clear hf a; intro a hf
 replace hf := hf.now (k := 58) (v' := .slice (subA a1 c1 ((seAt l.length) + 512) 1) (l.drop ((seAt l.length) + 512)).length (c1 - ((seAt l.length) + 512))) rfl (by rw [List.length_drop]; congr 1 <;> omega)
 refine m_eff hf rfl (y_call (hf.eval rfl) (hf.evals rfl) Tryz.call94 ((rtail_spec _ _ _ (l.drop ((seAt l.length) + 512)) (hs.oldB (tl_rd hr1 hsa)) (by rw [List.length_drop]; omega)).mono ?_))
 rintro e w1 ⟨rfl, hk⟩
 replace hs := hs.ext hk
 refine ⟨_, rfl, ⟨cells_of hs .k0, ?_⟩⟩; clear hf a; intro a hf
 refine m_held hf rfl (fun w' _ => x_move (hf.eval rfl) w') ?_; clear hf a; intro a hf
 refine m_held hf rfl (fun w' _ => x_move (hf.eval rfl) w') ?_; clear hf a; intro a hf
 refine m_held hf rfl (fun w' _ => x_bin (hf.eval rfl) (hf.eval rfl) (r_subi _ (by omega) (by omega)) w') ?_; clear hf a; intro a hf
 refine m_held hf rfl (fun w' _ => x_bin (hf.eval rfl) (hf.eval rfl) (r_subi _ (by omega) (by omega)) w') ?_; clear hf a; intro a hf
 refine m_held hf rfl (fun w' _ => x_bin (hf.eval rfl) (hf.eval rfl) (r_eq _ _ _ _) w') ?_; clear hf a; intro a hf
 replace hs := hs.take (A := cb b2 99 (slF zSl)) (by repeat constructor)
 refine m_eff0 hf rfl (y_storeAgg (cs := slF (sdS l)) hs (n := 7) (by kernel_rfl) (hf.eval rfl) (hf.eval rfl) (by simp [Value.oneCell', slF]) rfl rfl .k0 ?_); clear hf hs a; intro w hs; refine ⟨cells_of hs .k1, ?_⟩; intro a hf
 refine m_held hf rfl (fun w' _ => x_assign (hf.eval rfl) w') ?_; clear hf a; intro a hf
 refine m_nil ?_
 refine then_n ?_
 refine wp_ret ?_
 refine r_2c hf Tryz.results63 rfl rfl hs ag99 rfl .k0 ?_
 have hyes : seOk l = decide ((zt (l.drop ((seAt l.length) + 512)) : Int) = (l.length : Int) - ((seAt l.length) : Int) - 512) := by unfold seOk; rw [decide_eq_true hn5, hdk, decide_eq_true (show (sdS l).2.2.1 ≤ 16777216 by omega), decide_eq_true (show (sdS l).2.2.2.1 ≤ 16777216 by omega), decide_eq_true (show filZ (sdS l).2.2.1 (sdS l).2.2.2.1 (sdS l).2.2.2.2.2.1 = (l.length : Int) by omega)]; simp only [Bool.true_and]
 rw [hyes]
 exact ⟨sdS l, rfl, fun _ => rfl, hs.kept⟩
end Go.Proofs.YtehakfbfjpolfaaGreatDoor
