/- Texts 16 of 17 that the law rests on: the small library, contracts of functions, printed by a program. -/
import Derived.Test.YtehakfbfjpolfaaGreatDoorProg
import Derived.Test.YtehakfbfjpolfaaGreatDoorDe1
import Derived.Test.YtehakfbfjpolfaaGreatDoorDe2
import Derived.Test.YtehakfbfjpolfaaGreatDoorDe3
import Derived.Test.YtehakfbfjpolfaaGreatDoorDe4
import Derived.Test.YtehakfbfjpolfaaGreatDoorDe5
import Derived.Test.YtehakfbfjpolfaaGreatDoorDe6
import Derived.Test.YtehakfbfjpolfaaGreatDoorDe7
import Derived.Test.YtehakfbfjpolfaaGreatDoorDe8
import Derived.Test.YtehakfbfjpolfaaGreatDoorDe9
import Derived.Test.YtehakfbfjpolfaaGreatDoorDe10
import Derived.Test.YtehakfbfjpolfaaGreatDoorDe11
import Derived.Test.YtehakfbfjpolfaaGreatDoorDe12
import Derived.Test.YtehakfbfjpolfaaGreatDoorDe13
import Derived.Test.YtehakfbfjpolfaaGreatDoorDe14
import Derived.Test.YtehakfbfjpolfaaGreatDoorDe15
set_option maxRecDepth 100000
set_option linter.all false
namespace Go.Proofs.YtehakfbfjpolfaaGreatDoor
open Go Vw
theorem rnum2_spec (σ : Sig) (w : World) (R : List Asrt) (ax : Option Addr) (cx : Nat) (l : List UInt8) (v : Int) (hv0 : 0 ≤ v) (hv1 : v ≤ 9223372036854775807) (hl : l.length ≤ 1099511627776) (hs : St σ w (slB 5 (.slice ax l.length cx) l :: R)) : Calls Tryz.prog 87 #[.slice ax l.length cx, .int .i64 v] w fun e w' => ∃ a2 c2, e = .returned (.slice a2 (l ++ leB 4 v.toNat).length c2) ∧ St σ w' (slB 5 (.slice a2 (l ++ leB 4 v.toNat).length c2) (l ++ leB 4 v.toNat) :: R) := by
 obtain ⟨V, rfl⟩ := Int.eq_ofNat_of_zero_le hv0
 rw [Int.toNat_natCast]
 refine c_enter (N := 19) Tryz.func87 rfl Tryz.ntmps87 (by simp) ?_
 intro a hf
 refine wp_seq ?_
 refine wp_region_lit ?_
 refine s_a hf rfl ?_; clear hf a; intro a hf
 refine s_nil ?_
 refine then_n ?_
 refine wp_seq ?_
 refine wp_seq ?_
 refine wp_region_lit ?_
 refine s_a hf rfl ?_; clear hf a; intro a hf
 refine s_nil ?_
 refine then_n ?_
 refine wp_block ?_
 refine c_loop (L0 := [(4, _)]) (fun M w m => ∃ (j : Nat) (v0 : Value), M = [(0, v0), (1, .int .i64 ((V / 256 ^ j : Nat) : Int)), (5, .int .i64 (j : Int))] ∧ 4 - j = m ∧ j ≤ 4 ∧ St σ w (slB 5 v0 (l ++ leB j V) :: R)) (M0 := [(0, .slice ax l.length cx), (1, .int .i64 (V : Int)), (5, .int .i64 0)]) (⟨0, _, by rw [Nat.pow_zero, Nat.div_one]; rfl, rfl, Nat.zero_le _, by simpa [leB] using hs⟩) (hf.sub ⟨rfl, rfl, rfl, rfl, trivial⟩) ?_
 clear hf hs a
 rintro M m a w ⟨j, v0, rfl, rfl, hj, hs⟩ hf
 refine wp_seq ?_
 refine wp_seq ?_
 refine wp_region_lit ?_
 refine s_m hf rfl ?_; clear hf a; intro a hf
 refine s_v hf (x_bin (hf.eval rfl) (hf.eval rfl) (r_lt _ _ _ _)) ?_; clear hf a; intro a hf
 refine s_nil ?_
 refine then_n ?_
 refine c_cond hf rfl (fun hi0 => ?_) (fun hi0 => ?_)
 ·simp only [zd1, zd2, zd3, zd4, zd5, zd6, zd7] at hi0
  have hVj : V / 256 ^ j ≤ V := Nat.div_le_self _ _
  have hv1 : V ≤ 9223372036854775807 := by omega
  refine wp_skip ?_
  refine then_n ?_
  refine wp_seq ?_
  refine wp_block ?_
  refine wp_seq ?_
  refine wp_region_lit ?_
  refine s_m hf rfl ?_; clear hf a; intro a hf
  refine s_m hf rfl ?_; clear hf a; intro a hf
  refine s_v hf (x_bin (hf.eval rfl) (hf.eval rfl) (r_remn _ _ (Int.natCast_nonneg _) (by decide))) ?_; clear hf a; intro a hf
  replace hf := hf.now (k := 12) (v' := .int .i64 ((V / 256 ^ j % 256 : Nat) : Int)) rfl (by congr 1)
  refine s_v hf (x_convr Tryz.underlying3 Tryz.underlying5 (hf.eval rfl) (by rw [u8_of .i64 rfl, Nat.mod_mod] : IntKind.u8.wrap ((V / 256 ^ j % 256 : Nat) : Int) = ((UInt8.ofNat (V / 256 ^ j % 256)).toNat : Int))) ?_; clear hf a; intro a hf
  replace hf := hf.now (k := 13) (v' := u8v (UInt8.ofNat (V / 256 ^ j % 256))) rfl (rfl)
  refine s_do hf rfl (y_lit (xs := [.tmp 13]) hs sl22 (hf.evals rfl) rfl (by simp [Value.cells, u8v]) (by decide) ?_); clear hf hs a; intro b2 w hs a hf
  refine s_do hf rfl (y_appendB (s := [UInt8.ofNat (V / 256 ^ j % 256)]) hs sl22 rfl (hf.eval rfl) (hf.eval rfl) .k1 (hs.rdB .k0 fun h hb => rdB_of_bb (T := 5) (l := [UInt8.ofNat (V / 256 ^ j % 256)]) hb (by simp) (by simp)) (by simp [leB_len]; omega) ?_); clear hf hs a; intro v2 w hs hv a hf
  replace hs := hs.lose .k1
  rw [List.append_assoc, ← leB_succ] at hs
  refine s_a hf rfl ?_; clear hf a; intro a hf
  refine s_nil ?_
  refine then_n ?_
  refine wp_region_lit ?_
  refine s_m hf rfl ?_; clear hf a; intro a hf
  refine s_v hf (x_bin (hf.eval rfl) (hf.eval rfl) (r_quon _ (Int.natCast_nonneg _) (by decide) (by omega))) ?_; clear hf a; intro a hf
  replace hf := hf.now (k := 17) (v' := .int .i64 ((V / 256 ^ (j + 1) : Nat) : Int)) rfl (by rw [Nat.pow_succ, ← Nat.div_div_eq_div_mul]; congr 1)
  refine s_a hf rfl ?_; clear hf a; intro a hf
  refine s_nil ?_
  refine blk_n ?_
  refine then_n ?_
  refine wp_region_lit ?_
  refine s_m hf rfl ?_; clear hf a; intro a hf
  refine s_v hf (x_bin (hf.eval rfl) (hf.eval rfl) (r_addi _ (by omega) (by omega))) ?_; clear hf a; intro a hf
  refine s_a hf rfl ?_; clear hf a; intro a hf
  refine s_nil ?_
  exact ⟨_, _, ⟨j + 1, _, rfl, rfl, by omega, hs⟩, by omega, hf.sub ⟨rfl, rfl, rfl, rfl, trivial⟩⟩
 simp only [zd1, zd2, zd3, zd4, zd5, zd6, zd7] at hi0
 refine wp_exit ?_
 refine then_x ?_
 refine then_x ?_
 refine blk_x ?_
 refine then_n ?_
 refine wp_seq ?_
 refine wp_region_lit ?_
 refine s_m hf rfl ?_; clear hf a; intro a hf
 refine s_a hf rfl ?_; clear hf a; intro a hf
 refine s_nil ?_
 refine then_n ?_
 refine wp_ret ?_
 refine r_1 hf Tryz.results87 rfl ?_
 obtain rfl : j = 4 := by omega
 obtain ⟨a2, c2, rfl, hc2⟩ := slB_shape hs
 exact ⟨_, _, rfl, hs⟩
def putO (at_ : Int) (d : List UInt8) : List COp := if d = [] then [syO] else [(2, at_, d), syO]
theorem putO_len (at_ : Int) (d : List UInt8) : (putO at_ d).length ≤ 2 := by unfold putO; split <;> simp
theorem putO_no {at_ : Int} {d : List UInt8} (h : d ≠ []) : putO at_ d = [(2, at_, d), syO] := if_neg h
def clmB (c : List UInt8) (seq size : Int) (ws : List Wr) : List UInt8 := secS (slU 2 seq c size ws) ++ List.replicate (filU c size ws - seaU c size ws - 512).toNat 0
theorem sec_ne (s : Sl) : secS s ≠ [] := fun h => by have := secS_len s; rw [h] at this; cases this
theorem clm_ne (c : List UInt8) (seq size : Int) (ws : List Wr) : clmB c seq size ws ≠ [] := fun h => sec_ne (slU 2 seq c size ws) (List.append_eq_nil_iff.1 h).1
theorem opsU_put (c : List UInt8) (seq size : Int) (ws : List Wr) : opsU c seq size ws = putO (seaU c size ws) (clmB c seq size ws) ++ (putO (bplU c size) (bodU c ws) ++ (putO (seaU c size ws) (secS (slU 3 seq c size ws)) ++ (wrsU ws ++ ([syO] ++ (putO (seaU c size ws) (secS (slU 4 seq c size ws)) ++ [(3, size, []), syO]))))) := by
  rw [putO_no (clm_ne c seq size ws), putO_no (sec_ne _), putO_no (sec_ne _)]
  unfold opsU opsA savU putO clmU armU clmB
  split <;> simp
theorem wrsU_dropC {ws : List Wr} {i : Nat} (h : i < ws.length) : wrsU (ws.drop i) = (2, ws[i].1, ws[i].2.2.2) :: wrsU (ws.drop (i + 1)) := by
  unfold wrsU; rw [List.drop_eq_getElem_cons h]; rfl
theorem wrsU_end (ws : List Wr) (x : List COp) : wrsU (ws.drop ws.length) ++ x = x := by unfold wrsU; rw [List.drop_length]; rfl
theorem filU_def (c : List UInt8) (size : Int) (ws : List Wr) : filU c size ws = filZ (c.length : Int) size ((bodU c ws).length : Int) := rfl
theorem seaU_def (c : List UInt8) (size : Int) (ws : List Wr) : filU c size ws / 512 * 512 - 512 = seaU c size ws := rfl
theorem bplU_def (c : List UInt8) (size : Int) : upZ (max (c.length : Int) size) = bplU c size := rfl
theorem bodU_def (c : List UInt8) (ws : List Wr) : bodyB c (savL (c.length : Int) ws) = bodU c ws := rfl
theorem rBody_spec (w0 : World) (a1 : Option Addr) (c1 : Nat) (c : List UInt8) (hr1 : RdB (hp w0) (.slice a1 c.length c1) c) (hcl : c.length ≤ 16777216) (as_ : Option Addr) (cs : Nat) (ss : List (Int × Int)) (hrs : RdS spF 2 (hp w0) (.slice as_ ss.length cs) ss) (hls : ss.length ≤ 1048576) (hss : spc (c.length : Int) 0 ss) : Calls Tryz.prog 50 #[.slice a1 c.length c1, .slice as_ ss.length cs] w0 fun e w' => ∃ a cc, e = .returned (.slice a (bodyB c ss).length cc) ∧ St ⟨w0, None_⟩ w' [slB 5 (.slice a (bodyB c ss).length cc) (bodyB c ss)] := by
 have hs := (St.start w0 None_).emp (slB_nil 5)
 have hcp := RdB.cap hr1
 have hle := lenS_le hss (by omega)
 have hdl := dat_len (Int.le_refl 0) hss
 have hhl := hd_len ss
 refine c_enter (N := 55) Tryz.func50 rfl Tryz.ntmps50 (by simp) ?_
 intro a hf
 refine wp_seq ?_
 refine wp_region_lit ?_
 refine s_a hf rfl ?_; clear hf a; intro a hf
 refine s_nil ?_
 refine then_n ?_
 refine wp_seq ?_
 refine wp_region_lit ?_
 refine s_a hf rfl ?_; clear hf a; intro a hf
 refine s_nil ?_
 refine then_n ?_
 refine wp_seq ?_
 refine wp_seq ?_
 refine wp_region_lit ?_
 refine s_a hf rfl ?_; clear hf a; intro a hf
 refine s_nil ?_
 refine then_n ?_
 refine wp_block ?_
 refine c_loop (L0 := [(0, _), (1, _), (4, _)]) (fun M w m => ∃ (i : Nat) (v : Value), M = [(5, v), (6, .int .i64 (i : Int))] ∧ ss.length - i = m ∧ i ≤ ss.length ∧ St ⟨w0, None_⟩ w [slB 5 v (((ss.take i).flatMap spH))]) (M0 := [(5, .slice none 0 0), (6, .int .i64 0)]) (⟨0, _, rfl, rfl, Nat.zero_le _, hs⟩) (hf.sub ⟨rfl, rfl, rfl, rfl, rfl, trivial⟩) ?_
 clear hf hs a
 rintro M m a w ⟨i, v, rfl, rfl, hi, hs⟩ hf
 refine wp_seq ?_
 refine wp_seq ?_
 refine wp_region_lit ?_
 refine s_m hf rfl ?_; clear hf a; intro a hf
 refine s_m hf rfl ?_; clear hf a; intro a hf
 refine s_v hf (x_len Tryz.underlying68 (hf.eval rfl)) ?_; clear hf a; intro a hf
 refine s_v hf (x_bin (hf.eval rfl) (hf.eval rfl) (r_lt _ _ _ _)) ?_; clear hf a; intro a hf
 refine s_nil ?_
 refine then_n ?_
 refine c_cond hf rfl (fun hi0 => ?_) (fun hi0 => ?_)
 ·simp only [zd1, zd2, zd3, zd4, zd5, zd6, zd7] at hi0
  have hlt : i < ss.length := by omega
  obtain ⟨as_, rfl⟩ := hrs.some (by omega)
  obtain ⟨k1, k2, k3, _⟩ := spc_get hss hlt
  have hli : ((ss.take i).flatMap spH).length = 8 * i := by rw [hd_len, List.length_take]; omega
  obtain ⟨av, cv, rfl⟩ := sl_shape hs
  refine wp_skip ?_
  refine then_n ?_
  refine wp_seq ?_
  refine wp_block ?_
  refine wp_seq ?_
  refine wp_region_lit ?_
  refine s_m hf rfl ?_; clear hf a; intro a hf
  refine s_m hf rfl ?_; clear hf a; intro a hf
  refine s_m hf rfl ?_; clear hf a; intro a hf
  refine s_v hf (x_indexAddr sl68 (hf.eval rfl) (hf.eval rfl) (by omega) (by omega)) ?_; clear hf a; intro a hf
  refine s_v hf (x_fieldAddrG fo119_0 (hf.eval rfl)) ?_; clear hf a; intro a hf
  refine s_r hf (x_loadF (k := 0) (i := i) (f := spF) (l := ss) (u := .int .i64 ss[i].1) sc3 (by intro _; rfl) (hs.old hrs) (hf.eval rfl) hlt rfl) ?_; clear hf a; intro a hf
  refine s_do hf rfl (y_call (hf.eval rfl) (hf.evals rfl) Tryz.call87 ((rnum2_spec _ _ _ av cv ((ss.take i).flatMap spH) ss[i].1 (by omega) (by omega) (by omega) hs).mono ?_))
  rintro e w1 ⟨a6, c6, rfl, hs⟩
  refine ⟨_, rfl, ?_⟩; clear hf a; intro a hf
  refine s_a hf rfl ?_; clear hf a; intro a hf
  refine s_nil ?_
  refine then_n ?_
  refine c_draw hs (fun _ => True) [.held, .held, .held, .held, .held, .read, .held, .held, .held, .held, .read, .held, .eff, .held] (by kernel_rfl) (by kernel_rfl) (fun _ _ _ => trivial) ?_
  clear hs; intro w hs hC hw
  refine m_held hf rfl (fun w' _ => x_move (hf.eval rfl) w') ?_; clear hf a; intro a hf
  refine m_held hf rfl (fun w' _ => x_move (hf.eval rfl) w') ?_; clear hf a; intro a hf
  refine m_held hf rfl (fun w' _ => x_move (hf.eval rfl) w') ?_; clear hf a; intro a hf
  refine m_held hf rfl (fun w' _ => x_indexAddr sl68 (hf.eval rfl) (hf.eval rfl) (by omega) (by omega) w') ?_; clear hf a; intro a hf
  refine m_held hf rfl (fun w' _ => x_fieldAddrG fo119_1 (hf.eval rfl) w') ?_; clear hf a; intro a hf
  refine m_read hf rfl (x_loadF (k := 1) (i := i) (f := spF) (l := ss) (u := .int .i64 ss[i].2) sc3 (by intro _; rfl) (hs.old hrs) (hf.eval rfl) hlt rfl) ?_; clear hf a; intro a hf
  refine m_held hf rfl (fun w' _ => x_move (hf.eval rfl) w') ?_; clear hf a; intro a hf
  refine m_held hf rfl (fun w' _ => x_move (hf.eval rfl) w') ?_; clear hf a; intro a hf
  refine m_held hf rfl (fun w' _ => x_indexAddr sl68 (hf.eval rfl) (hf.eval rfl) (by omega) (by omega) w') ?_; clear hf a; intro a hf
  refine m_held hf rfl (fun w' _ => x_fieldAddrG fo119_0 (hf.eval rfl) w') ?_; clear hf a; intro a hf
  refine m_read hf rfl (x_loadF (k := 0) (i := i) (f := spF) (l := ss) (u := .int .i64 ss[i].1) sc3 (by intro _; rfl) (hs.old hrs) (hf.eval rfl) hlt rfl) ?_; clear hf a; intro a hf
  refine m_held hf rfl (fun w' _ => x_bin (hf.eval rfl) (hf.eval rfl) (r_subi _ (by omega) (by omega)) w') ?_; clear hf a; intro a hf
  refine m_eff hf rfl (y_call (hf.eval rfl) (hf.evals rfl) Tryz.call87 ((rnum2_spec _ _ _ a6 c6 (((ss.take i).flatMap spH) ++ leB 4 ss[i].1.toNat) (ss[i].2 - ss[i].1) (by omega) (by omega) (by rw [List.length_append, leB_len]; omega) hs).mono ?_))
  rintro e w1 ⟨a7, c7, rfl, hs⟩
  refine ⟨_, rfl, ⟨trivial, ?_⟩⟩; clear hf a; intro a hf
  refine m_held hf rfl (fun w' _ => x_assign (hf.eval rfl) w') ?_; clear hf a; intro a hf
  refine m_nil ?_
  refine blk_n ?_
  refine then_n ?_
  refine wp_region_lit ?_
  refine s_m hf rfl ?_; clear hf a; intro a hf
  refine s_v hf (x_bin (hf.eval rfl) (hf.eval rfl) (r_addi _ (by omega) (by omega))) ?_; clear hf a; intro a hf
  refine s_a hf rfl ?_; clear hf a; intro a hf
  refine s_nil ?_
  exact ⟨_, _, ⟨i + 1, _, rfl, rfl, by omega, by rw [flat_succ hlt]; unfold spH at hs ⊢; rw [← List.append_assoc]; exact hs⟩, by omega, hf.sub ⟨rfl, rfl, rfl, rfl, rfl, trivial⟩⟩
 simp only [zd1, zd2, zd3, zd4, zd5, zd6, zd7] at hi0
 obtain rfl : i = ss.length := by omega
 rw [List.take_length] at hs
 refine wp_exit ?_
 refine then_x ?_
 refine then_x ?_
 refine blk_x ?_
 refine then_n ?_
 refine wp_seq ?_
 refine wp_seq ?_
 refine wp_region_lit ?_
 refine s_a hf rfl ?_; clear hf a; intro a hf
 refine s_nil ?_
 refine then_n ?_
 refine wp_block ?_
 refine c_loop (L0 := [(0, _), (1, _), (4, _), (6, _), (8, _), (9, _), (10, _), (11, _)]) (fun M w m => ∃ (i : Nat) (v : Value), M = [(5, v), (7, .int .i64 (i : Int))] ∧ ss.length - i = m ∧ i ≤ ss.length ∧ St ⟨w0, None_⟩ w [slB 5 v ((ss.flatMap spH ++ (ss.take i).flatMap (spD c)))]) (M0 := _) (⟨0, _, rfl, rfl, Nat.zero_le _, by rw [List.take_zero, List.flatMap_nil, List.append_nil]; exact hs⟩) (hf.sub ⟨rfl, rfl, rfl, rfl, rfl, rfl, rfl, rfl, rfl, rfl, trivial⟩) ?_
 clear hf hs a
 rintro M m a w ⟨i, v, rfl, rfl, hi, hs⟩ hf
 refine wp_seq ?_
 refine wp_seq ?_
 refine wp_region_lit ?_
 refine s_m hf rfl ?_; clear hf a; intro a hf
 refine s_m hf rfl ?_; clear hf a; intro a hf
 refine s_v hf (x_len Tryz.underlying68 (hf.eval rfl)) ?_; clear hf a; intro a hf
 refine s_v hf (x_bin (hf.eval rfl) (hf.eval rfl) (r_lt _ _ _ _)) ?_; clear hf a; intro a hf
 refine s_nil ?_
 refine then_n ?_
 refine c_cond hf rfl (fun hi1 => ?_) (fun hi1 => ?_)
 ·simp only [zd1, zd2, zd3, zd4, zd5, zd6, zd7] at hi1
  have hlt : i < ss.length := by omega
  obtain ⟨as_, rfl⟩ := hrs.some (by omega)
  obtain ⟨k1, k2, k3, _⟩ := spc_get hss hlt
  have hdi := dat_len (Int.le_refl 0) (spc_take i hss)
  have hls9 := lenS_succ hlt
  have hsl9 := spD_len (c := c) (s := ss[i]) (by omega) k2 k3
  have hmono : lenS (ss.take (i + 1)) ≤ lenS ss := lenS_take _ _
  refine wp_skip ?_
  refine then_n ?_
  refine wp_seq ?_
  refine wp_block ?_
  refine c_draw hs (fun _ => True) [.held, .held, .held, .held, .held, .held, .read, .held, .held, .held, .held, .read, .held, .eff, .held] (by kernel_rfl) (by kernel_rfl) (fun _ _ _ => trivial) ?_
  clear hs; intro w hs hC hw
  refine m_held hf rfl (fun w' _ => x_move (hf.eval rfl) w') ?_; clear hf a; intro a hf
  refine m_held hf rfl (fun w' _ => x_move (hf.eval rfl) w') ?_; clear hf a; intro a hf
  refine m_held hf rfl (fun w' _ => x_move (hf.eval rfl) w') ?_; clear hf a; intro a hf
  refine m_held hf rfl (fun w' _ => x_move (hf.eval rfl) w') ?_; clear hf a; intro a hf
  refine m_held hf rfl (fun w' _ => x_indexAddr sl68 (hf.eval rfl) (hf.eval rfl) (by omega) (by omega) w') ?_; clear hf a; intro a hf
  refine m_held hf rfl (fun w' _ => x_fieldAddrG fo119_0 (hf.eval rfl) w') ?_; clear hf a; intro a hf
  refine m_read hf rfl (x_loadF (k := 0) (i := i) (f := spF) (l := ss) (u := .int .i64 ss[i].1) sc3 (by intro _; rfl) (hs.old hrs) (hf.eval rfl) hlt rfl) ?_; clear hf a; intro a hf
  refine m_held hf rfl (fun w' _ => x_move (hf.eval rfl) w') ?_; clear hf a; intro a hf
  refine m_held hf rfl (fun w' _ => x_move (hf.eval rfl) w') ?_; clear hf a; intro a hf
  refine m_held hf rfl (fun w' _ => x_indexAddr sl68 (hf.eval rfl) (hf.eval rfl) (by omega) (by omega) w') ?_; clear hf a; intro a hf
  refine m_held hf rfl (fun w' _ => x_fieldAddrG fo119_1 (hf.eval rfl) w') ?_; clear hf a; intro a hf
  refine m_read hf rfl (x_loadF (k := 1) (i := i) (f := spF) (l := ss) (u := .int .i64 ss[i].2) sc3 (by intro _; rfl) (hs.old hrs) (hf.eval rfl) hlt rfl) ?_; clear hf a; intro a hf
  refine m_held hf rfl (fun w' _ => x_slice sl22 (hf.eval rfl) (hf.eval rfl) (hf.eval rfl)  (by omega) (by omega) (by omega) w') ?_; clear hf a; intro a hf
  replace hf := hf.now (k := 52) (v' := .slice (subA a1 c1 ss[i].1.toNat 1) (spD c ss[i]).length (c1 - ss[i].1.toNat)) rfl (by rw [hsl9]; exact slice_eq rfl (by omega) rfl)
  refine m_eff hf rfl (y_appendB (s := spD c ss[i]) hs sl22 rfl (hf.eval rfl) (hf.eval rfl) .k0 (by unfold spD; exact sub_rd (hs.oldB hr1) (by omega)) (by rw [List.length_append]; omega) ?_); clear hf hs a; intro v2 w hs hv; refine ⟨trivial, ?_⟩; intro a hf
  refine m_held hf rfl (fun w' _ => x_assign (hf.eval rfl) w') ?_; clear hf a; intro a hf
  refine m_nil ?_
  refine blk_n ?_
  refine then_n ?_
  refine wp_region_lit ?_
  refine s_m hf rfl ?_; clear hf a; intro a hf
  refine s_v hf (x_bin (hf.eval rfl) (hf.eval rfl) (r_addi _ (by omega) (by omega))) ?_; clear hf a; intro a hf
  refine s_a hf rfl ?_; clear hf a; intro a hf
  refine s_nil ?_
  exact ⟨_, _, ⟨i + 1, _, rfl, rfl, by omega, by rw [flat_succ hlt, ← List.append_assoc]; exact hs⟩, by omega, hf.sub ⟨rfl, rfl, rfl, rfl, rfl, rfl, rfl, rfl, rfl, rfl, trivial⟩⟩
 simp only [zd1, zd2, zd3, zd4, zd5, zd6, zd7] at hi1
 obtain rfl : i = ss.length := by omega
 rw [List.take_length] at hs
 refine wp_exit ?_
 refine then_x ?_
 refine then_x ?_
 refine blk_x ?_
 refine then_n ?_
 refine wp_seq ?_
 refine wp_region_lit ?_
 refine s_m hf rfl ?_; clear hf a; intro a hf
 refine s_a hf rfl ?_; clear hf a; intro a hf
 refine s_nil ?_
 refine then_n ?_
 refine wp_ret ?_
 refine r_1 hf Tryz.results50 rfl ?_
 obtain ⟨ga, gc, rfl⟩ := sl_shape hs
 exact ⟨ga, gc, rfl, hs⟩
attribute [local irreducible] Vw.sl Vw.lkV Vw.runS Vw.opsU Vw.aplR Vw.aplE Vw.updR Vw.filU Vw.seaU Vw.bplU Vw.bodU Vw.savL Vw.secS Vw.wrsU Vw.filZ Vw.upZ Vw.bodyB putO clmB
theorem rput_spec (w0 w : World) (R : List Asrt) (D : Nat) (s : DS) (at_ : Int) (ad : Option Addr) (cd : Nat) (data : List UInt8) (hr : Rdy ⟨w0, None_⟩ R (.slice ad data.length cd) data) (hdl : data.length ≤ 140737488351232) (hs : St ⟨w0, None_⟩ w (refA 88 152 5 3 D s :: R)) (ho : DOk s) (k : Nat) (hb : DB s k) (hk : k ≤ 33000000) : Calls Tryz.prog 55 #[.pointer (some ⟨D, 0, none⟩), .int .i64 at_, .slice ad data.length cd] w fun e w' => e = .returned (.int .i64 (runS s (putO at_ data)).1) ∧ St ⟨w0, None_⟩ w' (refA 88 152 5 3 D (runS s (putO at_ data)).2 :: R) := by
 refine c_enter (N := 20) Tryz.func55 rfl Tryz.ntmps55 (by simp) ?_
 intro a hf
 refine wp_seq ?_
 refine wp_region_lit ?_
 refine s_a hf rfl ?_; clear hf a; intro a hf
 refine s_nil ?_
 refine then_n ?_
 refine wp_seq ?_
 refine wp_seq ?_
 refine wp_region_lit ?_
 refine s_m hf rfl ?_; clear hf a; intro a hf
 refine s_v hf (x_len Tryz.underlying22 (hf.eval rfl)) ?_; clear hf a; intro a hf
 refine s_v hf (x_bin (hf.eval rfl) (hf.eval rfl) (r_gt _ _ _ _)) ?_; clear hf a; intro a hf
 refine s_nil ?_
 refine then_n ?_
 refine c_cond hf rfl (fun hi0 => ?_) (fun hi0 => ?_)
 ·first | simp only [zd1, zd2, zd3, zd4, ne_eq, Classical.not_not] at hi0 | skip
  have hp : putO at_ data = [(2, at_, data), syO] := putO_no (by rintro rfl; simp at hi0)
  refine wp_seq ?_
  refine wp_region_lit ?_
  refine s_m hf rfl ?_; clear hf a; intro a hf
  refine s_m hf rfl ?_; clear hf a; intro a hf
  refine s_m hf rfl ?_; clear hf a; intro a hf
  refine s_do hf rfl (y_call (hf.eval rfl) (hf.evals rfl) Tryz.call57 ((rWrite_spec _ _ _ D s hs at_ ad cd data hr hdl ho (by have := hb.calls; omega) (by have := hb.pcs; omega) (by have := hb.sizes; omega)).mono ?_))
  rintro e w1 ⟨rfl, hs⟩
  rw [← co_wr] at hs ⊢
  obtain ⟨t, ht⟩ : ∃ t, t = (coS s (2, at_, data)).2 := ⟨_, rfl⟩
  have hto := coS_ok ho (2, at_, data)
  have htb := coS_b ho hb (2, at_, data)
  rw [← ht] at hs hto htb
  refine ⟨_, rfl, ?_⟩; clear hf a; intro a hf
  refine s_a hf rfl ?_; clear hf a; intro a hf
  refine s_nil ?_
  refine then_n ?_
  refine wp_seq ?_
  refine wp_region_lit ?_
  refine s_m hf rfl ?_; clear hf a; intro a hf
  refine s_v hf (x_bin (hf.eval rfl) (hf.eval rfl) (r_ne _ _ _ _)) ?_; clear hf a; intro a hf
  refine s_nil ?_
  refine then_n ?_
  refine c_cond hf rfl (fun hi1 => ?_) (fun hi1 => ?_)
  ·first | simp only [zd1, zd2, zd3, zd4, ne_eq, Classical.not_not] at hi1 | skip
   refine wp_seq ?_
   refine wp_region_lit ?_
   refine s_m hf rfl ?_; clear hf a; intro a hf
   refine s_a hf rfl ?_; clear hf a; intro a hf
   refine s_nil ?_
   refine then_n ?_
   refine wp_ret ?_
   refine then_r ?_
   refine r_1 hf Tryz.results55 rfl ?_
   rw [hp, runS2_bad hi1, ← ht]
   exact ⟨rfl, hs⟩
  first | simp only [zd1, zd2, zd3, zd4, ne_eq, Classical.not_not] at hi1 | skip
  refine wp_skip ?_
  refine then_n ?_
  refine wp_seq ?_
  refine wp_region_lit ?_
  refine s_m hf rfl ?_; clear hf a; intro a hf
  refine s_do hf rfl (y_call (hf.eval rfl) (hf.evals rfl) Tryz.call12 ((rSync_spec _ _ _ D t hs hto (by have := htb.calls; omega) (by have := htb.pcs; omega) (by have := htb.sizes; omega)).mono ?_))
  rintro e w1 ⟨rfl, hs⟩
  rw [← co_sy] at hs ⊢
  refine ⟨_, rfl, ?_⟩; clear hf a; intro a hf
  refine s_a hf rfl ?_; clear hf a; intro a hf
  refine s_nil ?_
  refine then_n ?_
  refine wp_ret ?_
  refine r_1 hf Tryz.results55 rfl ?_
  first | (rw [hp, runS2_ok hi1, ← ht]; exact ⟨rfl, hs⟩) | (rw [hp, runS_one, ← ht]; exact ⟨rfl, hs⟩)
 first | simp only [zd1, zd2, zd3, zd4, ne_eq, Classical.not_not] at hi0 | skip
 have hp : putO at_ data = [syO] := by unfold putO; rw [if_pos (List.eq_nil_of_length_eq_zero (by omega))]
 obtain ⟨t, ht⟩ : ∃ t, t = s := ⟨_, rfl⟩
 have hto := ho
 have htb := hb.up (Nat.le_succ k)
 rw [← ht] at hs hto htb
 refine wp_skip ?_
 refine then_n ?_
 refine wp_seq ?_
 refine wp_region_lit ?_
 refine s_m hf rfl ?_; clear hf a; intro a hf
 refine s_do hf rfl (y_call (hf.eval rfl) (hf.evals rfl) Tryz.call12 ((rSync_spec _ _ _ D t hs hto (by have := htb.calls; omega) (by have := htb.pcs; omega) (by have := htb.sizes; omega)).mono ?_))
 rintro e w1 ⟨rfl, hs⟩
 rw [← co_sy] at hs ⊢
 refine ⟨_, rfl, ?_⟩; clear hf a; intro a hf
 refine s_a hf rfl ?_; clear hf a; intro a hf
 refine s_nil ?_
 refine then_n ?_
 refine wp_ret ?_
 refine r_1 hf Tryz.results55 rfl ?_
 first | (rw [hp, runS2_ok hi1, ← ht]; exact ⟨rfl, hs⟩) | (rw [hp, runS_one, ← ht]; exact ⟨rfl, hs⟩)
theorem rrefused_spec (w0 w : World) (R : List Asrt) (D : Nat) (s : DS) (hs : St ⟨w0, None_⟩ w (refA 88 152 5 3 D s :: R)) (ho : DOk s) (seq size : Int) (aw : Option Addr) (cw : Nat) (ws : List Wr) (hrw : RdS wF 2 (hp w0) (.slice aw ws.length cw) ws) (hlw : ws.length ≤ 1048576) (hgd : ∀ z ∈ ws, RdB (hp w0) (.slice z.2.1 z.2.2.2.length z.2.2.1) z.2.2.2 ∧ z.2.2.2.length ≤ 1048576) : Calls Tryz.prog 49 #[.pointer (some ⟨D, 0, none⟩), .int .i64 seq, .int .i64 size, .slice aw ws.length cw] w fun e w' => e = .returned (.int .i64 (refE s seq size ws)) ∧ St ⟨w0, None_⟩ w' (refA 88 152 5 3 D s :: R) := by
 have hnw := ho.now
 have hrm := ho.room1
 refine c_enter (N := 63) Tryz.func49 rfl Tryz.ntmps49 (by simp) ?_
 intro a hf
 refine wp_seq ?_
 refine wp_region_lit ?_
 refine s_a hf rfl ?_; clear hf a; intro a hf
 refine s_nil ?_
 refine then_n ?_
 refine wp_seq ?_
 refine wp_seq ?_
 refine wp_region_lit ?_
 refine s_m hf rfl ?_; clear hf a; intro a hf
 refine s_v hf (x_eqNil Tryz.underlying28 (hf.eval rfl) (hf.eval rfl)) ?_; clear hf a; intro a hf
 replace hf := hf.now (k := 16) (v' := .bool false) rfl rfl
 refine s_m hf rfl ?_; clear hf a; intro a hf
 refine s_do hf (wanted_of hf rfl rfl rfl) (.value (x_move (hf.eval rfl) _) ?_); clear hf a; intro a hf
 refine s_do hf (wanted_of hf rfl rfl rfl) (y_call (hf.eval rfl) (hf.evals rfl) Tryz.call84 ((inField_spec _ _).mono ?_))
 rintro e w1 ⟨rfl, hw9⟩
 rw [hw9]
 clear hw9 w1
 refine ⟨_, rfl, ?_⟩; clear hf a; intro a hf
 refine s_do hf (wanted_of hf rfl rfl rfl) (.value (x_not (hf.eval rfl) _) ?_); clear hf a; intro a hf
 refine s_v hf (x_pick_f (hf.eval rfl) (hf.eval rfl)) ?_; clear hf a; intro a hf
 refine s_m hf rfl ?_; clear hf a; intro a hf
 refine s_bool hf (k := 22) rfl (fun hg1_7 hf' => ?_) (fun hg1_7 hf' => ?_)
 ·clear hf
  have hf := hf'
  clear hf'
  simp only [Bool.not_not, Bool.not_eq_true', Bool.not_eq_false'] at hg1_7
  refine s_pass hf rfl rfl ?_; clear hf a; intro a hf
  refine s_pass hf rfl rfl ?_; clear hf a; intro a hf
  refine s_pass hf rfl rfl ?_; clear hf a; intro a hf
  refine s_v hf (x_pick_t (hf.eval rfl) (hf.eval rfl)) ?_; clear hf a; intro a hf
  refine s_nil ?_
  refine then_n ?_
  refine c_cond_t hf rfl rfl ?_
  refine wp_seq ?_
  refine wp_region_lit ?_
  refine s_a hf rfl ?_; clear hf a; intro a hf
  refine s_nil ?_
  refine then_n ?_
  refine wp_ret ?_
  refine then_r ?_
  refine r_1 hf Tryz.results49 rfl ?_
  have hE : refE s seq size ws = 1 := by unfold refE; rw [if_pos (by first | (unfold inF at hg1_7; have h9 := of_decide_eq_false hg1_7; omega) | omega)]
  rw [hE]
  replace hs := hs.take (A := refA 88 152 5 3 D s) (by repeat constructor)
  first | exact ⟨rfl, hs⟩ | exact ⟨rfl, St.cut [_] [_] hs⟩ | exact ⟨rfl, St.cut [_] [_, _] hs⟩
 clear hf
 have hf := hf'
 clear hf'
 simp only [Bool.not_not, Bool.not_eq_true', Bool.not_eq_false'] at hg1_7
 refine s_do hf (wanted_of hf rfl rfl rfl) (.value (x_move (hf.eval rfl) _) ?_); clear hf a; intro a hf
 refine s_do hf (wanted_of hf rfl rfl rfl) (y_call (hf.eval rfl) (hf.evals rfl) Tryz.call85 ((inSize_spec _ _).mono ?_))
 rintro e w1 ⟨rfl, hw9⟩
 rw [hw9]
 clear hw9 w1
 refine ⟨_, rfl, ?_⟩; clear hf a; intro a hf
 refine s_do hf (wanted_of hf rfl rfl rfl) (.value (x_not (hf.eval rfl) _) ?_); clear hf a; intro a hf
 refine s_v hf (x_pick_f (hf.eval rfl) (hf.eval rfl)) ?_; clear hf a; intro a hf
 refine s_nil ?_
 refine then_n ?_
 refine c_cond hf rfl (fun hi0 => ?_) (fun hi0 => ?_)
 ·first | simp only [zd1, zd2, zd3, zd4, ne_eq, Classical.not_not] at hi0 | skip
  refine wp_seq ?_
  refine wp_region_lit ?_
  refine s_a hf rfl ?_; clear hf a; intro a hf
  refine s_nil ?_
  refine then_n ?_
  refine wp_ret ?_
  refine then_r ?_
  refine r_1 hf Tryz.results49 rfl ?_
  have hE : refE s seq size ws = 1 := by unfold refE; rw [if_pos (by first | (unfold inF at hg1_7; have h9 := of_decide_eq_false hg1_7; omega) | omega)]
  rw [hE]
  replace hs := hs.take (A := refA 88 152 5 3 D s) (by repeat constructor)
  first | exact ⟨rfl, hs⟩ | exact ⟨rfl, St.cut [_] [_] hs⟩ | exact ⟨rfl, St.cut [_] [_, _] hs⟩
 first | simp only [zd1, zd2, zd3, zd4, ne_eq, Classical.not_not] at hi0 | skip
 have hq1 : ¬ (seq < 0 ∨ 4294967295 < seq ∨ ¬ (0 ≤ size ∧ size ≤ 16777216)) := by unfold inF at hg1_7; have h9 := of_decide_eq_true hg1_7; omega
 refine wp_skip ?_
 refine then_n ?_
 refine wp_seq ?_
 refine wp_region_lit ?_
 refine s_m hf rfl ?_; clear hf a; intro a hf
 refine s_do hf rfl (y_call (hf.eval rfl) (hf.evals rfl) Tryz.call61 ((rAlive_spec _ _ _ D s hs).mono ?_))
 rintro e w1 ⟨rfl, hw9⟩
 rw [hw9]
 clear hw9 w1
 refine ⟨_, rfl, ?_⟩; clear hf a; intro a hf
 refine s_a hf rfl ?_; clear hf a; intro a hf
 refine s_nil ?_
 refine then_n ?_
 refine wp_seq ?_
 refine wp_seq ?_
 refine wp_region_lit ?_
 refine s_m hf rfl ?_; clear hf a; intro a hf
 refine s_v hf (x_not (hf.eval rfl)) ?_; clear hf a; intro a hf
 refine s_nil ?_
 refine then_n ?_
 refine c_cond hf rfl (fun hi1 => ?_) (fun hi1 => ?_)
 ·simp only [Bool.not_not, Bool.not_eq_true', Bool.not_eq_false'] at hi1
  refine wp_seq ?_
  refine wp_region_lit ?_
  refine s_a hf rfl ?_; clear hf a; intro a hf
  refine s_nil ?_
  refine then_n ?_
  refine wp_ret ?_
  refine then_r ?_
  refine r_1 hf Tryz.results49 rfl ?_
  have hE : refE s seq size ws = 12 := by unfold refE; rw [if_neg hq1, if_pos hi1]
  rw [hE]
  replace hs := hs.take (A := refA 88 152 5 3 D s) (by repeat constructor)
  first | exact ⟨rfl, hs⟩ | exact ⟨rfl, St.cut [_] [_] hs⟩ | exact ⟨rfl, St.cut [_] [_, _] hs⟩
 simp only [Bool.not_not, Bool.not_eq_true', Bool.not_eq_false'] at hi1
 refine wp_skip ?_
 refine then_n ?_
 refine wp_seq ?_
 refine wp_region_lit ?_
 refine s_m hf rfl ?_; clear hf a; intro a hf
 refine s_do hf rfl (y_call (hf.eval rfl) (hf.evals rfl) Tryz.call22 ((rImage_spec _ _ _ D s hs (by omega)).mono ?_))
 rintro e w1 ⟨ai, ci, rfl, hs⟩
 refine ⟨_, rfl, ?_⟩; clear hf a; intro a hf
 refine s_a hf rfl ?_; clear hf a; intro a hf
 refine s_nil ?_
 refine then_n ?_
 refine wp_seq ?_
 refine wp_region_lit ?_
 refine s_m hf rfl ?_; clear hf a; intro a hf
 refine s_m hf rfl ?_; clear hf a; intro a hf
 refine s_m hf rfl ?_; clear hf a; intro a hf
 refine s_do hf rfl (y_call (hf.eval rfl) (hf.evals rfl) Tryz.call69 ((rapply_spec _ ai ci s.now (hs.rdB .k0 fun h => slB_rd) (by omega) size aw cw ws (hs.old hrw) hlw (fun z hz => ⟨hs.oldB (hgd z hz).1, (hgd z hz).2⟩) (aplR s.now size ws) rfl (aplE s.now.length size ws) rfl).mono ?_))
 rintro e w1 ⟨ga, gc, rfl, hj⟩
 replace hs := hs.join hj
 simp only [List.cons_append, List.nil_append] at hs
 refine ⟨_, rfl, ?_⟩; clear hf a; intro a hf
 refine s_m hf rfl ?_; clear hf a; intro a hf
 refine s_v hf (x_extract (hf.eval rfl) rfl) ?_; clear hf a; intro a hf
 refine s_v hf (x_extract (hf.eval rfl) rfl) ?_; clear hf a; intro a hf
 refine s_a hf rfl ?_; clear hf a; intro a hf
 refine s_a hf rfl ?_; clear hf a; intro a hf
 refine s_nil ?_
 refine then_n ?_
 refine wp_seq ?_
 refine wp_seq ?_
 refine wp_region_lit ?_
 refine s_m hf rfl ?_; clear hf a; intro a hf
 refine s_v hf (x_bin (hf.eval rfl) (hf.eval rfl) (r_ne _ _ _ _)) ?_; clear hf a; intro a hf
 refine s_nil ?_
 refine then_n ?_
 refine c_cond hf rfl (fun hi2 => ?_) (fun hi2 => ?_)
 ·first | simp only [zd1, zd2, zd3, zd4, ne_eq, Classical.not_not] at hi2 | skip
  refine wp_seq ?_
  refine wp_region_lit ?_
  refine s_m hf rfl ?_; clear hf a; intro a hf
  refine s_a hf rfl ?_; clear hf a; intro a hf
  refine s_nil ?_
  refine then_n ?_
  refine wp_ret ?_
  refine then_r ?_
  refine r_1 hf Tryz.results49 rfl ?_
  have hE : refE s seq size ws = aplE s.now.length size ws := by unfold refE; rw [if_neg hq1, if_neg (by rw [hi1]; simp), if_pos hi2]
  rw [hE]
  replace hs := hs.take (A := refA 88 152 5 3 D s) (by repeat constructor)
  first | exact ⟨rfl, hs⟩ | exact ⟨rfl, St.cut [_] [_] hs⟩ | exact ⟨rfl, St.cut [_] [_, _] hs⟩
 first | simp only [zd1, zd2, zd3, zd4, ne_eq, Classical.not_not] at hi2 | skip
 obtain ⟨u1, u2, u3⟩ := aplE_0 hi2
 have hVl := aplR_len s.now size ws
 refine wp_skip ?_
 refine then_n ?_
 refine wp_seq ?_
 refine wp_seq ?_
 refine wp_region_lit ?_
 refine s_m hf rfl ?_; clear hf a; intro a hf
 refine s_do hf rfl (y_call (hf.eval rfl) (hf.evals rfl) Tryz.call35 ((rquiet_spec _ _ _ s.now (hs.rdB (A := slB 5 (.slice ai s.now.length ci) s.now) (by repeat constructor) fun h => slB_rd) (by omega)).mono ?_))
 rintro e w1 ⟨rfl, hk⟩
 replace hs := hs.ext hk
 refine ⟨_, rfl, ?_⟩; clear hf a; intro a hf
 refine s_v hf (x_not (hf.eval rfl)) ?_; clear hf a; intro a hf
 refine s_m hf rfl ?_; clear hf a; intro a hf
 refine s_bool hf (k := 46) rfl (fun hg10_3 hf' => ?_) (fun hg10_3 hf' => ?_)
 ·clear hf
  have hf := hf'
  clear hf'
  first | simp only [zd1, zd2, zd3, zd4, ne_eq, Classical.not_not] at hg10_3 | skip
  refine s_pass hf rfl rfl ?_; clear hf a; intro a hf
  refine s_pass hf rfl rfl ?_; clear hf a; intro a hf
  refine s_pass hf rfl rfl ?_; clear hf a; intro a hf
  refine s_v hf (x_pick_t (hf.eval rfl) (hf.eval rfl)) ?_; clear hf a; intro a hf
  refine s_nil ?_
  refine then_n ?_
  refine c_cond_t hf rfl rfl ?_
  refine wp_seq ?_
  refine wp_region_lit ?_
  refine s_a hf rfl ?_; clear hf a; intro a hf
  refine s_nil ?_
  refine then_n ?_
  refine wp_ret ?_
  refine then_r ?_
  refine r_1 hf Tryz.results49 rfl ?_
  have hE : refE s seq size ws = 141 := by unfold refE; rw [if_neg hq1, if_neg (by rw [hi1]; simp), if_neg (fun h => h hi2), if_pos (by first | exact .inl hg10_3 | exact .inr hi3)]
  rw [hE]
  replace hs := hs.take (A := refA 88 152 5 3 D s) (by repeat constructor)
  first | exact ⟨rfl, hs⟩ | exact ⟨rfl, St.cut [_] [_] hs⟩ | exact ⟨rfl, St.cut [_] [_, _] hs⟩
 clear hf
 have hf := hf'
 clear hf'
 first | simp only [zd1, zd2, zd3, zd4, ne_eq, Classical.not_not] at hg10_3 | skip
 refine s_do hf (wanted_of hf rfl rfl rfl) (.value (x_move (hf.eval rfl) _) ?_); clear hf a; intro a hf
 refine s_do hf (wanted_of hf rfl rfl rfl) (y_call (hf.eval rfl) (hf.evals rfl) Tryz.call35 ((rquiet_spec _ _ _ (aplR s.now size ws) (hs.rdB (A := slB 5 (.slice ga (aplR s.now size ws).length gc) (aplR s.now size ws)) (by repeat constructor) fun h => slB_rd) (by omega)).mono ?_))
 rintro e w1 ⟨rfl, hk⟩
 replace hs := hs.ext hk
 refine ⟨_, rfl, ?_⟩; clear hf a; intro a hf
 refine s_do hf (wanted_of hf rfl rfl rfl) (.value (x_not (hf.eval rfl) _) ?_); clear hf a; intro a hf
 refine s_v hf (x_pick_f (hf.eval rfl) (hf.eval rfl)) ?_; clear hf a; intro a hf
 refine s_nil ?_
 refine then_n ?_
 refine c_cond hf rfl (fun hi3 => ?_) (fun hi3 => ?_)
 ·first | simp only [zd1, zd2, zd3, zd4, ne_eq, Classical.not_not] at hi3 | skip
  refine wp_seq ?_
  refine wp_region_lit ?_
  refine s_a hf rfl ?_; clear hf a; intro a hf
  refine s_nil ?_
  refine then_n ?_
  refine wp_ret ?_
  refine then_r ?_
  refine r_1 hf Tryz.results49 rfl ?_
  have hE : refE s seq size ws = 141 := by unfold refE; rw [if_neg hq1, if_neg (by rw [hi1]; simp), if_neg (fun h => h hi2), if_pos (by first | exact .inl hg10_3 | exact .inr hi3)]
  rw [hE]
  replace hs := hs.take (A := refA 88 152 5 3 D s) (by repeat constructor)
  first | exact ⟨rfl, hs⟩ | exact ⟨rfl, St.cut [_] [_] hs⟩ | exact ⟨rfl, St.cut [_] [_, _] hs⟩
 first | simp only [zd1, zd2, zd3, zd4, ne_eq, Classical.not_not] at hi3 | skip
 refine wp_skip ?_
 refine then_n ?_
 refine wp_seq ?_
 refine wp_region_lit ?_
 refine s_m hf rfl ?_; clear hf a; intro a hf
 refine s_v hf (x_len Tryz.underlying22 (hf.eval rfl)) ?_; clear hf a; intro a hf
 refine s_m hf rfl ?_; clear hf a; intro a hf
 refine s_m hf rfl ?_; clear hf a; intro a hf
 refine s_do hf rfl (y_call (hf.eval rfl) (hf.evals rfl) Tryz.call70 ((rneed_all _ s.now.length size aw cw ws (hs.old hrw) hlw).mono ?_))
 rintro e w1 ⟨rfl, hk9⟩
 replace hs := hs.ext hk9
 rw [if_pos hi2, fil_fil u3]
 refine ⟨_, rfl, ?_⟩; clear hf a; intro a hf
 refine s_m hf rfl ?_; clear hf a; intro a hf
 refine s_v hf (x_extract (hf.eval rfl) rfl) ?_; clear hf a; intro a hf
 refine s_v hf (x_extract (hf.eval rfl) rfl) ?_; clear hf a; intro a hf
 refine s_a hf rfl ?_; clear hf a; intro a hf
 refine s_a hf rfl ?_; clear hf a; intro a hf
 refine s_nil ?_
 refine then_n ?_
 refine wp_seq ?_
 refine wp_seq ?_
 refine wp_region_lit ?_
 refine s_m hf rfl ?_; clear hf a; intro a hf
 refine s_m hf rfl ?_; clear hf a; intro a hf
 replace hs := hs.take (A := refA 88 152 5 3 D s) (by repeat constructor)
 refine s_do hf rfl (y_call (hf.eval rfl) (hf.evals rfl) Tryz.call86 ((rCapacity_spec _ _ _ D s hs).mono ?_))
 rintro e w1 ⟨rfl, hw9⟩
 rw [hw9]
 clear hw9 w1
 refine ⟨_, rfl, ?_⟩; clear hf a; intro a hf
 refine s_v hf (x_bin (hf.eval rfl) (hf.eval rfl) (r_gt _ _ _ _)) ?_; clear hf a; intro a hf
 refine s_nil ?_
 refine then_n ?_
 refine c_cond hf rfl (fun hi4 => ?_) (fun hi4 => ?_)
 ·first | simp only [zd1, zd2, zd3, zd4, ne_eq, Classical.not_not] at hi4 | skip
  refine wp_seq ?_
  refine wp_region_lit ?_
  refine s_a hf rfl ?_; clear hf a; intro a hf
  refine s_nil ?_
  refine then_n ?_
  refine wp_ret ?_
  refine then_r ?_
  refine r_1 hf Tryz.results49 rfl ?_
  have hE : refE s seq size ws = 142 := by unfold refE; rw [if_neg hq1, if_neg (by rw [hi1]; simp), if_neg (fun h => h hi2), if_neg (by rintro (h | h); exact h hg10_3; exact h hi3), if_pos (by omega)]
  rw [hE]
  replace hs := hs.take (A := refA 88 152 5 3 D s) (by repeat constructor)
  first | exact ⟨rfl, hs⟩ | exact ⟨rfl, St.cut [_] [_] hs⟩ | exact ⟨rfl, St.cut [_] [_, _] hs⟩
 first | simp only [zd1, zd2, zd3, zd4, ne_eq, Classical.not_not] at hi4 | skip
 refine wp_skip ?_
 refine then_n ?_
 refine wp_seq ?_
 refine wp_region_lit ?_
 refine s_a hf rfl ?_; clear hf a; intro a hf
 refine s_nil ?_
 refine then_n ?_
 refine wp_ret ?_
 refine r_1 hf Tryz.results49 rfl ?_
 have hE : refE s seq size ws = 0 := by unfold refE; rw [if_neg hq1, if_neg (by rw [hi1]; simp), if_neg (fun h => h hi2), if_neg (by rintro (h | h); exact h hg10_3; exact h hi3), if_neg (by omega)]
 rw [hE]
 replace hs := hs.take (A := refA 88 152 5 3 D s) (by repeat constructor)
 first | exact ⟨rfl, hs⟩ | exact ⟨rfl, St.cut [_] [_] hs⟩ | exact ⟨rfl, St.cut [_] [_, _] hs⟩
theorem rupdate_spec (w0 w : World) (R : List Asrt) (D : Nat) (s : DS) (hs : St ⟨w0, None_⟩ w (refA 88 152 5 3 D s :: R)) (ho : DOk s) (k : Nat) (hb : DB s k) (hk : k ≤ 28000000) (seq size : Int) (aw : Option Addr) (cw : Nat) (ws : List Wr) (hrw : RdS wF 2 (hp w0) (.slice aw ws.length cw) ws) (hlw : ws.length ≤ 1048576) (hgd : ∀ z ∈ ws, RdB (hp w0) (.slice z.2.1 z.2.2.2.length z.2.2.1) z.2.2.2 ∧ z.2.2.2.length ≤ 1048576) : Calls Tryz.prog 14 #[.pointer (some ⟨D, 0, none⟩), .int .i64 seq, .int .i64 size, .slice aw ws.length cw] w fun e w' => e = .returned (.int .i64 (updR s seq size ws).1) ∧ St ⟨w0, None_⟩ w' (refA 88 152 5 3 D (updR s seq size ws).2 :: R) := by
 have hnw := ho.now
 have hrm := ho.room1
 refine c_enter (N := 146) Tryz.func14 rfl Tryz.ntmps14 (by simp) ?_
 intro a hf
 refine wp_seq ?_
 refine wp_region_lit ?_
 refine s_a hf rfl ?_; clear hf a; intro a hf
 refine s_nil ?_
 refine then_n ?_
 refine wp_seq ?_
 refine wp_region_lit ?_
 refine s_m hf rfl ?_; clear hf a; intro a hf
 refine s_m hf rfl ?_; clear hf a; intro a hf
 refine s_m hf rfl ?_; clear hf a; intro a hf
 refine s_m hf rfl ?_; clear hf a; intro a hf
 refine s_do hf rfl (y_call (hf.eval rfl) (hf.evals rfl) Tryz.call49 ((rrefused_spec w0 _ _ D s hs ho seq size aw cw ws hrw hlw hgd).mono ?_))
 rintro e w1 ⟨rfl, hs⟩
 refine ⟨_, rfl, ?_⟩; clear hf a; intro a hf
 refine s_a hf rfl ?_; clear hf a; intro a hf
 refine s_nil ?_
 refine then_n ?_
 refine wp_seq ?_
 refine wp_seq ?_
 refine wp_region_lit ?_
 refine s_m hf rfl ?_; clear hf a; intro a hf
 refine s_v hf (x_bin (hf.eval rfl) (hf.eval rfl) (r_ne _ _ _ _)) ?_; clear hf a; intro a hf
 refine s_nil ?_
 refine then_n ?_
 refine c_cond hf rfl (fun hi0 => ?_) (fun hi0 => ?_)
 ·first | simp only [zd1, zd2, zd3, zd4, ne_eq, Classical.not_not] at hi0 | skip
  refine wp_seq ?_
  refine wp_region_lit ?_
  refine s_m hf rfl ?_; clear hf a; intro a hf
  refine s_a hf rfl ?_; clear hf a; intro a hf
  refine s_nil ?_
  refine then_n ?_
  refine wp_ret ?_
  refine then_r ?_
  refine r_1 hf Tryz.results14 rfl ?_
  have e9 : updR s seq size ws = (refE s seq size ws, s) := by unfold updR; rw [if_pos hi0]
  rw [e9]
  exact ⟨rfl, hs⟩
 first | simp only [zd1, zd2, zd3, zd4, ne_eq, Classical.not_not] at hi0 | skip
 obtain ⟨hUo, hro, q1, q4, q5, hd⟩ := ref_facts hi0 (by omega)
 obtain ⟨F, bp, kg, g⟩ := geo hUo
 have g1 := g.fil
 have g2 := g.sea
 have g3 := g.bpl
 have g4 := g.b1
 have g5 := g.b2
 have g6 := g.s1
 obtain ⟨u1, u2, u3⟩ := aplE_0 q1
 have hup : updR s seq size ws = runS s (opsU s.now seq size ws) := by unfold updR; rw [if_neg (by simp [hi0])]
 rw [opsU_put] at hup
 have hok : ∀ z ∈ ws, 0 ≤ z.1 ∧ z.1 + wL z ≤ 16777216 := fun z hz => by have h8 := rgt_all size ws 0 (Int.le_refl _) u3 z hz; omega
 have hsv := savL_len (s.now.length : Int) ws
 have hse0 : 0 ≤ (seaU s.now size ws) := by rw [g2]; exact Int.natCast_nonneg _
 refine wp_skip ?_
 refine then_n ?_
 refine wp_seq ?_
 refine wp_region_lit ?_
 refine s_m hf rfl ?_; clear hf a; intro a hf
 refine s_do hf rfl (y_call (hf.eval rfl) (hf.evals rfl) Tryz.call22 ((rImage_spec _ _ _ D s hs (by omega)).mono ?_))
 rintro e w1 ⟨ai, ci, rfl, hs⟩
 refine ⟨_, rfl, ?_⟩; clear hf a; intro a hf
 refine s_a hf rfl ?_; clear hf a; intro a hf
 refine s_nil ?_
 refine then_n ?_
 refine wp_seq ?_
 refine wp_region_lit ?_
 refine s_m hf rfl ?_; clear hf a; intro a hf
 refine s_v hf (x_len Tryz.underlying22 (hf.eval rfl)) ?_; clear hf a; intro a hf
 refine s_m hf rfl ?_; clear hf a; intro a hf
 refine s_do hf rfl (y_call (hf.eval rfl) (hf.evals rfl) Tryz.call32 ((spans_spec _ (s.now.length : Int) (by omega) (by omega) aw cw ws (hs.old hrw) hlw hok).mono ?_))
 rintro e w1 ⟨vs, rfl, hj⟩
 replace hs := hs.join hj
 simp only [List.cons_append, List.nil_append] at hs
 obtain ⟨avs, cvs, rfl⟩ := sl_shape hs
 refine ⟨_, rfl, ?_⟩; clear hf a; intro a hf
 refine s_a hf rfl ?_; clear hf a; intro a hf
 refine s_nil ?_
 refine then_n ?_
 refine wp_seq ?_
 refine wp_region_lit ?_
 refine s_m hf rfl ?_; clear hf a; intro a hf
 refine s_m hf rfl ?_; clear hf a; intro a hf
 refine s_do hf rfl (y_call (hf.eval rfl) (hf.evals rfl) Tryz.call50 ((rBody_spec _ ai ci s.now (hs.rdB (A := slB 5 (.slice ai s.now.length ci) s.now) (by repeat constructor) fun h => slB_rd) (by omega) avs cvs (savL (s.now.length : Int) ws) (hs.rd .k0 fun h hh => sl_rd hh) (by omega) (sav_spc u3)).mono ?_))
 rintro e w1 ⟨gb, gcb, rfl, hj⟩
 replace hs := hs.join hj
 simp only [List.cons_append, List.nil_append] at hs
 rw [bodU_def] at hs ⊢
 have hbl : (bodU s.now ws).length ≤ 33554432 := by omega
 refine ⟨_, rfl, ?_⟩; clear hf a; intro a hf
 refine s_a hf rfl ?_; clear hf a; intro a hf
 refine s_nil ?_
 refine then_n ?_
 refine wp_seq ?_
 refine wp_region_lit ?_
 refine s_m hf rfl ?_; clear hf a; intro a hf
 refine s_v hf (x_len Tryz.underlying22 (hf.eval rfl)) ?_; clear hf a; intro a hf
 refine s_m hf rfl ?_; clear hf a; intro a hf
 refine s_m hf rfl ?_; clear hf a; intro a hf
 refine s_v hf (x_len Tryz.underlying22 (hf.eval rfl)) ?_; clear hf a; intro a hf
 refine s_do hf rfl (y_call (hf.eval rfl) (hf.evals rfl) Tryz.call51 ((file_spec _ (s.now.length : Int) size ((bodU s.now ws).length : Int) (by omega) (by omega) (by omega) (by omega) (by omega) (by omega)).mono ?_))
 rintro e w1 ⟨rfl, hk9⟩
 replace hs := hs.ext hk9
 rw [← filU_def]
 refine ⟨_, rfl, ?_⟩; clear hf a; intro a hf
 refine s_a hf rfl ?_; clear hf a; intro a hf
 refine s_nil ?_
 refine then_n ?_
 refine wp_seq ?_
 refine wp_region_lit ?_
 refine s_m hf rfl ?_; clear hf a; intro a hf
 refine s_m hf rfl ?_; clear hf a; intro a hf
 refine s_v hf (x_len Tryz.underlying22 (hf.eval rfl)) ?_; clear hf a; intro a hf
 refine s_m hf rfl ?_; clear hf a; intro a hf
 refine s_m hf rfl ?_; clear hf a; intro a hf
 refine s_v hf (x_len Tryz.underlying68 (hf.eval rfl)) ?_; clear hf a; intro a hf
 refine s_m hf rfl ?_; clear hf a; intro a hf
 refine s_v hf (x_len Tryz.underlying22 (hf.eval rfl)) ?_; clear hf a; intro a hf
 refine s_m hf rfl ?_; clear hf a; intro a hf
 refine s_do hf rfl (y_call (hf.eval rfl) (hf.evals rfl) Tryz.call52 ((refSum_spec _ _ _ (bodU s.now ws) (hs.rdB (A := slB 5 (.slice gb (bodU s.now ws).length gcb) (bodU s.now ws)) (by repeat constructor) fun h => slB_rd) (by omega)).mono ?_))
 rintro e w1 ⟨rfl, hk⟩
 replace hs := hs.ext hk
 refine ⟨_, rfl, ?_⟩; clear hf a; intro a hf
 refine s_r hf (x_build (v := .agg (slF (slU 2 seq s.now size ws)).toArray) (hf.parts rfl) (fun w => by kernel_rfl) _) ?_; clear hf a; intro a hf
 refine s_do hf rfl (y_alloc hs Tryz.zeroValue99 ?_); clear hf hs a; intro b14 w hs a hf
 change St _ _ (cb b14 99 (slF (0, 0, 0, 0, 0, 0, 0)) :: _) at hs
 refine s_do0 hf rfl (y_storeAgg (cs := slF (slU 2 seq s.now size ws)) hs (n := 7) (by kernel_rfl) (hf.eval rfl) (hf.eval rfl) (by simp [Value.oneCell', slF]) rfl rfl .k0 ?_); clear hf hs a; intro w hs a hf
 refine s_nil ?_
 refine then_n ?_
 refine wp_seq ?_
 refine wp_region_lit ?_
 refine s_r hf (x_loadBlk hs ag99 (hf.eval rfl) rfl (by repeat constructor)) ?_; clear hf a; intro a hf
 refine s_do hf rfl (y_call (hf.eval rfl) (hf.evals rfl) Tryz.call53 ((rencode_spec _ (slU 2 seq s.now size ws) (crcU_lt0 _)).mono ?_))
 rintro e w1 ⟨e1, ce1, rfl, hj⟩
 replace hs := hs.join hj
 simp only [List.cons_append, List.nil_append] at hs
 obtain ⟨ec1, ec2⟩ := enc_ok (slU_ok hUo (st := 2) (by omega) (by omega))
 rw [ec2] at hs ⊢
 refine ⟨_, rfl, ?_⟩; clear hf a; intro a hf
 refine s_m hf rfl ?_; clear hf a; intro a hf
 refine s_v hf (x_extract (hf.eval rfl) rfl) ?_; clear hf a; intro a hf
 refine s_v hf (x_extract (hf.eval rfl) rfl) ?_; clear hf a; intro a hf
 refine s_a hf rfl ?_; clear hf a; intro a hf
 refine s_a hf rfl ?_; clear hf a; intro a hf
 refine s_nil ?_
 refine then_n ?_
 refine wp_seq ?_
 refine wp_block ?_
 rw [secS_len] at hs
 obtain ⟨N0, hN0⟩ : ∃ N0, N0 = ((filU s.now size ws) - (seaU s.now size ws) - 512).toNat := ⟨_, rfl⟩
 replace hs := hs.take (A := cb b14 99 (slF (slU 2 seq s.now size ws))) (by repeat constructor)
 replace hs := hs.take (A := slB 5 (.slice gb (bodU s.now ws).length gcb) (bodU s.now ws)) (by repeat constructor)
 replace hs := hs.take (A := slB 5 (.slice e1 512 ce1) (secS (slU 2 seq s.now size ws))) (by repeat constructor)
 replace hs := hs.take (A := refA 88 152 5 3 D s) (by repeat constructor)
 replace hs := St.cut [_, _, _, _] [_, _] hs
 replace hf := hf.now (k := 15) (v' := .slice e1 (512 + 0) ce1) rfl (by rw [secS_len]; rfl)
 refine c_loop (L0 := [(0, _), (2, _), (3, _), (8, _), (9, _), (10, _), (12, _), (13, _), (14, _)]) (fun M w m => ∃ (j : Nat) (af : Option Addr) (cf : Nat), M = [(15, .slice af (512 + j) cf)] ∧ N0 - j = m ∧ j ≤ N0 ∧ St ⟨w0, None_⟩ w (refA 88 152 5 3 D s :: slB 5 (.slice af (512 + j) cf) (secS (slU 2 seq s.now size ws) ++ List.replicate j 0) :: slB 5 (.slice gb (bodU s.now ws).length gcb) (bodU s.now ws) :: cb b14 99 (slF (slU 2 seq s.now size ws)) :: R)) (M0 := _) (⟨0, e1, ce1, rfl, rfl, Nat.zero_le _, by rw [List.replicate_zero, List.append_nil]; exact hs⟩) (hf.sub ⟨rfl, rfl, rfl, rfl, rfl, rfl, rfl, rfl, rfl, rfl, trivial⟩) ?_
 clear hf hs a
 rintro M m a w ⟨j, af, cf, rfl, rfl, hj9, hs⟩ hf
 refine wp_seq ?_
 refine wp_seq ?_
 refine wp_region_lit ?_
 refine s_m hf rfl ?_; clear hf a; intro a hf
 refine s_do hf rfl (y_call (hf.eval rfl) (hf.evals rfl) Tryz.call54 ((seal_spec _ (filU s.now size ws) (by omega) (by omega)).mono ?_))
 rintro e w1 ⟨rfl, hw9⟩
 rw [hw9]
 clear hw9 w1
 rw [seaU_def]
 refine ⟨_, rfl, ?_⟩; clear hf a; intro a hf
 refine s_m hf rfl ?_; clear hf a; intro a hf
 refine s_v hf (x_len Tryz.underlying22 (hf.eval rfl)) ?_; clear hf a; intro a hf
 refine s_v hf (x_bin (hf.eval rfl) (hf.eval rfl) (r_addi _ (by omega) (by omega))) ?_; clear hf a; intro a hf
 refine s_m hf rfl ?_; clear hf a; intro a hf
 refine s_v hf (x_bin (hf.eval rfl) (hf.eval rfl) (r_lt _ _ _ _)) ?_; clear hf a; intro a hf
 refine s_nil ?_
 refine then_n ?_
 refine c_cond hf rfl (fun hi1 => ?_) (fun hi1 => ?_)
 ·first | simp only [zd1, zd2, zd3, zd4, ne_eq, Classical.not_not] at hi1 | skip
  refine wp_skip ?_
  refine then_n ?_
  refine wp_block ?_
  refine wp_region_lit ?_
  refine s_m hf rfl ?_; clear hf a; intro a hf
  refine s_do hf rfl (y_lit (xs := [.const (.int .u8 0)]) hs sl22 (hf.evals rfl) rfl (by simp [Value.cells]) (by decide) ?_); clear hf hs a; intro b2 w hs a hf
  refine s_do hf rfl (y_appendB (s := [0]) hs sl22 rfl (hf.eval rfl) (hf.eval rfl) .k2 (hs.rdB .k0 fun h hb => rdB_of_bb (T := 5) (l := [0]) hb (by simp) (by simp)) (by rw [List.length_append, secS_len, List.length_replicate]; simp; omega) ?_); clear hf hs a; intro v2 w hs hv a hf
  skip
  rw [List.append_assoc, ← List.replicate_succ'] at hs
  obtain ⟨a2, c2, rfl, hc2⟩ := slB_shape (hs.take (A := slB 5 v2 (secS (slU 2 seq s.now size ws) ++ List.replicate (j + 1) 0)) (by repeat constructor))
  rw [show (secS (slU 2 seq s.now size ws) ++ List.replicate (j + 1) (0 : UInt8)).length = 512 + (j + 1) by rw [List.length_append, secS_len, List.length_replicate]] at *
  refine s_a hf rfl ?_; clear hf a; intro a hf
  refine s_nil ?_
  refine blk_n ?_
  replace hs := hs.take (A := slB 5 (.slice a2 (512 + (j + 1)) c2) (secS (slU 2 seq s.now size ws) ++ List.replicate (j + 1) 0)) (by repeat constructor)
  replace hs := hs.take (A := refA 88 152 5 3 D s) (by repeat constructor)
  exact ⟨_, _, ⟨j + 1, a2, c2, rfl, rfl, by omega, St.cut [_, _] [_] hs⟩, by omega, hf.sub ⟨rfl, rfl, rfl, rfl, rfl, rfl, rfl, rfl, rfl, rfl, trivial⟩⟩
 first | simp only [zd1, zd2, zd3, zd4, ne_eq, Classical.not_not] at hi1 | skip
 obtain rfl : j = N0 := by omega
 have hcl9 : (clmB s.now seq size ws).length = 512 + j := by unfold clmB; rw [List.length_append, secS_len, List.length_replicate, ← hN0]
 have hce9 : secS (slU 2 seq s.now size ws) ++ List.replicate j 0 = (clmB s.now seq size ws) := by unfold clmB; rw [← hN0]
 rw [hce9, ← hcl9] at hs
 replace hf := hf.now (k := 15) (v' := .slice af (clmB s.now seq size ws).length cf) rfl (by rw [hcl9])
 have hso := ho
 have hsb := hb
 refine wp_exit ?_
 refine then_x ?_
 refine then_x ?_
 refine blk_x ?_
 refine then_n ?_
 refine wp_seq ?_
 refine wp_region_lit ?_
 refine s_m hf rfl ?_; clear hf a; intro a hf
 refine s_m hf rfl ?_; clear hf a; intro a hf
 refine s_do hf rfl (y_call (hf.eval rfl) (hf.evals rfl) Tryz.call54 ((seal_spec _ (filU s.now size ws) (by omega) (by omega)).mono ?_))
 rintro e w1 ⟨rfl, hw9⟩
 rw [hw9]
 clear hw9 w1
 rw [seaU_def]
 refine ⟨_, rfl, ?_⟩; clear hf a; intro a hf
 refine s_m hf rfl ?_; clear hf a; intro a hf
 replace hs := hs.take (A := refA 88 152 5 3 D s) (by repeat constructor)
 have hln := putO_len (seaU s.now size ws) (clmB s.now seq size ws)
 have hl1 : ([syO] : List COp).length = 1 := rfl
 refine s_do hf rfl (y_call (hf.eval rfl) (hf.evals rfl) Tryz.call55 ((rput_spec w0 _ _ D s (seaU s.now size ws) af cf (clmB s.now seq size ws) (Rdy.own (by repeat constructor)) (by omega) hs hso _ hsb (by omega)).mono ?_))
 rintro e w1 ⟨rfl, hs⟩
 obtain ⟨t1, ht1⟩ : ∃ x, x = (runS s (putO (seaU s.now size ws) (clmB s.now seq size ws))).2 := ⟨_, rfl⟩
 have ht1o := runS_ok (putO (seaU s.now size ws) (clmB s.now seq size ws)) hso
 have ht1b := runS_b (putO (seaU s.now size ws) (clmB s.now seq size ws)) hso hsb
 rw [← ht1] at hs ht1o ht1b
 refine ⟨_, rfl, ?_⟩; clear hf a; intro a hf
 refine s_a hf rfl ?_; clear hf a; intro a hf
 refine s_nil ?_
 refine then_n ?_
 refine wp_seq ?_
 refine wp_seq ?_
 refine wp_region_lit ?_
 refine s_m hf rfl ?_; clear hf a; intro a hf
 refine s_v hf (x_bin (hf.eval rfl) (hf.eval rfl) (r_ne _ _ _ _)) ?_; clear hf a; intro a hf
 refine s_nil ?_
 refine then_n ?_
 refine c_cond hf rfl (fun hi2 => ?_) (fun hi2 => ?_)
 ·first | simp only [zd1, zd2, zd3, zd4, ne_eq, Classical.not_not] at hi2 | skip
  refine wp_seq ?_
  refine wp_region_lit ?_
  refine s_m hf rfl ?_; clear hf a; intro a hf
  refine s_a hf rfl ?_; clear hf a; intro a hf
  refine s_nil ?_
  refine then_n ?_
  refine wp_ret ?_
  refine then_r ?_
  refine r_1 hf Tryz.results14 rfl ?_
  rw [hup, runS_stop hi2, ← ht1]
  replace hs := hs.take (A := refA 88 152 5 3 D t1) (by repeat constructor)
  first | exact ⟨rfl, St.cut [_] [] hs⟩ | exact ⟨rfl, St.cut [_] [_] hs⟩ | exact ⟨rfl, St.cut [_] [_, _] hs⟩ | exact ⟨rfl, St.cut [_] [_, _, _] hs⟩ | exact ⟨rfl, St.cut [_] [_, _, _, _] hs⟩ | exact ⟨rfl, St.cut [_] [_, _, _, _, _] hs⟩
 first | simp only [zd1, zd2, zd3, zd4, ne_eq, Classical.not_not] at hi2 | skip
 rw [runS_go hi2, ← ht1] at hup
 refine wp_skip ?_
 refine then_n ?_
 refine wp_seq ?_
 refine wp_region_lit ?_
 refine s_m hf rfl ?_; clear hf a; intro a hf
 refine s_m hf rfl ?_; clear hf a; intro a hf
 refine s_v hf (x_len Tryz.underlying22 (hf.eval rfl)) ?_; clear hf a; intro a hf
 refine s_m hf rfl ?_; clear hf a; intro a hf
 refine s_do hf rfl (y_call (hf.eval rfl) (hf.evals rfl) Tryz.call56 ((body_spec _ (s.now.length : Int) size (by omega) (by omega) (by omega) (by omega)).mono ?_))
 rintro e w1 ⟨rfl, hk9⟩
 replace hs := hs.ext hk9
 rw [bplU_def]
 refine ⟨_, rfl, ?_⟩; clear hf a; intro a hf
 refine s_m hf rfl ?_; clear hf a; intro a hf
 replace hs := hs.take (A := refA 88 152 5 3 D t1) (by repeat constructor)
 have hln := putO_len (bplU s.now size) (bodU s.now ws)
 have hl1 : ([syO] : List COp).length = 1 := rfl
 refine s_do hf rfl (y_call (hf.eval rfl) (hf.evals rfl) Tryz.call55 ((rput_spec w0 _ _ D t1 (bplU s.now size) gb gcb (bodU s.now ws) (Rdy.own (by repeat constructor)) (by omega) hs ht1o _ ht1b (by omega)).mono ?_))
 rintro e w1 ⟨rfl, hs⟩
 obtain ⟨t2, ht2⟩ : ∃ x, x = (runS t1 (putO (bplU s.now size) (bodU s.now ws))).2 := ⟨_, rfl⟩
 have ht2o := runS_ok (putO (bplU s.now size) (bodU s.now ws)) ht1o
 have ht2b := runS_b (putO (bplU s.now size) (bodU s.now ws)) ht1o ht1b
 rw [← ht2] at hs ht2o ht2b
 refine ⟨_, rfl, ?_⟩; clear hf a; intro a hf
 refine s_a hf rfl ?_; clear hf a; intro a hf
 refine s_nil ?_
 refine then_n ?_
 refine wp_seq ?_
 refine wp_seq ?_
 refine wp_region_lit ?_
 refine s_m hf rfl ?_; clear hf a; intro a hf
 refine s_v hf (x_bin (hf.eval rfl) (hf.eval rfl) (r_ne _ _ _ _)) ?_; clear hf a; intro a hf
 refine s_nil ?_
 refine then_n ?_
 refine c_cond hf rfl (fun hi3 => ?_) (fun hi3 => ?_)
 ·first | simp only [zd1, zd2, zd3, zd4, ne_eq, Classical.not_not] at hi3 | skip
  refine wp_seq ?_
  refine wp_region_lit ?_
  refine s_m hf rfl ?_; clear hf a; intro a hf
  refine s_a hf rfl ?_; clear hf a; intro a hf
  refine s_nil ?_
  refine then_n ?_
  refine wp_ret ?_
  refine then_r ?_
  refine r_1 hf Tryz.results14 rfl ?_
  rw [hup, runS_stop hi3, ← ht2]
  replace hs := hs.take (A := refA 88 152 5 3 D t2) (by repeat constructor)
  first | exact ⟨rfl, St.cut [_] [] hs⟩ | exact ⟨rfl, St.cut [_] [_] hs⟩ | exact ⟨rfl, St.cut [_] [_, _] hs⟩ | exact ⟨rfl, St.cut [_] [_, _, _] hs⟩ | exact ⟨rfl, St.cut [_] [_, _, _, _] hs⟩ | exact ⟨rfl, St.cut [_] [_, _, _, _, _] hs⟩
 first | simp only [zd1, zd2, zd3, zd4, ne_eq, Classical.not_not] at hi3 | skip
 rw [runS_go hi3, ← ht2] at hup
 refine wp_skip ?_
 refine then_n ?_
 refine wp_seq ?_
 refine wp_region_lit ?_
 refine s_v hf (x_fieldAddr fo99_0 (hf.eval rfl)) ?_; clear hf a; intro a hf
 replace hs := hs.take (A := cb b14 99 (slF (slU 2 seq s.now size ws))) (by repeat constructor)
 refine s_do0 hf rfl (y_store hs sc3 (hf.eval rfl) (hf.eval rfl) rfl (by repeat constructor) (by simp [slF]) ?_); clear hf hs a; intro w hs a hf
 replace hs : St _ _ (cb b14 99 (slF (slU 3 seq s.now size ws)) :: _) := hs
 refine s_nil ?_
 refine then_n ?_
 refine wp_seq ?_
 refine wp_region_lit ?_
 refine s_r hf (x_loadBlk hs ag99 (hf.eval rfl) rfl (by repeat constructor)) ?_; clear hf a; intro a hf
 refine s_do hf rfl (y_call (hf.eval rfl) (hf.evals rfl) Tryz.call53 ((rencode_spec _ (slU 3 seq s.now size ws) (crcU_lt0 _)).mono ?_))
 rintro e w1 ⟨e3, ce3, rfl, hj⟩
 replace hs := hs.join hj
 simp only [List.cons_append, List.nil_append] at hs
 obtain ⟨ec1, ec2⟩ := enc_ok (slU_ok hUo (st := 3) (by omega) (by omega))
 rw [ec2] at hs ⊢
 refine ⟨_, rfl, ?_⟩; clear hf a; intro a hf
 refine s_m hf rfl ?_; clear hf a; intro a hf
 refine s_v hf (x_extract (hf.eval rfl) rfl) ?_; clear hf a; intro a hf
 refine s_v hf (x_extract (hf.eval rfl) rfl) ?_; clear hf a; intro a hf
 refine s_a hf rfl ?_; clear hf a; intro a hf
 refine s_a hf rfl ?_; clear hf a; intro a hf
 refine s_nil ?_
 refine then_n ?_
 refine wp_seq ?_
 refine wp_region_lit ?_
 refine s_m hf rfl ?_; clear hf a; intro a hf
 refine s_m hf rfl ?_; clear hf a; intro a hf
 refine s_do hf rfl (y_call (hf.eval rfl) (hf.evals rfl) Tryz.call54 ((seal_spec _ (filU s.now size ws) (by omega) (by omega)).mono ?_))
 rintro e w1 ⟨rfl, hw9⟩
 rw [hw9]
 clear hw9 w1
 rw [seaU_def]
 refine ⟨_, rfl, ?_⟩; clear hf a; intro a hf
 refine s_m hf rfl ?_; clear hf a; intro a hf
 replace hs := hs.take (A := refA 88 152 5 3 D t2) (by repeat constructor)
 have hln := putO_len (seaU s.now size ws) (secS (slU 3 seq s.now size ws))
 have hl1 : ([syO] : List COp).length = 1 := rfl
 refine s_do hf rfl (y_call (hf.eval rfl) (hf.evals rfl) Tryz.call55 ((rput_spec w0 _ _ D t2 (seaU s.now size ws) e3 ce3 (secS (slU 3 seq s.now size ws)) (Rdy.own (by repeat constructor)) (by rw [secS_len]; decide) hs ht2o _ ht2b (by omega)).mono ?_))
 rintro e w1 ⟨rfl, hs⟩
 obtain ⟨t3, ht3⟩ : ∃ x, x = (runS t2 (putO (seaU s.now size ws) (secS (slU 3 seq s.now size ws)))).2 := ⟨_, rfl⟩
 have ht3o := runS_ok (putO (seaU s.now size ws) (secS (slU 3 seq s.now size ws))) ht2o
 have ht3b := runS_b (putO (seaU s.now size ws) (secS (slU 3 seq s.now size ws))) ht2o ht2b
 rw [← ht3] at hs ht3o ht3b
 refine ⟨_, rfl, ?_⟩; clear hf a; intro a hf
 refine s_a hf rfl ?_; clear hf a; intro a hf
 refine s_nil ?_
 refine then_n ?_
 refine wp_seq ?_
 refine wp_seq ?_
 refine wp_region_lit ?_
 refine s_m hf rfl ?_; clear hf a; intro a hf
 refine s_v hf (x_bin (hf.eval rfl) (hf.eval rfl) (r_ne _ _ _ _)) ?_; clear hf a; intro a hf
 refine s_nil ?_
 refine then_n ?_
 refine c_cond hf rfl (fun hi4 => ?_) (fun hi4 => ?_)
 ·first | simp only [zd1, zd2, zd3, zd4, ne_eq, Classical.not_not] at hi4 | skip
  refine wp_seq ?_
  refine wp_region_lit ?_
  refine s_m hf rfl ?_; clear hf a; intro a hf
  refine s_a hf rfl ?_; clear hf a; intro a hf
  refine s_nil ?_
  refine then_n ?_
  refine wp_ret ?_
  refine then_r ?_
  refine r_1 hf Tryz.results14 rfl ?_
  rw [hup, runS_stop hi4, ← ht3]
  replace hs := hs.take (A := refA 88 152 5 3 D t3) (by repeat constructor)
  first | exact ⟨rfl, St.cut [_] [] hs⟩ | exact ⟨rfl, St.cut [_] [_] hs⟩ | exact ⟨rfl, St.cut [_] [_, _] hs⟩ | exact ⟨rfl, St.cut [_] [_, _, _] hs⟩ | exact ⟨rfl, St.cut [_] [_, _, _, _] hs⟩ | exact ⟨rfl, St.cut [_] [_, _, _, _, _] hs⟩
 first | simp only [zd1, zd2, zd3, zd4, ne_eq, Classical.not_not] at hi4 | skip
 rw [runS_go hi4, ← ht3] at hup
 refine wp_skip ?_
 refine then_n ?_
 refine wp_seq ?_
 refine wp_seq ?_
 refine wp_region_lit ?_
 refine s_a hf rfl ?_; clear hf a; intro a hf
 refine s_nil ?_
 refine then_n ?_
 refine wp_block ?_
 replace hs := hs.take (A := cb b14 99 (slF (slU 3 seq s.now size ws))) (by repeat constructor)
 replace hs := hs.take (A := refA 88 152 5 3 D t3) (by repeat constructor)
 first | (replace hs : St ⟨w0, None_⟩ _ (refA 88 152 5 3 D t3 :: cb b14 99 (slF (slU 3 seq s.now size ws)) :: R) := St.cut [_, _] [] hs) | (replace hs : St ⟨w0, None_⟩ _ (refA 88 152 5 3 D t3 :: cb b14 99 (slF (slU 3 seq s.now size ws)) :: R) := St.cut [_, _] [_] hs) | (replace hs : St ⟨w0, None_⟩ _ (refA 88 152 5 3 D t3 :: cb b14 99 (slF (slU 3 seq s.now size ws)) :: R) := St.cut [_, _] [_, _] hs) | (replace hs : St ⟨w0, None_⟩ _ (refA 88 152 5 3 D t3 :: cb b14 99 (slF (slU 3 seq s.now size ws)) :: R) := St.cut [_, _] [_, _, _] hs) | (replace hs : St ⟨w0, None_⟩ _ (refA 88 152 5 3 D t3 :: cb b14 99 (slF (slU 3 seq s.now size ws)) :: R) := St.cut [_, _] [_, _, _, _] hs) | (replace hs : St ⟨w0, None_⟩ _ (refA 88 152 5 3 D t3 :: cb b14 99 (slF (slU 3 seq s.now size ws)) :: R) := St.cut [_, _] [_, _, _, _, _] hs)
 refine c_loop (L0 := [(0, _), (2, _), (3, _), (10, _), (12, _), (13, _), (14, _), (15, _), (17, _), (61, _), (62, _), (63, _), (64, _), (65, _), (66, _), (67, _), (71, _), (72, _), (73, _), (74, _), (75, _), (76, _), (77, _), (79, _), (80, _), (81, _), (82, _), (83, _), (84, _), (85, _), (86, _), (87, _), (89, _), (90, _), (91, _), (92, _), (93, _), (94, _), (95, _), (96, _), (97, _), (98, _), (99, _), (100, _), (101, _)]) (fun M w m => ∃ (i : Nat) (t : DS), M = [(19, .int .i64 (i : Int))] ∧ ws.length - i = m ∧ i ≤ ws.length ∧ updR s seq size ws = runS t (wrsU (ws.drop i) ++ ([syO] ++ (putO (seaU s.now size ws) (secS (slU 4 seq s.now size ws)) ++ [(3, size, []), syO]))) ∧ DOk t ∧ DB t (k + 6 + i) ∧ St ⟨w0, None_⟩ w (refA 88 152 5 3 D t :: cb b14 99 (slF (slU 3 seq s.now size ws)) :: R)) (M0 := [(19, .int .i64 0)]) (⟨0, t3, rfl, rfl, Nat.zero_le _, hup, ht3o, ht3b.up (by have h1 := putO_len (seaU s.now size ws) (clmB s.now seq size ws); have h2 := putO_len (bplU s.now size) (bodU s.now ws); omega), hs⟩) (hf.sub ⟨rfl, rfl, rfl, rfl, rfl, rfl, rfl, rfl, rfl, rfl, rfl, rfl, rfl, rfl, rfl, rfl, rfl, rfl, rfl, rfl, rfl, rfl, rfl, rfl, rfl, rfl, rfl, rfl, rfl, rfl, rfl, rfl, rfl, rfl, rfl, rfl, rfl, rfl, rfl, rfl, rfl, rfl, rfl, rfl, rfl, rfl, trivial⟩) ?_
 clear hf hs a
 rintro M m a w ⟨i, t, rfl, rfl, hi, hup, hto, htb, hs⟩ hf
 refine wp_seq ?_
 refine wp_seq ?_
 refine wp_region_lit ?_
 refine s_m hf rfl ?_; clear hf a; intro a hf
 refine s_m hf rfl ?_; clear hf a; intro a hf
 refine s_v hf (x_len Tryz.underlying23 (hf.eval rfl)) ?_; clear hf a; intro a hf
 refine s_v hf (x_bin (hf.eval rfl) (hf.eval rfl) (r_lt _ _ _ _)) ?_; clear hf a; intro a hf
 refine s_nil ?_
 refine then_n ?_
 refine c_cond hf rfl (fun hi5 => ?_) (fun hi5 => ?_)
 ·first | simp only [zd1, zd2, zd3, zd4, ne_eq, Classical.not_not] at hi5 | skip
  have hlt : i < ws.length := by omega
  obtain ⟨aw, rfl⟩ := hrw.some (by omega)
  have hgi := hgd _ (List.getElem_mem hlt)
  rw [wrsU_dropC hlt, List.cons_append, runS_cons] at hup
  refine wp_skip ?_
  refine then_n ?_
  refine wp_seq ?_
  refine wp_block ?_
  refine wp_seq ?_
  refine c_draw hs (fun _ => True) [.held, .held, .held, .held, .held, .read, .held, .held, .held, .held, .read, .eff, .held] (by kernel_rfl) (by kernel_rfl) (fun _ _ _ => trivial) ?_
  clear hs; intro w hs hC hw
  refine m_held hf rfl (fun w' _ => x_move (hf.eval rfl) w') ?_; clear hf a; intro a hf
  refine m_held hf rfl (fun w' _ => x_move (hf.eval rfl) w') ?_; clear hf a; intro a hf
  refine m_held hf rfl (fun w' _ => x_move (hf.eval rfl) w') ?_; clear hf a; intro a hf
  refine m_held hf rfl (fun w' _ => x_indexAddr sl23 (hf.eval rfl) (hf.eval rfl) (by omega) (by omega) w') ?_; clear hf a; intro a hf
  refine m_held hf rfl (fun w' _ => x_fieldAddrG fo54_0 (hf.eval rfl) w') ?_; clear hf a; intro a hf
  refine m_read hf rfl (x_loadF (k := 0) (i := i) (f := wF) (l := ws) (u := .int .i64 ws[i].1) sc3 (by intro _; rfl) (hs.old hrw) (hf.eval rfl) hlt rfl) ?_; clear hf a; intro a hf
  refine m_held hf rfl (fun w' _ => x_move (hf.eval rfl) w') ?_; clear hf a; intro a hf
  refine m_held hf rfl (fun w' _ => x_move (hf.eval rfl) w') ?_; clear hf a; intro a hf
  refine m_held hf rfl (fun w' _ => x_indexAddr sl23 (hf.eval rfl) (hf.eval rfl) (by omega) (by omega) w') ?_; clear hf a; intro a hf
  refine m_held hf rfl (fun w' _ => x_fieldAddrG fo54_1 (hf.eval rfl) w') ?_; clear hf a; intro a hf
  refine m_read hf rfl (x_loadF (k := 1) (i := i) (f := wF) (l := ws) (u := .slice ws[i].2.1 ws[i].2.2.2.length ws[i].2.2.1) sc22 (by intro _; rfl) (hs.old hrw) (hf.eval rfl) hlt rfl) ?_; clear hf a; intro a hf
  refine m_eff hf rfl (y_call (hf.eval rfl) (hf.evals rfl) Tryz.call57 ((rWrite_spec _ _ _ D t hs ws[i].1 _ _ ws[i].2.2.2 (Rdy.old hgi.1) (by omega) hto (by have := htb.calls; omega) (by have := htb.pcs; omega) (by have := htb.sizes; omega)).mono ?_))
  rintro e w1 ⟨rfl, hs⟩
  rw [← co_wr] at hs ⊢
  obtain ⟨t5, ht5⟩ : ∃ x, x = (coS t (2, ws[i].1, ws[i].2.2.2)).2 := ⟨_, rfl⟩
  have ht5o := coS_ok hto (2, ws[i].1, ws[i].2.2.2)
  have ht5b := coS_b hto htb (2, ws[i].1, ws[i].2.2.2)
  rw [← ht5] at hs ht5o ht5b
  refine ⟨_, rfl, ⟨trivial, ?_⟩⟩; clear hf a; intro a hf
  refine m_held hf rfl (fun w' _ => x_assign (hf.eval rfl) w') ?_; clear hf a; intro a hf
  refine m_nil ?_
  refine then_n ?_
  refine wp_seq ?_
  refine wp_region_lit ?_
  refine s_m hf rfl ?_; clear hf a; intro a hf
  refine s_v hf (x_bin (hf.eval rfl) (hf.eval rfl) (r_ne _ _ _ _)) ?_; clear hf a; intro a hf
  refine s_nil ?_
  refine then_n ?_
  refine c_cond hf rfl (fun hi6 => ?_) (fun hi6 => ?_)
  ·first | simp only [zd1, zd2, zd3, zd4, ne_eq, Classical.not_not] at hi6 | skip
   refine wp_seq ?_
   refine wp_region_lit ?_
   refine s_m hf rfl ?_; clear hf a; intro a hf
   refine s_a hf rfl ?_; clear hf a; intro a hf
   refine s_nil ?_
   refine then_n ?_
   refine wp_ret ?_
   refine blk_r (then_r (then_r (blk_r (then_r ?_))))
   refine r_1 hf Tryz.results14 rfl ?_
   rw [if_neg hi6] at hup
   rw [hup, ← ht5]
   exact ⟨rfl, St.cut [_] [_] hs⟩
  first | simp only [zd1, zd2, zd3, zd4, ne_eq, Classical.not_not] at hi6 | skip
  rw [if_pos hi6, ← ht5] at hup
  refine wp_skip ?_
  refine blk_n ?_
  refine then_n ?_
  refine wp_region_lit ?_
  refine s_m hf rfl ?_; clear hf a; intro a hf
  refine s_v hf (x_bin (hf.eval rfl) (hf.eval rfl) (r_addi _ (by omega) (by omega))) ?_; clear hf a; intro a hf
  refine s_a hf rfl ?_; clear hf a; intro a hf
  refine s_nil ?_
  exact ⟨_, _, ⟨i + 1, t5, rfl, rfl, by omega, hup, ht5o, ht5b.up (by omega), hs⟩, by omega, hf.sub ⟨rfl, rfl, rfl, rfl, rfl, rfl, rfl, rfl, rfl, rfl, rfl, rfl, rfl, rfl, rfl, rfl, rfl, rfl, rfl, rfl, rfl, rfl, rfl, rfl, rfl, rfl, rfl, rfl, rfl, rfl, rfl, rfl, rfl, rfl, rfl, rfl, rfl, rfl, rfl, rfl, rfl, rfl, rfl, rfl, rfl, rfl, trivial⟩⟩
 first | simp only [zd1, zd2, zd3, zd4, ne_eq, Classical.not_not] at hi5 | skip
 obtain rfl : i = ws.length := by omega
 rw [wrsU_end] at hup
 refine wp_exit ?_
 refine then_x ?_
 refine then_x ?_
 refine blk_x ?_
 refine then_n ?_
 refine wp_seq ?_
 refine wp_region_lit ?_
 refine s_m hf rfl ?_; clear hf a; intro a hf
 refine s_do hf rfl (y_call (hf.eval rfl) (hf.evals rfl) Tryz.call12 ((rSync_spec _ _ _ D t hs hto (by have := htb.calls; omega) (by have := htb.pcs; omega) (by have := htb.sizes; omega)).mono ?_))
 rintro e w1 ⟨rfl, hs⟩
 rw [← co_sy, ← runS_one] at hs ⊢
 obtain ⟨t6, ht6⟩ : ∃ x, x = (runS t [syO]).2 := ⟨_, rfl⟩
 have ht6o := runS_ok [syO] hto
 have ht6b := runS_b [syO] hto htb
 rw [← ht6] at hs ht6o ht6b
 refine ⟨_, rfl, ?_⟩; clear hf a; intro a hf
 refine s_a hf rfl ?_; clear hf a; intro a hf
 refine s_nil ?_
 refine then_n ?_
 refine wp_seq ?_
 refine wp_seq ?_
 refine wp_region_lit ?_
 refine s_m hf rfl ?_; clear hf a; intro a hf
 refine s_v hf (x_bin (hf.eval rfl) (hf.eval rfl) (r_ne _ _ _ _)) ?_; clear hf a; intro a hf
 refine s_nil ?_
 refine then_n ?_
 refine c_cond hf rfl (fun hi7 => ?_) (fun hi7 => ?_)
 ·first | simp only [zd1, zd2, zd3, zd4, ne_eq, Classical.not_not] at hi7 | skip
  refine wp_seq ?_
  refine wp_region_lit ?_
  refine s_m hf rfl ?_; clear hf a; intro a hf
  refine s_a hf rfl ?_; clear hf a; intro a hf
  refine s_nil ?_
  refine then_n ?_
  refine wp_ret ?_
  refine then_r ?_
  refine r_1 hf Tryz.results14 rfl ?_
  rw [hup, runS_stop hi7, ← ht6]
  replace hs := hs.take (A := refA 88 152 5 3 D t6) (by repeat constructor)
  first | exact ⟨rfl, St.cut [_] [] hs⟩ | exact ⟨rfl, St.cut [_] [_] hs⟩ | exact ⟨rfl, St.cut [_] [_, _] hs⟩ | exact ⟨rfl, St.cut [_] [_, _, _] hs⟩
 first | simp only [zd1, zd2, zd3, zd4, ne_eq, Classical.not_not] at hi7 | skip
 rw [runS_go hi7, ← ht6] at hup
 refine wp_skip ?_
 refine then_n ?_
 refine wp_seq ?_
 refine wp_region_lit ?_
 refine s_v hf (x_fieldAddr fo99_0 (hf.eval rfl)) ?_; clear hf a; intro a hf
 replace hs := hs.take (A := cb b14 99 (slF (slU 3 seq s.now size ws))) (by repeat constructor)
 refine s_do0 hf rfl (y_store hs sc3 (hf.eval rfl) (hf.eval rfl) rfl (by repeat constructor) (by simp [slF]) ?_); clear hf hs a; intro w hs a hf
 replace hs : St _ _ (cb b14 99 (slF (slU 4 seq s.now size ws)) :: _) := hs
 refine s_nil ?_
 refine then_n ?_
 refine wp_seq ?_
 refine wp_region_lit ?_
 refine s_r hf (x_loadBlk hs ag99 (hf.eval rfl) rfl (by repeat constructor)) ?_; clear hf a; intro a hf
 refine s_do hf rfl (y_call (hf.eval rfl) (hf.evals rfl) Tryz.call53 ((rencode_spec _ (slU 4 seq s.now size ws) (crcU_lt0 _)).mono ?_))
 rintro e w1 ⟨e4, ce4, rfl, hj⟩
 replace hs := hs.join hj
 simp only [List.cons_append, List.nil_append] at hs
 obtain ⟨ec1, ec2⟩ := enc_ok (slU_ok hUo (st := 4) (by omega) (by omega))
 rw [ec2] at hs ⊢
 refine ⟨_, rfl, ?_⟩; clear hf a; intro a hf
 refine s_m hf rfl ?_; clear hf a; intro a hf
 refine s_v hf (x_extract (hf.eval rfl) rfl) ?_; clear hf a; intro a hf
 refine s_v hf (x_extract (hf.eval rfl) rfl) ?_; clear hf a; intro a hf
 refine s_a hf rfl ?_; clear hf a; intro a hf
 refine s_a hf rfl ?_; clear hf a; intro a hf
 refine s_nil ?_
 refine then_n ?_
 refine wp_seq ?_
 refine wp_region_lit ?_
 refine s_m hf rfl ?_; clear hf a; intro a hf
 refine s_m hf rfl ?_; clear hf a; intro a hf
 refine s_do hf rfl (y_call (hf.eval rfl) (hf.evals rfl) Tryz.call54 ((seal_spec _ (filU s.now size ws) (by omega) (by omega)).mono ?_))
 rintro e w1 ⟨rfl, hw9⟩
 rw [hw9]
 clear hw9 w1
 rw [seaU_def]
 refine ⟨_, rfl, ?_⟩; clear hf a; intro a hf
 refine s_m hf rfl ?_; clear hf a; intro a hf
 replace hs := hs.take (A := refA 88 152 5 3 D t6) (by repeat constructor)
 have hln := putO_len (seaU s.now size ws) (secS (slU 4 seq s.now size ws))
 have hl1 : ([syO] : List COp).length = 1 := rfl
 refine s_do hf rfl (y_call (hf.eval rfl) (hf.evals rfl) Tryz.call55 ((rput_spec w0 _ _ D t6 (seaU s.now size ws) e4 ce4 (secS (slU 4 seq s.now size ws)) (Rdy.own (by repeat constructor)) (by rw [secS_len]; decide) hs ht6o _ ht6b (by omega)).mono ?_))
 rintro e w1 ⟨rfl, hs⟩
 obtain ⟨t7, ht7⟩ : ∃ x, x = (runS t6 (putO (seaU s.now size ws) (secS (slU 4 seq s.now size ws)))).2 := ⟨_, rfl⟩
 have ht7o := runS_ok (putO (seaU s.now size ws) (secS (slU 4 seq s.now size ws))) ht6o
 have ht7b := runS_b (putO (seaU s.now size ws) (secS (slU 4 seq s.now size ws))) ht6o ht6b
 rw [← ht7] at hs ht7o ht7b
 refine ⟨_, rfl, ?_⟩; clear hf a; intro a hf
 refine s_a hf rfl ?_; clear hf a; intro a hf
 refine s_nil ?_
 refine then_n ?_
 refine wp_seq ?_
 refine wp_seq ?_
 refine wp_region_lit ?_
 refine s_m hf rfl ?_; clear hf a; intro a hf
 refine s_v hf (x_bin (hf.eval rfl) (hf.eval rfl) (r_ne _ _ _ _)) ?_; clear hf a; intro a hf
 refine s_nil ?_
 refine then_n ?_
 refine c_cond hf rfl (fun hi8 => ?_) (fun hi8 => ?_)
 ·first | simp only [zd1, zd2, zd3, zd4, ne_eq, Classical.not_not] at hi8 | skip
  refine wp_seq ?_
  refine wp_region_lit ?_
  refine s_m hf rfl ?_; clear hf a; intro a hf
  refine s_a hf rfl ?_; clear hf a; intro a hf
  refine s_nil ?_
  refine then_n ?_
  refine wp_ret ?_
  refine then_r ?_
  refine r_1 hf Tryz.results14 rfl ?_
  rw [hup, runS_stop hi8, ← ht7]
  replace hs := hs.take (A := refA 88 152 5 3 D t7) (by repeat constructor)
  first | exact ⟨rfl, St.cut [_] [] hs⟩ | exact ⟨rfl, St.cut [_] [_] hs⟩ | exact ⟨rfl, St.cut [_] [_, _] hs⟩ | exact ⟨rfl, St.cut [_] [_, _, _] hs⟩ | exact ⟨rfl, St.cut [_] [_, _, _, _] hs⟩ | exact ⟨rfl, St.cut [_] [_, _, _, _, _] hs⟩
 first | simp only [zd1, zd2, zd3, zd4, ne_eq, Classical.not_not] at hi8 | skip
 rw [runS_go hi8, ← ht7] at hup
 refine wp_skip ?_
 refine then_n ?_
 refine wp_seq ?_
 refine wp_region_lit ?_
 refine s_m hf rfl ?_; clear hf a; intro a hf
 refine s_m hf rfl ?_; clear hf a; intro a hf
 replace hs := hs.take (A := refA 88 152 5 3 D t7) (by repeat constructor)
 refine s_do hf rfl (y_call (hf.eval rfl) (hf.evals rfl) Tryz.call58 ((rcut_spec w0 _ _ D t7 size hs ht7o _ ht7b (by have h1 := putO_len (seaU s.now size ws) (secS (slU 4 seq s.now size ws)); omega)).mono ?_))
 rintro e w1 ⟨rfl, hs⟩
 refine ⟨_, rfl, ?_⟩; clear hf a; intro a hf
 refine s_a hf rfl ?_; clear hf a; intro a hf
 refine s_nil ?_
 refine then_n ?_
 refine wp_ret ?_
 refine r_1 hf Tryz.results14 rfl ?_
 rw [hup]
 first | exact ⟨rfl, St.cut [_] [] hs⟩ | exact ⟨rfl, St.cut [_] [_] hs⟩ | exact ⟨rfl, St.cut [_] [_, _] hs⟩ | exact ⟨rfl, St.cut [_] [_, _, _] hs⟩
end Go.Proofs.YtehakfbfjpolfaaGreatDoor

namespace Go.Proofs.YtehakfbfjpolfaaGreatDoor
open Go Vw
def fullV (z : Wr) : Value := .slice z.2.1 (z.2.2.2.length + 4) z.2.2.1
def fA (z : Wr) : List Value := [fullV z]
def Gd (h : Heaplet) (z : Wr) : Prop := RdB h (fullV z) (z.2.2.2 ++ [0xC0, 0xC1, 0xC2, 0xC3])
def rowG : List Wr → Asrt
  | [] => fun _ => True
  | z :: r => star (slB 5 (fullV z) (z.2.2.2 ++ [0xC0, 0xC1, 0xC2, 0xC3])) (rowG r)
def dkW (z : Wr) : Int × List UInt8 := (z.1, z.2.2.2)
theorem Gd.pre {h : Heaplet} {z : Wr} (g : Gd h z) (hcap : z.2.2.2.length + 4 ≤ z.2.2.1) : RdB h (.slice z.2.1 z.2.2.2.length z.2.2.1) z.2.2.2 := by
  have h0 := RdB.sub (i := 0) (j := z.2.2.2.length) g (by simp) (by omega) (by simp)
  have e : subA z.2.1 z.2.2.1 0 1 = z.2.1 := by unfold subA; split <;> simp [Addr.add]
  rw [e] at h0
  simpa using h0
theorem recover_nil (w0 : World) : Calls Tryz.prog 15 #[.pointer none] w0 fun e w' => e = .returned (.tuple #[.agg (vdF (0, 0, 0)).toArray, .int .i64 1]) ∧ Kept w0 w' None_ := by
 have hs := St.start w0 None_
 refine c_enter (N := 55) Tryz.func15 rfl Tryz.ntmps15 (by simp) ?_
 intro a hf
 refine wp_seq ?_
 refine wp_region_lit ?_
 refine s_do hf rfl (y_alloc hs Tryz.zeroValue37 ?_); clear hf hs a; intro b2 w hs a hf
 change St _ _ (cb b2 37 (vdF (0, 0, 0)) :: _) at hs
 refine s_a hf rfl ?_; clear hf a; intro a hf
 refine s_nil ?_
 refine then_n ?_
 refine wp_seq ?_
 refine wp_seq ?_
 refine wp_region_lit ?_
 refine s_m hf rfl ?_; clear hf a; intro a hf
 refine s_v hf (x_eqNil Tryz.underlying24 (hf.eval rfl) (hf.eval rfl)) ?_; clear hf a; intro a hf
 replace hf := hf.now (k := 9) (v' := .bool true) rfl rfl
 refine s_nil ?_
 refine then_n ?_
 refine c_cond_t hf rfl rfl ?_
 refine wp_seq ?_
 refine wp_region_lit ?_
 refine s_r hf (x_build (v := .agg (vdF (0, 0, 0)).toArray) (hf.parts rfl) (fun w => by kernel_rfl) _) ?_; clear hf a; intro a hf
 replace hs := hs.take (A := cb b2 37 (vdF (0, 0, 0))) (by repeat constructor)
 refine s_do0 hf rfl (y_storeAgg (cs := vdF (0, 0, 0)) hs (n := 3) (by kernel_rfl) (hf.eval rfl) (hf.eval rfl) (by simp [Value.oneCell', vdF]) rfl rfl .k0 ?_); clear hf hs a; intro w hs a hf
 refine s_a hf rfl ?_; clear hf a; intro a hf
 refine s_nil ?_
 refine then_n ?_
 refine wp_ret ?_
 refine then_r ?_
 refine r_2c hf Tryz.results15 rfl rfl hs ag37 rfl .k0 ?_
 exact ⟨rfl, hs.kept⟩
theorem rdB_nil (h : Heaplet) : RdB h (.slice none (([] : List UInt8)).length 0) [] := ⟨rfl, .inl ⟨0, rfl, rfl⟩⟩
abbrev ChQ := Int × (Option Addr × Nat × List Int) × Int
def chF (c : ChQ) : List Value := [.int .i64 c.1, .slice c.2.1.1 c.2.1.2.2.length c.2.1.2.1, .int .i64 c.2.2]
structure ChG (h : Heaplet) (c : ChQ) : Prop where
  rd : RdS iF 1 h (.slice c.2.1.1 c.2.1.2.2.length c.2.1.2.1) c.2.1.2.2
  len : c.2.1.2.2.length ≤ 1048576
theorem begin_nil (w0 : World) (seq size : Int) (v : Value) : Calls Tryz.prog 41 #[.pointer none, .int .i64 seq, .int .i64 size, v] w0 fun e w' => e = .returned (.tuple #[.pointer none, .int .i64 1]) ∧ Kept w0 w' None_ := by
 have hs := St.start w0 None_
 refine c_enter (N := 112) Tryz.func41 rfl Tryz.ntmps41 (by simp) ?_
 intro a hf
 refine wp_seq ?_
 refine wp_region_lit ?_
 refine s_a hf rfl ?_; clear hf a; intro a hf
 refine s_a hf rfl ?_; clear hf a; intro a hf
 refine s_nil ?_
 refine then_n ?_
 refine wp_seq ?_
 refine wp_seq ?_
 refine wp_region_lit ?_
 refine s_m hf rfl ?_; clear hf a; intro a hf
 refine s_v hf (x_eqNil Tryz.underlying24 (hf.eval rfl) (hf.eval rfl)) ?_; clear hf a; intro a hf
 replace hf := hf.now (k := 16) (v' := .bool true) rfl rfl
 refine s_m hf rfl ?_; clear hf a; intro a hf
 refine s_pass hf rfl rfl ?_; clear hf a; intro a hf
 refine s_pass hf rfl rfl ?_; clear hf a; intro a hf
 refine s_v hf (x_pick_t (hf.eval rfl) (hf.eval rfl)) ?_; clear hf a; intro a hf
 refine s_m hf rfl ?_; clear hf a; intro a hf
 refine s_pass hf rfl rfl ?_; clear hf a; intro a hf
 refine s_pass hf rfl rfl ?_; clear hf a; intro a hf
 refine s_v hf (x_pick_t (hf.eval rfl) (hf.eval rfl)) ?_; clear hf a; intro a hf
 refine s_m hf rfl ?_; clear hf a; intro a hf
 refine s_pass hf rfl rfl ?_; clear hf a; intro a hf
 refine s_pass hf rfl rfl ?_; clear hf a; intro a hf
 refine s_pass hf rfl rfl ?_; clear hf a; intro a hf
 refine s_v hf (x_pick_t (hf.eval rfl) (hf.eval rfl)) ?_; clear hf a; intro a hf
 refine s_nil ?_
 refine then_n ?_
 refine c_cond_t hf rfl rfl ?_
 refine wp_seq ?_
 refine wp_region_lit ?_
 refine s_a hf rfl ?_; clear hf a; intro a hf
 refine s_a hf rfl ?_; clear hf a; intro a hf
 refine s_nil ?_
 refine then_n ?_
 refine wp_ret ?_
 refine then_r ?_
 refine r_2 hf Tryz.results41 rfl rfl ?_
 exact ⟨rfl, hs.kept⟩
theorem update_nil (w0 : World) (seq size : Int) (v : Value) : Calls Tryz.prog 13 #[.pointer none, .int .i64 seq, .int .i64 size, v] w0 fun e w' => e = .returned (.int .i64 1) ∧ Kept w0 w' None_ := by
 have hs := St.start w0 None_
 refine c_enter (N := 36) Tryz.func13 rfl Tryz.ntmps13 (by simp) ?_
 intro a hf
 refine wp_seq ?_
 refine wp_region_lit ?_
 refine s_a hf rfl ?_; clear hf a; intro a hf
 refine s_nil ?_
 refine then_n ?_
 refine wp_seq ?_
 refine wp_region_lit ?_
 refine s_m hf rfl ?_; clear hf a; intro a hf
 refine s_m hf rfl ?_; clear hf a; intro a hf
 refine s_m hf rfl ?_; clear hf a; intro a hf
 refine s_m hf rfl ?_; clear hf a; intro a hf
 refine s_do hf rfl (y_call (hf.eval rfl) (hf.evals rfl) Tryz.call41 ((begin_nil _ seq size v).mono ?_))
 rintro e w1 ⟨rfl, hk⟩
 replace hs := hs.ext hk
 refine ⟨_, rfl, ?_⟩; clear hf a; intro a hf
 refine s_m hf rfl ?_; clear hf a; intro a hf
 refine s_v hf (x_extract (hf.eval rfl) rfl) ?_; clear hf a; intro a hf
 refine s_v hf (x_extract (hf.eval rfl) rfl) ?_; clear hf a; intro a hf
 refine s_a hf rfl ?_; clear hf a; intro a hf
 refine s_a hf rfl ?_; clear hf a; intro a hf
 refine s_nil ?_
 refine then_n ?_
 refine wp_seq ?_
 refine wp_seq ?_
 refine wp_region_lit ?_
 refine s_m hf rfl ?_; clear hf a; intro a hf
 refine s_v hf (x_bin (hf.eval rfl) (hf.eval rfl) (r_ne _ _ _ _)) ?_; clear hf a; intro a hf
 refine s_nil ?_
 refine then_n ?_
 refine c_cond_t hf rfl (by simp) ?_
 refine wp_seq ?_
 refine wp_region_lit ?_
 refine s_m hf rfl ?_; clear hf a; intro a hf
 refine s_a hf rfl ?_; clear hf a; intro a hf
 refine s_nil ?_
 refine then_n ?_
 refine wp_ret ?_
 refine then_r ?_
 refine r_1 hf Tryz.results13 rfl ?_
 exact ⟨rfl, hs.kept⟩
attribute [local irreducible] Vw.sl Vw.lkV Vw.runS Vw.opsU Vw.opsR Vw.aplR Vw.aplE Vw.updR recV recS Vw.filU Vw.savL rowG Vw.refE
theorem upd_dead {s : DS} (h : s.dead = true) (seq size : Int) (ws : List Wr) : updR s seq size ws = (refE s seq size ws, s) := by
  have e : refE s seq size ws ≠ 0 := by
    unfold refE; split
    · decide
    · first | decide | (rw [if_pos h]; decide)
  unfold updR; rw [if_pos e]
theorem dead_now (im : List UInt8) (room : Int) : (syS (fuS (newS im room) 0)).2.dead = true := rfl
theorem dead_spec (w0 : World) (hT : Tab 0 (hp w0)) (a1 : Option Addr) (c1 : Nat) (image : List UInt8) (hr1 : RdB (hp w0) (.slice a1 image.length c1) image) (hl1 : image.length ≤ 1048576) (seq size : Int) (aw : Option Addr) (cw : Nat) (ws : List Wr) (hrw : RdS wF 2 (hp w0) (.slice aw ws.length cw) ws) (hlw : ws.length ≤ 1048576) (hgd : ∀ z ∈ ws, RdB (hp w0) (.slice z.2.1 z.2.2.2.length z.2.2.1) z.2.2.2 ∧ z.2.2.2.length ≤ 1048576) : Calls Tryz.prog 3 #[.slice a1 image.length c1, .int .i64 seq, .int .i64 size, .slice aw ws.length cw] w0 fun e w' => e = .returned (.bool true) ∧ Kept w0 w' None_ := by
 have hs := St.start w0 None_
 have ho1 := fuS_ok (newS_ok (image := image) (room := (image.length : Int)) (by omega) (by omega) (by omega)) (show (0 : Int) ≤ 9223372036854775807 by omega)
 have hb1 := fuS_b (newS_b image (image.length : Int) 0) 0
 have hto := coS_ok ho1 syO
 have htb := coS_b ho1 hb1 syO
 have htd := dead_now image (image.length : Int)
 rw [co_sy] at hto htb
 obtain ⟨t, ht⟩ : ∃ t, t = (syS (fuS (newS image (image.length : Int)) 0)).2 := ⟨_, rfl⟩
 rw [← ht] at hto htb htd
 have htn := hto.now
 have htr := hto.room1
 have hud := upd_dead htd seq size ws
 obtain ⟨rd1, rd2⟩ := rec_dead htd
 refine c_enter (N := 112) Tryz.func3 rfl Tryz.ntmps3 (by simp) ?_
 intro a hf
 refine wp_seq ?_
 refine wp_region_lit ?_
 refine s_a hf rfl ?_; clear hf a; intro a hf
 refine s_nil ?_
 refine then_n ?_
 refine wp_seq ?_
 refine wp_region_lit ?_
 refine s_m hf rfl ?_; clear hf a; intro a hf
 refine s_m hf rfl ?_; clear hf a; intro a hf
 refine s_v hf (x_len Tryz.underlying22 (hf.eval rfl)) ?_; clear hf a; intro a hf
 refine s_do hf rfl (y_call (hf.eval rfl) (hf.evals rfl) Tryz.call7 ((dNew_in _ _ _ image (hs.oldB hr1) (by omega) (image.length : Int) (by omega) (by omega) (by omega)).mono ?_))
 rintro e w1 ⟨p, rfl, hj⟩
 replace hs := hs.join hj
 simp only [List.cons_append, List.nil_append] at hs
 refine ⟨_, rfl, ?_⟩; clear hf a; intro a hf
 refine s_m hf rfl ?_; clear hf a; intro a hf
 refine s_v hf (x_extract (hf.eval rfl) rfl) ?_; clear hf a; intro a hf
 refine s_v hf (x_extract (hf.eval rfl) rfl) ?_; clear hf a; intro a hf
 refine s_a hf rfl ?_; clear hf a; intro a hf
 refine s_a hf rfl ?_; clear hf a; intro a hf
 refine s_nil ?_
 refine then_n ?_
 refine wp_seq ?_
 refine wp_region_lit ?_
 refine s_m hf rfl ?_; clear hf a; intro a hf
 refine s_m hf rfl ?_; clear hf a; intro a hf
 refine s_v hf (x_len Tryz.underlying22 (hf.eval rfl)) ?_; clear hf a; intro a hf
 refine s_do hf rfl (y_call (hf.eval rfl) (hf.evals rfl) Tryz.call8 ((rNew_in _ _ _ image (hs.oldB hr1) (by omega) (image.length : Int) (by omega) (by omega) (by omega)).mono ?_))
 rintro e w1 ⟨q, rfl, hj⟩
 replace hs := hs.join hj
 simp only [List.cons_append, List.nil_append] at hs
 refine ⟨_, rfl, ?_⟩; clear hf a; intro a hf
 refine s_m hf rfl ?_; clear hf a; intro a hf
 refine s_v hf (x_extract (hf.eval rfl) rfl) ?_; clear hf a; intro a hf
 refine s_v hf (x_extract (hf.eval rfl) rfl) ?_; clear hf a; intro a hf
 refine s_a hf rfl ?_; clear hf a; intro a hf
 refine s_a hf rfl ?_; clear hf a; intro a hf
 refine s_nil ?_
 refine then_n ?_
 refine wp_seq ?_
 refine wp_region_lit ?_
 refine s_m hf rfl ?_; clear hf a; intro a hf
 replace hs := hs.take (A := diskA 85 127 5 3 p (newS image (image.length : Int))) (by repeat constructor)
 refine s_do hf rfl (y_call (hf.eval rfl) (hf.evals rfl) Tryz.call9 ((dFuse_spec _ _ _ p _ hs 0).mono ?_))
 rintro e w1 ⟨rfl, hs⟩
 refine ⟨_, rfl, ?_⟩; clear hf a; intro a hf
 refine s_nil ?_
 refine then_n ?_
 refine wp_seq ?_
 refine wp_region_lit ?_
 refine s_m hf rfl ?_; clear hf a; intro a hf
 replace hs := hs.take (A := refA 88 152 5 3 q (newS image (image.length : Int))) (by repeat constructor)
 refine s_do hf rfl (y_call (hf.eval rfl) (hf.evals rfl) Tryz.call10 ((rFuse_spec _ _ _ q _ hs 0).mono ?_))
 rintro e w1 ⟨rfl, hs⟩
 refine ⟨_, rfl, ?_⟩; clear hf a; intro a hf
 refine s_nil ?_
 refine then_n ?_
 refine wp_seq ?_
 refine wp_region_lit ?_
 refine s_m hf rfl ?_; clear hf a; intro a hf
 replace hs := hs.take (A := diskA 85 127 5 3 p (fuS (newS image (image.length : Int)) 0)) (by repeat constructor)
 refine s_do hf rfl (y_call (hf.eval rfl) (hf.evals rfl) Tryz.call11 ((dSync_spec _ _ _ p _ hs ho1 (by have := hb1.calls; omega) (by have := hb1.pcs; omega) (by have := hb1.sizes; omega)).mono ?_))
 rintro e w1 ⟨rfl, hs⟩
 rw [← ht] at hs
 refine ⟨_, rfl, ?_⟩; clear hf a; intro a hf
 refine s_nil ?_
 refine then_n ?_
 refine wp_seq ?_
 refine wp_region_lit ?_
 refine s_m hf rfl ?_; clear hf a; intro a hf
 replace hs := hs.take (A := refA 88 152 5 3 q (fuS (newS image (image.length : Int)) 0)) (by repeat constructor)
 refine s_do hf rfl (y_call (hf.eval rfl) (hf.evals rfl) Tryz.call12 ((rSync_spec _ _ _ q _ hs ho1 (by have := hb1.calls; omega) (by have := hb1.pcs; omega) (by have := hb1.sizes; omega)).mono ?_))
 rintro e w1 ⟨rfl, hs⟩
 rw [← ht] at hs
 refine ⟨_, rfl, ?_⟩; clear hf a; intro a hf
 refine s_nil ?_
 refine then_n ?_
 refine wp_seq ?_
 refine wp_region_lit ?_
 refine s_m hf rfl ?_; clear hf a; intro a hf
 refine s_m hf rfl ?_; clear hf a; intro a hf
 refine s_m hf rfl ?_; clear hf a; intro a hf
 refine s_m hf rfl ?_; clear hf a; intro a hf
 replace hs := hs.take (A := diskA 85 127 5 3 p t) (by repeat constructor)
 refine s_do hf rfl (y_call (hf.eval rfl) (hf.evals rfl) Tryz.call13 ((jupdate_spec w0 _ _ p t hT hs hto _ htb (by omega) seq size aw cw ws (RdyS.old hrw) hlw (fun z hz => ⟨Rdy.old (hgd z hz).1, (hgd z hz).2⟩)).mono ?_))
 rintro e w1 ⟨rfl, hs⟩
 rw [hud] at hs ⊢
 refine ⟨_, rfl, ?_⟩; clear hf a; intro a hf
 refine s_a hf rfl ?_; clear hf a; intro a hf
 refine s_nil ?_
 refine then_n ?_
 refine wp_seq ?_
 refine wp_region_lit ?_
 refine s_m hf rfl ?_; clear hf a; intro a hf
 refine s_m hf rfl ?_; clear hf a; intro a hf
 refine s_m hf rfl ?_; clear hf a; intro a hf
 refine s_m hf rfl ?_; clear hf a; intro a hf
 replace hs := hs.take (A := refA 88 152 5 3 q t) (by repeat constructor)
 refine s_do hf rfl (y_call (hf.eval rfl) (hf.evals rfl) Tryz.call14 ((rupdate_spec w0 _ _ q t hs hto _ htb (by omega) seq size aw cw ws hrw hlw hgd).mono ?_))
 rintro e w1 ⟨rfl, hs⟩
 rw [hud] at hs ⊢
 refine ⟨_, rfl, ?_⟩; clear hf a; intro a hf
 refine s_a hf rfl ?_; clear hf a; intro a hf
 refine s_nil ?_
 refine then_n ?_
 refine wp_seq ?_
 refine wp_region_lit ?_
 refine s_m hf rfl ?_; clear hf a; intro a hf
 replace hs := hs.take (A := diskA 85 127 5 3 p t) (by repeat constructor)
 refine s_do hf rfl (y_call (hf.eval rfl) (hf.evals rfl) Tryz.call15 ((recover_spec w0 _ _ p t hT hs hto _ htb (by omega)).mono ?_))
 rintro e w1 ⟨rfl, hs⟩
 rw [rd2] at hs
 rw [rd1]
 refine ⟨_, rfl, ?_⟩; clear hf a; intro a hf
 refine s_m hf rfl ?_; clear hf a; intro a hf
 refine s_v hf (x_extract (hf.eval rfl) rfl) ?_; clear hf a; intro a hf
 refine s_v hf (x_extract (hf.eval rfl) rfl) ?_; clear hf a; intro a hf
 refine s_do hf rfl (y_alloc hs Tryz.zeroValue37 ?_); clear hf hs a; intro b15 w hs a hf
 change St _ _ (cb b15 37 (vdF (0, 0, 0)) :: _) at hs
 refine s_do0 hf rfl (y_storeAgg (cs := vdF (0, 0, 0)) hs (n := 3) (by kernel_rfl) (hf.eval rfl) (hf.eval rfl) (by simp [Value.oneCell', vdF]) rfl rfl .k0 ?_); clear hf hs a; intro w hs a hf
 refine s_a hf rfl ?_; clear hf a; intro a hf
 refine s_nil ?_
 refine then_n ?_
 refine wp_seq ?_
 refine wp_region_lit ?_
 refine s_m hf rfl ?_; clear hf a; intro a hf
 replace hs := hs.take (A := refA 88 152 5 3 q t) (by repeat constructor)
 refine s_do hf rfl (y_call (hf.eval rfl) (hf.evals rfl) Tryz.call16 ((rrecover_spec w0 _ _ q t hs hto _ htb (by omega)).mono ?_))
 rintro e w1 ⟨rfl, hs⟩
 rw [rd2] at hs
 rw [rd1]
 refine ⟨_, rfl, ?_⟩; clear hf a; intro a hf
 refine s_m hf rfl ?_; clear hf a; intro a hf
 refine s_v hf (x_extract (hf.eval rfl) rfl) ?_; clear hf a; intro a hf
 refine s_v hf (x_extract (hf.eval rfl) rfl) ?_; clear hf a; intro a hf
 refine s_do hf rfl (y_alloc hs Tryz.zeroValue37 ?_); clear hf hs a; intro b17 w hs a hf
 change St _ _ (cb b17 37 (vdF (0, 0, 0)) :: _) at hs
 refine s_do0 hf rfl (y_storeAgg (cs := vdF (0, 0, 0)) hs (n := 3) (by kernel_rfl) (hf.eval rfl) (hf.eval rfl) (by simp [Value.oneCell', vdF]) rfl rfl .k0 ?_); clear hf hs a; intro w hs a hf
 refine s_a hf rfl ?_; clear hf a; intro a hf
 refine s_nil ?_
 refine then_n ?_
 refine wp_seq ?_
 refine wp_seq ?_
 refine wp_region_lit ?_
 refine s_m hf rfl ?_; clear hf a; intro a hf
 refine s_do hf rfl (y_call (hf.eval rfl) (hf.evals rfl) Tryz.call17 ((num_spec _ _).mono ?_))
 rintro e w1 ⟨rfl, hw9⟩
 rw [hw9]
 clear hw9 w1
 refine ⟨_, rfl, ?_⟩; clear hf a; intro a hf
 refine s_m hf rfl ?_; clear hf a; intro a hf
 refine s_v hf (x_bin (hf.eval rfl) (hf.eval rfl) (r_ne _ _ _ _)) ?_; clear hf a; intro a hf
 refine s_m hf rfl ?_; clear hf a; intro a hf
 replace hf := hf.now (k := 65) (v' := .bool false) rfl (congrArg Value.bool (by first | rfl | simp))
 refine s_do hf (wanted_of hf rfl rfl rfl) (.value (x_move (hf.eval rfl) _) ?_); clear hf a; intro a hf
 refine s_do hf (wanted_of hf rfl rfl rfl) (y_call (hf.eval rfl) (hf.evals rfl) Tryz.call17 ((num_spec _ _).mono ?_))
 rintro e w1 ⟨rfl, hw9⟩
 rw [hw9]
 clear hw9 w1
 refine ⟨_, rfl, ?_⟩; clear hf a; intro a hf
 refine s_do hf (wanted_of hf rfl rfl rfl) (.value (x_move (hf.eval rfl) _) ?_); clear hf a; intro a hf
 refine s_do hf (wanted_of hf rfl rfl rfl) (.value (x_bin (hf.eval rfl) (hf.eval rfl) (r_ne _ _ _ _) _) ?_); clear hf a; intro a hf
 refine s_v hf (x_pick_f (hf.eval rfl) (hf.eval rfl)) ?_; clear hf a; intro a hf
 refine s_m hf rfl ?_; clear hf a; intro a hf
 replace hf := hf.now (k := 71) (v' := .bool false) rfl (congrArg Value.bool (by first | rfl | simp))
 replace hs := hs.take (A := cb b15 37 (vdF (0, 0, 0))) (by repeat constructor)
 refine s_do hf (wanted_of hf rfl rfl rfl) (.value (x_loadBlk hs ag37 (hf.eval rfl) rfl (by repeat constructor)) ?_); clear hf a; intro a hf
 replace hs := hs.take (A := cb b17 37 (vdF (0, 0, 0))) (by repeat constructor)
 refine s_do hf (wanted_of hf rfl rfl rfl) (.value (x_loadBlk hs ag37 (hf.eval rfl) rfl (by repeat constructor)) ?_); clear hf a; intro a hf
 refine s_do hf (wanted_of hf rfl rfl rfl) (.value (x_vdNe (s := (0, 0, 0)) (t := (0, 0, 0)) (hf.eval rfl) (hf.eval rfl) rfl _) ?_); clear hf a; intro a hf
 refine s_v hf (x_pick_f (hf.eval rfl) (hf.eval rfl)) ?_; clear hf a; intro a hf
 refine s_m hf rfl ?_; clear hf a; intro a hf
 replace hf := hf.now (k := 76) (v' := .bool false) rfl (congrArg Value.bool (by first | rfl | simp))
 refine s_do hf (wanted_of hf rfl rfl rfl) (.value (x_move (hf.eval rfl) _) ?_); clear hf a; intro a hf
 replace hs := hs.take (A := diskA 85 127 5 3 p t) (by repeat constructor)
 refine s_do hf (wanted_of hf rfl rfl rfl) (y_call (hf.eval rfl) (hf.evals rfl) Tryz.call18 ((dCalls_spec _ _ _ p t hs).mono ?_))
 rintro e w1 ⟨rfl, hw9⟩
 rw [hw9]
 clear hw9 w1
 refine ⟨_, rfl, ?_⟩; clear hf a; intro a hf
 refine s_do hf (wanted_of hf rfl rfl rfl) (.value (x_move (hf.eval rfl) _) ?_); clear hf a; intro a hf
 replace hs := hs.take (A := refA 88 152 5 3 q t) (by repeat constructor)
 refine s_do hf (wanted_of hf rfl rfl rfl) (y_call (hf.eval rfl) (hf.evals rfl) Tryz.call19 ((rCalls_spec _ _ _ q t hs).mono ?_))
 rintro e w1 ⟨rfl, hw9⟩
 rw [hw9]
 clear hw9 w1
 refine ⟨_, rfl, ?_⟩; clear hf a; intro a hf
 refine s_do hf (wanted_of hf rfl rfl rfl) (.value (x_bin (hf.eval rfl) (hf.eval rfl) (r_ne _ _ _ _) _) ?_); clear hf a; intro a hf
 refine s_v hf (x_pick_f (hf.eval rfl) (hf.eval rfl)) ?_; clear hf a; intro a hf
 refine s_m hf rfl ?_; clear hf a; intro a hf
 replace hf := hf.now (k := 83) (v' := .bool false) rfl (congrArg Value.bool (by first | rfl | simp))
 refine s_do hf (wanted_of hf rfl rfl rfl) (.value (x_move (hf.eval rfl) _) ?_); clear hf a; intro a hf
 replace hs := hs.take (A := diskA 85 127 5 3 p t) (by repeat constructor)
 refine s_do hf (wanted_of hf rfl rfl rfl) (y_call (hf.eval rfl) (hf.evals rfl) Tryz.call21 ((dImage_spec _ _ _ p t hs (by omega)).mono ?_))
 rintro e w1 ⟨e1, f1, rfl, hs⟩
 refine ⟨_, rfl, ?_⟩; clear hf a; intro a hf
 refine s_do hf (wanted_of hf rfl rfl rfl) (.value (x_move (hf.eval rfl) _) ?_); clear hf a; intro a hf
 replace hs := hs.take (A := refA 88 152 5 3 q t) (by repeat constructor)
 refine s_do hf (wanted_of hf rfl rfl rfl) (y_call (hf.eval rfl) (hf.evals rfl) Tryz.call22 ((rImage_spec _ _ _ q t hs (by omega)).mono ?_))
 rintro e w1 ⟨e2, f2, rfl, hs⟩
 refine ⟨_, rfl, ?_⟩; clear hf a; intro a hf
 refine s_do hf (wanted_of hf rfl rfl rfl) (y_call (hf.eval rfl) (hf.evals rfl) Tryz.call20 ((same_spec _ _ _ t.now (hs.rdB (A := slB 5 (.slice e1 t.now.length f1) t.now) (by repeat constructor) fun h => slB_rd) _ _ t.now (hs.rdB (A := slB 5 (.slice e2 t.now.length f2) t.now) (by repeat constructor) fun h => slB_rd) (by omega)).mono ?_))
 rintro e w1 ⟨rfl, hk9⟩
 replace hs := hs.ext hk9
 refine ⟨_, rfl, ?_⟩; clear hf a; intro a hf
 refine s_do hf (wanted_of hf rfl rfl rfl) (.value (x_not (hf.eval rfl) _) ?_); clear hf a; intro a hf
 refine s_v hf (x_pick_f (hf.eval rfl) (hf.eval rfl)) ?_; clear hf a; intro a hf
 refine s_nil ?_
 refine then_n ?_
 refine c_cond_f hf rfl (by simp) ?_
 refine wp_skip ?_
 refine then_n ?_
 refine wp_seq ?_
 refine wp_region_lit ?_
 refine s_m hf rfl ?_; clear hf a; intro a hf
 refine s_m hf rfl ?_; clear hf a; intro a hf
 refine s_m hf rfl ?_; clear hf a; intro a hf
 refine s_do hf rfl (y_call (hf.eval rfl) (hf.evals rfl) Tryz.call13 ((update_nil _ seq size _).mono ?_))
 rintro e w1 ⟨rfl, hk⟩
 replace hs := hs.ext hk
 refine ⟨_, rfl, ?_⟩; clear hf a; intro a hf
 refine s_a hf rfl ?_; clear hf a; intro a hf
 refine s_nil ?_
 refine then_n ?_
 refine wp_seq ?_
 refine wp_region_lit ?_
 refine s_do hf rfl (y_call (hf.eval rfl) (hf.evals rfl) Tryz.call15 ((recover_nil _).mono ?_))
 rintro e w1 ⟨rfl, hk⟩
 replace hs := hs.ext hk
 refine ⟨_, rfl, ?_⟩; clear hf a; intro a hf
 refine s_m hf rfl ?_; clear hf a; intro a hf
 refine s_v hf (x_extract (hf.eval rfl) rfl) ?_; clear hf a; intro a hf
 refine s_v hf (x_extract (hf.eval rfl) rfl) ?_; clear hf a; intro a hf
 replace hs := hs.take (A := cb b15 37 (vdF (0, 0, 0))) (by repeat constructor)
 refine s_do0 hf rfl (y_storeAgg (cs := vdF (0, 0, 0)) hs (n := 3) (by kernel_rfl) (hf.eval rfl) (hf.eval rfl) (by simp [Value.oneCell', vdF]) rfl rfl .k0 ?_); clear hf hs a; intro w hs a hf
 refine s_a hf rfl ?_; clear hf a; intro a hf
 refine s_nil ?_
 refine then_n ?_
 refine wp_seq ?_
 refine wp_region_lit ?_
 refine s_m hf rfl ?_; clear hf a; intro a hf
 refine s_do hf rfl (y_call (hf.eval rfl) (hf.evals rfl) Tryz.call17 ((num_spec _ _).mono ?_))
 rintro e w1 ⟨rfl, hw9⟩
 rw [hw9]
 clear hw9 w1
 refine ⟨_, rfl, ?_⟩; clear hf a; intro a hf
 refine s_v hf (x_bin (hf.eval rfl) (hf.eval rfl) (r_eq _ _ _ _)) ?_; clear hf a; intro a hf
 refine s_m hf rfl ?_; clear hf a; intro a hf
 replace hf := hf.now (k := 102) (v' := .bool true) rfl (congrArg Value.bool (by first | rfl | simp))
 refine s_do hf (wanted_of hf rfl rfl rfl) (.value (x_move (hf.eval rfl) _) ?_); clear hf a; intro a hf
 refine s_do hf (wanted_of hf rfl rfl rfl) (y_call (hf.eval rfl) (hf.evals rfl) Tryz.call17 ((num_spec _ _).mono ?_))
 rintro e w1 ⟨rfl, hw9⟩
 rw [hw9]
 clear hw9 w1
 refine ⟨_, rfl, ?_⟩; clear hf a; intro a hf
 refine s_do hf (wanted_of hf rfl rfl rfl) (.value (x_bin (hf.eval rfl) (hf.eval rfl) (r_eq _ _ _ _) _) ?_); clear hf a; intro a hf
 refine s_v hf (x_pick_t (hf.eval rfl) (hf.eval rfl)) ?_; clear hf a; intro a hf
 refine s_m hf rfl ?_; clear hf a; intro a hf
 replace hf := hf.now (k := 107) (v' := .bool true) rfl (congrArg Value.bool (by first | rfl | simp))
 replace hs := hs.take (A := cb b15 37 (vdF (0, 0, 0))) (by repeat constructor)
 refine s_do hf (wanted_of hf rfl rfl rfl) (.value (x_loadBlk hs ag37 (hf.eval rfl) rfl (by repeat constructor)) ?_); clear hf a; intro a hf
 refine s_do hf (wanted_of hf rfl rfl rfl) (.value (x_build (v := .agg (vdF (0, 0, 0)).toArray) (hf.parts rfl) (fun w => by kernel_rfl) _) ?_); clear hf a; intro a hf
 refine s_do hf (wanted_of hf rfl rfl rfl) (.value (x_vdEq (s := (0, 0, 0)) (t := (0, 0, 0)) (hf.eval rfl) (hf.eval rfl) rfl _) ?_); clear hf a; intro a hf
 refine s_v hf (x_pick_t (hf.eval rfl) (hf.eval rfl)) ?_; clear hf a; intro a hf
 refine s_a hf rfl ?_; clear hf a; intro a hf
 refine s_nil ?_
 refine then_n ?_
 refine wp_ret ?_
 refine r_1 hf Tryz.results3 rfl ?_
 exact ⟨by simp, hs.kept⟩
end Go.Proofs.YtehakfbfjpolfaaGreatDoor
