/- Texts 13 of 17 that the law rests on: the small library, contracts of functions, printed by a program. -/
import Derived.Test.YtehakfbfjpolfaaDoorProg
import Derived.Test.YtehakfbfjpolfaaDoorRv1
import Derived.Test.YtehakfbfjpolfaaDoorRv2
import Derived.Test.YtehakfbfjpolfaaDoorRv3
import Derived.Test.YtehakfbfjpolfaaDoorRv4
import Derived.Test.YtehakfbfjpolfaaDoorRv5
import Derived.Test.YtehakfbfjpolfaaDoorRv6
import Derived.Test.YtehakfbfjpolfaaDoorRv7
import Derived.Test.YtehakfbfjpolfaaDoorRv8
import Derived.Test.YtehakfbfjpolfaaDoorRv9
import Derived.Test.YtehakfbfjpolfaaDoorRv10
import Derived.Test.YtehakfbfjpolfaaDoorRv11
import Derived.Test.YtehakfbfjpolfaaDoorRv12
set_option maxRecDepth 100000
set_option linter.all false
namespace Go.Proofs.YtehakfbfjpolfaaDoor
open Go Vw
theorem iF_at {l : List Int} {i : Nat} (h : i < l.length) : (l.flatMap iF)[i]? = some (.int .i64 l[i]) := by
  have h1 := flatMap_get (f := iF) (sz := 1) (fun _ => rfl) l i 0 h (by decide)
  rw [Nat.mul_one, Nat.add_zero] at h1
  rw [h1]; rfl
theorem puts_len : ∀ (l : List Int) (d : List UInt8 × Int), (puts l d).1.length ≤ d.1.length + 4 * l.length
  | [], d => by show d.1.length ≤ _; omega
  | v :: l, d => by
    have h1 := puts_len l (numB d.1 512 d.2 v 4)
    have h2 := numB_len d.1 512 d.2 v 4
    show (puts l (numB d.1 512 d.2 v 4)).1.length ≤ _
    rw [List.length_cons]; omega
theorem hc_num (s : Sl) : numB (hdS s) 512 0 ((crcU 0 (hdS s) : Nat) : Int) 4 = (hcS s, 0) := by
  have h := crcU_lt (s := 0) (by decide) (hdS s)
  unfold numB
  rw [if_neg (by simp), if_neg (by omega), if_neg (by rw [hdS_len]; decide), Int.toNat_natCast]
  rfl
theorem sec_spl (s : Sl) : secS s = spl (List.replicate 512 (0 : UInt8)) 0 ((hcS s).take (min (hcS s).length 512)) := by
  have h1 : (hcS s).take (min (hcS s).length 512) = hcS s := List.take_of_length_le (by rw [hcS_len]; decide)
  unfold spl secS
  rw [h1, hcS_len, List.drop_replicate]
  rfl
theorem enc_no {s : Sl} (h : slOk s = false) : encE s = 1 ∧ encV s = [] := by unfold encE encV; rw [h]; exact ⟨rfl, rfl⟩
theorem enc_ok {s : Sl} (h : slOk s = true) : encE s = 0 ∧ encV s = secS s := by unfold encE encV; rw [h]; exact ⟨rfl, rfl⟩
theorem no_st {s : Sl} (h : ¬ (2 ≤ s.1 ∧ s.1 ≤ 4)) : slOk s = false := by
  cases e : slOk s with
  | false => rfl
  | true => exact absurd (slOk_st e) h
theorem hd_app (s : Sl) : ((((((MAG ++ leB 4 s.1.toNat) ++ leB 4 s.2.1.toNat) ++ leB 4 s.2.2.1.toNat) ++ leB 4 s.2.2.2.1.toNat) ++ leB 4 s.2.2.2.2.1.toNat) ++ leB 4 s.2.2.2.2.2.1.toNat) ++ leB 4 ((s.2.2.2.2.2.2 : Nat) : Int).toNat = hdS s := by
  simp [hdS, fb, fldL]
theorem slOk_in {s : Sl} (h : slOk s = true) : (0 ≤ s.2.1 ∧ s.2.1 ≤ 4294967295) ∧ (0 ≤ s.2.2.1 ∧ s.2.2.1 ≤ 4294967295) ∧ (0 ≤ s.2.2.2.1 ∧ s.2.2.2.1 ≤ 4294967295) ∧ (0 ≤ s.2.2.2.2.1 ∧ s.2.2.2.2.1 ≤ 4294967295) ∧ (0 ≤ s.2.2.2.2.2.1 ∧ s.2.2.2.2.2.1 ≤ 4294967295) := by
  unfold slOk inF at h
  simp only [Bool.and_eq_true, decide_eq_true_eq] at h
  exact ⟨h.1.1.1.1.2, h.1.1.1.2, h.1.1.2, h.1.2, h.2⟩
theorem encode_spec (w0 : World) (hT : Tab 0 (hp w0)) (s : Sl) (hsu : s.2.2.2.2.2.2 < 4294967296) : Calls Tryd.prog 10 #[.agg (slF s).toArray] w0 fun e w' => ∃ a c, e = .returned (.tuple #[.slice a (encV s).length c, .int .i64 (encE s)]) ∧ St ⟨w0, None_⟩ w' [slB 5 (.slice a (encV s).length c) (encV s)] := by
  have hs := St.start w0 None_
  refine c_enter (N := 59) Tryd.func10 rfl Tryd.ntmps10 (by simp) ?_
  intro a hf
  refine wp_seq ?_
  refine wp_region_lit ?_
  refine s_do hf rfl (y_box hs (hf.eval rfl) ?_); clear hf hs a; intro bx w hs a hf
  replace hs : St _ w (cb bx 24 (slF s) :: _) := hs
  refine s_a hf rfl ?_; clear hf a; intro a hf
  refine s_a hf rfl ?_; clear hf a; intro a hf
  refine s_nil ?_
  refine then_n ?_
  refine wp_seq ?_
  refine wp_seq ?_
  refine wp_region_lit ?_
  refine s_v hf (x_fieldAddr fo24_0 (hf.eval rfl)) ?_; clear hf a; intro a hf
  refine s_r hf (x_load sc3 (hf.eval rfl) (by first | exact hs.cell .k0 rfl | exact hs.cell .k1 rfl | exact hs.cell .k2 rfl | exact hs.cell .k3 rfl | exact hs.cell .k4 rfl | exact hs.cell .k5 rfl)) ?_; clear hf a; intro a hf
  refine s_v hf (x_bin (hf.eval rfl) (hf.eval rfl) (r_lt _ _ _ _)) ?_; clear hf a; intro a hf
  refine s_m hf rfl ?_; clear hf a; intro a hf
  refine s_bool hf (k := 11) rfl (fun hg1_3 hf' => ?_) (fun hg1_3 hf' => ?_)
  · clear hf
    have hf := hf'
    clear hf'
    first | simp only [decide_eq_true_eq, decide_eq_false_iff_not, Bool.not_eq_true', Bool.not_eq_false'] at hg1_3 | skip
    refine s_pass hf rfl rfl ?_; clear hf a; intro a hf
    refine s_pass hf rfl rfl ?_; clear hf a; intro a hf
    refine s_pass hf rfl rfl ?_; clear hf a; intro a hf
    refine s_v hf (x_pick_t (hf.eval rfl) (hf.eval rfl)) ?_; clear hf a; intro a hf
    refine s_nil ?_
    refine then_n ?_
    refine c_cond_t hf rfl rfl ?_
    refine wp_seq ?_
    refine wp_region_lit ?_
    refine s_a hf rfl ?_; clear hf a; intro a hf
    refine s_a hf rfl ?_; clear hf a; intro a hf
    refine s_nil ?_
    refine then_n ?_
    refine wp_ret ?_
    refine then_r ?_
    refine r_2 hf Tryd.results10 rfl rfl ?_
    obtain ⟨hE, hV⟩ := enc_no (no_st (s := s) (by omega))
    rw [hE, hV]
    exact ⟨none, 0, rfl, (St.keep [] _ hs).emp (slB_nil _)⟩
  · clear hf
    have hf := hf'
    clear hf'
    first | simp only [decide_eq_true_eq, decide_eq_false_iff_not, Bool.not_eq_true', Bool.not_eq_false'] at hg1_3 | skip
    refine s_do hf (wanted_of hf rfl rfl rfl) (.value (x_fieldAddr fo24_0 (hf.eval rfl) _) ?_); clear hf a; intro a hf
    refine s_do hf (wanted_of hf rfl rfl rfl) (.value (x_load sc3 (hf.eval rfl) (by first | exact hs.cell .k0 rfl | exact hs.cell .k1 rfl | exact hs.cell .k2 rfl | exact hs.cell .k3 rfl | exact hs.cell .k4 rfl | exact hs.cell .k5 rfl)) ?_); clear hf a; intro a hf
    refine s_do hf (wanted_of hf rfl rfl rfl) (.value (x_bin (hf.eval rfl) (hf.eval rfl) (r_gt _ _ _ _) _) ?_); clear hf a; intro a hf
    refine s_v hf (x_pick_f (hf.eval rfl) (hf.eval rfl)) ?_; clear hf a; intro a hf
    refine s_nil ?_
    refine then_n ?_
    refine c_cond hf rfl (fun hi0 => ?_) (fun hi0 => ?_)
    · first | simp only [decide_eq_true_eq, decide_eq_false_iff_not, Bool.not_eq_true', Bool.not_eq_false'] at hi0 | skip
      refine wp_seq ?_
      refine wp_region_lit ?_
      refine s_a hf rfl ?_; clear hf a; intro a hf
      refine s_a hf rfl ?_; clear hf a; intro a hf
      refine s_nil ?_
      refine then_n ?_
      refine wp_ret ?_
      refine then_r ?_
      refine r_2 hf Tryd.results10 rfl rfl ?_
      obtain ⟨hE, hV⟩ := enc_no (no_st (s := s) (by omega))
      rw [hE, hV]
      exact ⟨none, 0, rfl, (St.keep [] _ hs).emp (slB_nil _)⟩
    · first | simp only [decide_eq_true_eq, decide_eq_false_iff_not, Bool.not_eq_true', Bool.not_eq_false'] at hi0 | skip
      refine wp_skip ?_
      refine then_n ?_
      refine wp_seq ?_
      refine wp_region_lit ?_
      refine s_do hf rfl (y_call (hf.eval rfl) (hf.evals rfl) Tryd.call38 ((newBuf_spec _ 512).mono ?_))
      rintro e w1 ⟨p, rfl, hj⟩
      replace hs := hs.join hj
      simp only [List.cons_append, List.nil_append] at hs
      rw [if_neg (show ¬ ((512 : Int) < 0) by decide)] at hs
      refine ⟨_, rfl, ?_⟩; clear hf a; intro a hf
      refine s_a hf rfl ?_; clear hf a; intro a hf
      refine s_nil ?_
      refine then_n ?_
      refine wp_seq ?_
      refine wp_region_lit ?_
      refine s_m hf rfl ?_; clear hf a; intro a hf
      replace hs := hs.take (A := bufA 115 5 p [] 512 0) (by first | exact .k0 | exact .k1 | exact .k2 | exact .k3 | exact .k4 | exact .k5 | exact .k6 | exact .k7 | exact .k8 | exact .k9 | exact .k10 | exact .k11)
      refine s_do hf rfl (y_call (hf.eval rfl) (hf.evals rfl) Tryd.call39 ((bText_spec _ _ _ p [] 512 0 hs (fun _ => by decide) (by decide) (by simp) MAG (by decide)).mono ?_))
      rintro e w1 ⟨rfl, hs⟩
      rw [show txtB [] 512 0 MAG = (MAG, 0) by unfold txtB; rw [if_neg (by simp), if_neg (by decide)]; rfl] at hs
      refine ⟨_, rfl, ?_⟩; clear hf a; intro a hf
      refine s_nil ?_
      refine then_n ?_
      refine wp_seq ?_
      refine wp_seq ?_
      refine wp_region_lit ?_
      refine s_v hf (x_fieldAddr fo24_0 (hf.eval rfl)) ?_; clear hf a; intro a hf
      refine s_r hf (x_load sc3 (hf.eval rfl) (by first | exact hs.cell .k0 rfl | exact hs.cell .k1 rfl | exact hs.cell .k2 rfl | exact hs.cell .k3 rfl | exact hs.cell .k4 rfl | exact hs.cell .k5 rfl)) ?_; clear hf a; intro a hf
      refine s_v hf (x_fieldAddr fo24_1 (hf.eval rfl)) ?_; clear hf a; intro a hf
      refine s_r hf (x_load sc3 (hf.eval rfl) (by first | exact hs.cell .k0 rfl | exact hs.cell .k1 rfl | exact hs.cell .k2 rfl | exact hs.cell .k3 rfl | exact hs.cell .k4 rfl | exact hs.cell .k5 rfl)) ?_; clear hf a; intro a hf
      refine s_v hf (x_fieldAddr fo24_2 (hf.eval rfl)) ?_; clear hf a; intro a hf
      refine s_r hf (x_load sc3 (hf.eval rfl) (by first | exact hs.cell .k0 rfl | exact hs.cell .k1 rfl | exact hs.cell .k2 rfl | exact hs.cell .k3 rfl | exact hs.cell .k4 rfl | exact hs.cell .k5 rfl)) ?_; clear hf a; intro a hf
      refine s_v hf (x_fieldAddr fo24_3 (hf.eval rfl)) ?_; clear hf a; intro a hf
      refine s_r hf (x_load sc3 (hf.eval rfl) (by first | exact hs.cell .k0 rfl | exact hs.cell .k1 rfl | exact hs.cell .k2 rfl | exact hs.cell .k3 rfl | exact hs.cell .k4 rfl | exact hs.cell .k5 rfl)) ?_; clear hf a; intro a hf
      refine s_v hf (x_fieldAddr fo24_4 (hf.eval rfl)) ?_; clear hf a; intro a hf
      refine s_r hf (x_load sc3 (hf.eval rfl) (by first | exact hs.cell .k0 rfl | exact hs.cell .k1 rfl | exact hs.cell .k2 rfl | exact hs.cell .k3 rfl | exact hs.cell .k4 rfl | exact hs.cell .k5 rfl)) ?_; clear hf a; intro a hf
      refine s_v hf (x_fieldAddr fo24_5 (hf.eval rfl)) ?_; clear hf a; intro a hf
      refine s_r hf (x_load sc3 (hf.eval rfl) (by first | exact hs.cell .k0 rfl | exact hs.cell .k1 rfl | exact hs.cell .k2 rfl | exact hs.cell .k3 rfl | exact hs.cell .k4 rfl | exact hs.cell .k5 rfl)) ?_; clear hf a; intro a hf
      refine s_v hf (x_fieldAddr fo24_6 (hf.eval rfl)) ?_; clear hf a; intro a hf
      refine s_r hf (x_load sc22 (hf.eval rfl) (by first | exact hs.cell .k0 rfl | exact hs.cell .k1 rfl | exact hs.cell .k2 rfl | exact hs.cell .k3 rfl | exact hs.cell .k4 rfl | exact hs.cell .k5 rfl)) ?_; clear hf a; intro a hf
      refine s_v hf (x_conv Tryd.underlying22 Tryd.underlying3 (hf.eval rfl)) ?_; clear hf a; intro a hf
      replace hf := hf.now (k := 33) (v' := .int .i64 ((s.2.2.2.2.2.2 : Nat) : Int)) rfl (by rw [wrap_i64 (by omega) (by omega)])
      refine s_do hf rfl (y_lit (xs := [.tmp 20, .tmp 22, .tmp 24, .tmp 26, .tmp 28, .tmp 30, .tmp 33]) hs sl67 (hf.evals rfl) rfl (by simp [Value.cells]) (by decide) ?_); clear hf hs a; intro b9 w hs a hf
      replace hs := hs.ofCb (sz := 1) (n := 7) rfl (by rw [maxLen_eq]; omega)
      replace hs : St _ _ (sl 3 1 (.slice (some ⟨b9, 0, none⟩) 7 7) 7 ((fldL s).flatMap iF) :: _) := hs
      replace hs := hs.take (A := bufA 115 5 p MAG 512 0) (by first | exact .k0 | exact .k1 | exact .k2 | exact .k3 | exact .k4 | exact .k5 | exact .k6 | exact .k7 | exact .k8 | exact .k9 | exact .k10 | exact .k11)
      refine s_v hf (x_len Tryd.underlying67 (hf.eval rfl)) ?_; clear hf a; intro a hf
      refine s_m hf rfl ?_; clear hf a; intro a hf
      refine s_nil ?_
      refine then_n ?_
      refine wp_block ?_
      refine c_loop (L0 := [(2, _), (3, _), (4, _), (34, _), (35, _)]) (fun M w m => ∃ i : Nat, M = [(36, .int .i64 (i : Int))] ∧ 7 - i = m ∧ i ≤ 7 ∧ St ⟨w0, None_⟩ w [bufA 115 5 p (puts ((fldL s).take i) (MAG, 0)).1 512 (puts ((fldL s).take i) (MAG, 0)).2, sl 3 1 (.slice (some ⟨b9, 0, none⟩) 7 7) 7 ((fldL s).flatMap iF), cb bx 24 (slF s)]) (M0 := _) (⟨0, rfl, rfl, Nat.zero_le _, hs⟩) (hf.sub ⟨rfl, rfl, rfl, rfl, rfl, rfl, trivial⟩) ?_
      clear hf hs a
      rintro M m a w ⟨i, rfl, rfl, hi, hs⟩ hf
      refine wp_seq ?_
      refine wp_region_lit ?_
      refine s_v hf (x_bin (hf.eval rfl) (hf.eval rfl) (r_lt _ _ _ _)) ?_; clear hf a; intro a hf
      refine s_nil ?_
      refine then_n ?_
      refine wp_seq ?_
      refine c_cond hf rfl (fun hi1 => ?_) (fun hi1 => ?_)
      · simp only [decide_eq_true_eq, decide_eq_false_iff_not, Bool.not_eq_true', Bool.not_eq_false', Bool.not_eq_true, Int.not_lt, Int.not_le] at hi1
        have hlt : i < (fldL s).length := by show i < 7; omega
        have hpl := puts_len ((fldL s).take i) (MAG, 0)
        rw [List.length_take] at hpl
        have hmg : MAG.length = 8 := rfl
        have hps := puts_succ hlt (MAG, 0)
        generalize (puts ((fldL s).take i) (MAG, 0)) = D at hs hpl hps
        refine wp_skip ?_
        refine then_n ?_
        refine wp_seq ?_
        refine wp_block ?_
        refine wp_seq ?_
        refine wp_region_lit ?_
        refine s_v hf (x_indexAddr sl67 (hf.eval rfl) (hf.eval rfl) (by omega) (by omega)) ?_; clear hf a; intro a hf
        refine s_r hf (x_loadC (i := (i : Int)) hs sc3 .k1 (hf.eval rfl) (by rw [Int.toNat_natCast]; exact iF_at hlt)) ?_; clear hf a; intro a hf
        replace hf := hf.now (k := 39) (v' := .int .i64 (fldL s)[i]) rfl (rfl)
        refine s_a hf rfl ?_; clear hf a; intro a hf
        refine s_nil ?_
        refine then_n ?_
        refine wp_region_lit ?_
        refine s_m hf rfl ?_; clear hf a; intro a hf
        refine s_m hf rfl ?_; clear hf a; intro a hf
        refine s_do hf rfl (y_call (hf.eval rfl) (hf.evals rfl) Tryd.call40 ((bU32_spec _ _ _ p D.1 512 D.2 hs (fun _ => by decide) (by decide) (by simp only [] at hpl; omega) (fldL s)[i]).mono ?_))
        rintro e w1 ⟨rfl, hs⟩
        rw [← hps] at hs
        refine ⟨_, rfl, ?_⟩; clear hf a; intro a hf
        refine s_nil ?_
        refine blk_n ?_
        refine then_n ?_
        refine wp_region_lit ?_
        refine s_v hf (x_bin (hf.eval rfl) (hf.eval rfl) (r_addi _ (by omega) (by omega))) ?_; clear hf a; intro a hf
        refine s_m hf rfl ?_; clear hf a; intro a hf
        refine s_nil ?_
        exact ⟨_, _, ⟨i + 1, rfl, rfl, by omega, hs⟩, by omega, hf.sub ⟨rfl, rfl, rfl, rfl, rfl, rfl, trivial⟩⟩
      · simp only [decide_eq_true_eq, decide_eq_false_iff_not, Bool.not_eq_true', Bool.not_eq_false', Bool.not_eq_true, Int.not_lt, Int.not_le] at hi1
        obtain rfl : i = 7 := by omega
        rw [show (fldL s).take 7 = fldL s from rfl] at hs
        have hdl := puts_len (fldL s) (MAG, 0)
        have hfl : (fldL s).length = 7 := rfl
        have hmg : MAG.length = 8 := rfl
        obtain ⟨d, b, hdb⟩ : ∃ d b, puts (fldL s) (MAG, 0) = (d, b) := ⟨_, _, rfl⟩
        rw [hdb] at hs hdl
        simp only [] at hs hdl
        refine wp_exit ?_
        refine then_x ?_
        refine then_x ?_
        refine blk_x ?_
        refine then_n ?_
        refine wp_seq ?_
        refine wp_seq ?_
        refine wp_region_lit ?_
        refine s_m hf rfl ?_; clear hf a; intro a hf
        refine s_do hf rfl (y_call (hf.eval rfl) (hf.evals rfl) Tryd.call41 ((bErr_spec _ _ _ p d 512 b hs (fun _ => by decide) (by decide) (by omega)).mono ?_))
        rintro e w1 ⟨rfl, hs⟩
        refine ⟨_, rfl, ?_⟩; clear hf a; intro a hf
        refine s_v hf (x_bin (hf.eval rfl) (hf.eval rfl) (r_ne _ _ _ _)) ?_; clear hf a; intro a hf
        refine s_nil ?_
        refine then_n ?_
        refine c_cond hf rfl (fun hi2 => ?_) (fun hi2 => ?_)
        · first | simp only [decide_eq_true_eq, decide_eq_false_iff_not, Bool.not_eq_true', Bool.not_eq_false', ne_eq, Classical.not_not] at hi2 | skip
          refine wp_seq ?_
          refine wp_region_lit ?_
          refine s_a hf rfl ?_; clear hf a; intro a hf
          refine s_a hf rfl ?_; clear hf a; intro a hf
          refine s_nil ?_
          refine then_n ?_
          refine wp_ret ?_
          refine then_r ?_
          refine r_2 hf Tryd.results10 rfl rfl ?_
          obtain ⟨hE, hV⟩ := enc_no (by cases e9 : slOk s with | false => rfl | true => exact absurd (congrArg Prod.snd (hdb.symm.trans (puts_ok (fldL s) MAG ((slOk_flds hsu (by omega) (by omega)).1 e9) (by show 8 + 4 * 7 ≤ 512; omega)))) hi2)
          rw [hE, hV]
          exact ⟨none, 0, rfl, (St.keep [] _ hs).emp (slB_nil _)⟩
        · first | simp only [decide_eq_true_eq, decide_eq_false_iff_not, Bool.not_eq_true', Bool.not_eq_false', ne_eq, Classical.not_not] at hi2 | skip
          obtain rfl : b = 0 := by omega
          have hall := puts_good (fldL s) MAG (by show 8 + 4 * 7 ≤ 512; omega) (by rw [hdb])
          have hok : slOk s = true := (slOk_flds hsu (by omega) (by omega)).2 hall
          have hd9 := puts_ok (fldL s) MAG hall (by show 8 + 4 * 7 ≤ 512; omega)
          rw [hdb] at hd9
          obtain rfl : d = hdS s := congrArg Prod.fst hd9
          obtain ⟨hE, hV⟩ := enc_ok hok
          have hhl := hdS_len s
          have hcl := hcS_len s
          refine wp_skip ?_
          refine then_n ?_
          refine wp_seq ?_
          refine wp_region_lit ?_
          refine s_m hf rfl ?_; clear hf a; intro a hf
          refine s_m hf rfl ?_; clear hf a; intro a hf
          replace hs := hs.take (A := bufA 115 5 p (hdS s) 512 0) (by first | exact .k0 | exact .k1 | exact .k2 | exact .k3 | exact .k4 | exact .k5 | exact .k6 | exact .k7 | exact .k8 | exact .k9 | exact .k10 | exact .k11)
          refine s_do hf rfl (y_call (hf.eval rfl) (hf.evals rfl) Tryd.call43 ((bTake_spec _ _ _ p (hdS s) 512 0 hs (fun _ => by decide) (by decide) (by omega)).mono ?_))
          rintro e w1 ⟨g1, fg1, rfl, hs⟩
          rw [show takeB (hdS s) 0 = hdS s by unfold takeB; rw [if_neg (by simp)]] at hs ⊢
          refine ⟨_, rfl, ?_⟩; clear hf a; intro a hf
          refine s_do hf rfl (y_call (hf.eval rfl) (hf.evals rfl) Tryd.call42 ((sum_spec _ (hT.kept hs.kept) _ _ (hdS s) (hs.rdB .k0 fun h => slB_rd) (by omega)).mono ?_))
          rintro e w1 ⟨rfl, hk⟩
          replace hs := hs.ext hk
          refine ⟨_, rfl, ?_⟩; clear hf a; intro a hf
          have hcr := crcU_lt (s := 0) (by decide) (hdS s)
          refine s_v hf (x_conv Tryd.underlying22 Tryd.underlying3 (hf.eval rfl)) ?_; clear hf a; intro a hf
          replace hf := hf.now (k := 51) (v' := .int .i64 ((crcU 0 (hdS s) : Nat) : Int)) rfl (by rw [wrap_i64 (by omega) (by omega)])
          replace hs := hs.take (A := bufA 115 5 p (hdS s) 512 0) (by first | exact .k0 | exact .k1 | exact .k2 | exact .k3 | exact .k4 | exact .k5 | exact .k6 | exact .k7 | exact .k8 | exact .k9 | exact .k10 | exact .k11)
          refine s_do hf rfl (y_call (hf.eval rfl) (hf.evals rfl) Tryd.call40 ((bU32_spec _ _ _ p (hdS s) 512 0 hs (fun _ => by decide) (by decide) (by omega) ((crcU 0 (hdS s) : Nat) : Int)).mono ?_))
          rintro e w1 ⟨rfl, hs⟩
          rw [hc_num] at hs
          simp only [] at hs
          refine ⟨_, rfl, ?_⟩; clear hf a; intro a hf
          refine s_nil ?_
          refine then_n ?_
          refine wp_seq ?_
          refine wp_region_lit ?_
          refine s_do hf rfl (y_makeB (m := 512) (c := 512) hs sl25 (hf.eval rfl) (hf.eval rfl) rfl rfl (by omega) (by omega) ?_); clear hf hs a; intro b w hs a hf
          refine s_a hf rfl ?_; clear hf a; intro a hf
          refine s_nil ?_
          refine then_n ?_
          refine wp_seq ?_
          refine wp_region_lit ?_
          refine s_m hf rfl ?_; clear hf a; intro a hf
          refine s_m hf rfl ?_; clear hf a; intro a hf
          replace hs := hs.take (A := bufA 115 5 p (hcS s) 512 0) (by first | exact .k0 | exact .k1 | exact .k2 | exact .k3 | exact .k4 | exact .k5 | exact .k6 | exact .k7 | exact .k8 | exact .k9 | exact .k10 | exact .k11)
          refine s_do hf rfl (y_call (hf.eval rfl) (hf.evals rfl) Tryd.call43 ((bTake_spec _ _ _ p (hcS s) 512 0 hs (fun _ => by decide) (by decide) (by omega)).mono ?_))
          rintro e w1 ⟨g2, fg2, rfl, hs⟩
          rw [show takeB (hcS s) 0 = hcS s by unfold takeB; rw [if_neg (by simp)]] at hs ⊢
          refine ⟨_, rfl, ?_⟩; clear hf a; intro a hf
          refine s_do hf rfl (y_copyB (o := 0) (cur' := secS s) hs sl25 (hf.eval rfl) (hf.eval rfl) (fun _ => rfl) (hs.rdB .k0 fun h => slB_rd) rfl .k2 (sec_spl s) (by simp) ?_); clear hf hs a; intro w hs a hf
          refine s_nil ?_
          refine then_n ?_
          refine wp_seq ?_
          refine wp_region_lit ?_
          refine s_m hf rfl ?_; clear hf a; intro a hf
          refine s_a hf rfl ?_; clear hf a; intro a hf
          refine s_a hf rfl ?_; clear hf a; intro a hf
          refine s_nil ?_
          refine then_n ?_
          refine wp_ret ?_
          refine r_2 hf Tryd.results10 rfl rfl ?_
          rw [hE, hV]
          replace hs := hs.take (A := bb b 5 (secS s)) (by first | exact .k0 | exact .k1 | exact .k2 | exact .k3 | exact .k4 | exact .k5 | exact .k6 | exact .k7 | exact .k8 | exact .k9 | exact .k10 | exact .k11)
          rw [secS_len]
          exact ⟨_, _, rfl, St.keep [_] _ (St.ofBb hs (secS_len s) (by decide))⟩
theorem inField_spec (w : World) (v : Int) : Calls Tryd.prog 44 #[.int .i64 v] w fun e w' => e = .returned (.bool (inF v)) ∧ w' = w := by
  refine c_enter (N := 9) Tryd.func44 rfl Tryd.ntmps44 (by simp) ?_
  intro a hf
  refine wp_seq ?_
  refine wp_region_lit ?_
  refine s_a hf rfl ?_; clear hf a; intro a hf
  refine s_nil ?_
  refine then_n ?_
  refine wp_seq ?_
  refine wp_region_lit ?_
  refine s_m hf rfl ?_; clear hf a; intro a hf
  refine s_v hf (x_bin (hf.eval rfl) (hf.eval rfl) (r_ge _ _ _ _)) ?_; clear hf a; intro a hf
  refine s_m hf rfl ?_; clear hf a; intro a hf
  refine s_bool hf (k := 5) rfl (fun hg1_2 hf' => ?_) (fun hg1_2 hf' => ?_)
  · clear hf
    have hf := hf'
    clear hf'
    simp only [decide_eq_true_eq, decide_eq_false_iff_not, Bool.not_eq_true', Bool.not_eq_false', Bool.not_eq_true, Int.not_lt, Int.not_le] at hg1_2
    refine s_do hf (wanted_of hf rfl rfl rfl) (.value (x_move (hf.eval rfl) _) ?_); clear hf a; intro a hf
    refine s_do hf (wanted_of hf rfl rfl rfl) (.value (x_bin (hf.eval rfl) (hf.eval rfl) (r_le _ _ _ _) _) ?_); clear hf a; intro a hf
    refine s_v hf (x_pick_t (hf.eval rfl) (hf.eval rfl)) ?_; clear hf a; intro a hf
    refine s_a hf rfl ?_; clear hf a; intro a hf
    refine s_nil ?_
    refine then_n ?_
    refine wp_ret ?_
    refine r_1 hf Tryd.results44 rfl ?_
    exact ⟨by unfold inF; congr 2; simp; omega, rfl⟩
  · clear hf
    have hf := hf'
    clear hf'
    simp only [decide_eq_true_eq, decide_eq_false_iff_not, Bool.not_eq_true', Bool.not_eq_false', Bool.not_eq_true, Int.not_lt, Int.not_le] at hg1_2
    refine s_pass hf rfl rfl ?_; clear hf a; intro a hf
    refine s_pass hf rfl rfl ?_; clear hf a; intro a hf
    refine s_v hf (x_pick_f (hf.eval rfl) (hf.eval rfl)) ?_; clear hf a; intro a hf
    refine s_a hf rfl ?_; clear hf a; intro a hf
    refine s_nil ?_
    refine then_n ?_
    refine wp_ret ?_
    refine r_1 hf Tryd.results44 rfl ?_
    exact ⟨by unfold inF; congr 2; simp; omega, rfl⟩
theorem rnum_spec (σ : Sig) (w : World) (R : List Asrt) (ax : Option Addr) (cx : Nat) (l : List UInt8) (v : Int) (hv0 : 0 ≤ v) (hv1 : v ≤ 9223372036854775807) (hl : l.length ≤ 1048576) (hs : St σ w (slB 5 (.slice ax l.length cx) l :: R)) : Calls Tryd.prog 45 #[.slice ax l.length cx, .int .i64 v] w fun e w' => ∃ a2 c2, e = .returned (.slice a2 (l ++ leB 4 v.toNat).length c2) ∧ St σ w' (slB 5 (.slice a2 (l ++ leB 4 v.toNat).length c2) (l ++ leB 4 v.toNat) :: R) := by
  obtain ⟨V, rfl⟩ := Int.eq_ofNat_of_zero_le hv0
  rw [Int.toNat_natCast]
  refine c_enter (N := 19) Tryd.func45 rfl Tryd.ntmps45 (by simp) ?_
  intro a hf
  refine wp_seq ?_
  refine wp_region_lit ?_
  refine s_a hf rfl ?_; clear hf a; intro a hf
  refine s_nil ?_
  refine then_n ?_
  refine wp_seq ?_
  refine wp_seq ?_
  refine wp_region_lit ?_
  refine s_a hf rfl ?_; clear hf a; intro a hf
  refine s_nil ?_
  refine then_n ?_
  refine wp_block ?_
  refine c_loop (L0 := [(4, _)]) (fun M w m => ∃ (j : Nat) (v0 : Value), M = [(0, v0), (1, .int .i64 ((V / 256 ^ j : Nat) : Int)), (5, .int .i64 (j : Int))] ∧ 4 - j = m ∧ j ≤ 4 ∧ St σ w (slB 5 v0 (l ++ leB j V) :: R)) (M0 := [(0, .slice ax l.length cx), (1, .int .i64 (V : Int)), (5, .int .i64 0)]) (⟨0, _, by rw [Nat.pow_zero, Nat.div_one]; rfl, rfl, Nat.zero_le _, by simpa [leB] using hs⟩) (hf.sub ⟨rfl, rfl, rfl, rfl, trivial⟩) ?_
  clear hf hs a
  rintro M m a w ⟨j, v0, rfl, rfl, hj, hs⟩ hf
  refine wp_seq ?_
  refine wp_seq ?_
  refine wp_region_lit ?_
  refine s_m hf rfl ?_; clear hf a; intro a hf
  refine s_v hf (x_bin (hf.eval rfl) (hf.eval rfl) (r_lt _ _ _ _)) ?_; clear hf a; intro a hf
  refine s_nil ?_
  refine then_n ?_
  refine c_cond hf rfl (fun hi0 => ?_) (fun hi0 => ?_)
  · simp only [decide_eq_true_eq, decide_eq_false_iff_not, Bool.not_eq_true', Bool.not_eq_false', Bool.not_eq_true, Int.not_lt, Int.not_le] at hi0
    have hVj : V / 256 ^ j ≤ V := Nat.div_le_self _ _
    have hv1 : V ≤ 9223372036854775807 := by omega
    refine wp_skip ?_
    refine then_n ?_
    refine wp_seq ?_
    refine wp_block ?_
    refine wp_seq ?_
    refine wp_region_lit ?_
    refine s_m hf rfl ?_; clear hf a; intro a hf
    refine s_m hf rfl ?_; clear hf a; intro a hf
    refine s_v hf (x_bin (hf.eval rfl) (hf.eval rfl) (r_remn _ _ (Int.natCast_nonneg _) (by decide))) ?_; clear hf a; intro a hf
    replace hf := hf.now (k := 12) (v' := .int .i64 ((V / 256 ^ j % 256 : Nat) : Int)) rfl (by congr 1)
    refine s_v hf (x_convr Tryd.underlying3 Tryd.underlying5 (hf.eval rfl) (by rw [u8_of .i64 rfl, Nat.mod_mod] : IntKind.u8.wrap ((V / 256 ^ j % 256 : Nat) : Int) = ((UInt8.ofNat (V / 256 ^ j % 256)).toNat : Int))) ?_; clear hf a; intro a hf
    replace hf := hf.now (k := 13) (v' := u8v (UInt8.ofNat (V / 256 ^ j % 256))) rfl (rfl)
    refine s_do hf rfl (y_lit (xs := [.tmp 13]) hs sl25 (hf.evals rfl) rfl (by simp [Value.cells, u8v]) (by decide) ?_); clear hf hs a; intro b2 w hs a hf
    refine s_do hf rfl (y_appendB (s := [UInt8.ofNat (V / 256 ^ j % 256)]) hs sl25 rfl (hf.eval rfl) (hf.eval rfl) .k1 (hs.rdB .k0 fun h hb => rdB_of_bb (T := 5) (l := [UInt8.ofNat (V / 256 ^ j % 256)]) hb (by simp) (by simp)) (by simp [leB_len]; omega) ?_); clear hf hs a; intro v2 w hs hv a hf
    replace hs := hs.lose .k1
    rw [List.append_assoc, ← leB_succ] at hs
    refine s_a hf rfl ?_; clear hf a; intro a hf
    refine s_nil ?_
    refine then_n ?_
    refine wp_region_lit ?_
    refine s_m hf rfl ?_; clear hf a; intro a hf
    refine s_v hf (x_bin (hf.eval rfl) (hf.eval rfl) (r_quon _ (Int.natCast_nonneg _) (by decide) (by omega))) ?_; clear hf a; intro a hf
    replace hf := hf.now (k := 17) (v' := .int .i64 ((V / 256 ^ (j + 1) : Nat) : Int)) rfl (by rw [Nat.pow_succ, ← Nat.div_div_eq_div_mul]; congr 1)
    refine s_a hf rfl ?_; clear hf a; intro a hf
    refine s_nil ?_
    refine blk_n ?_
    refine then_n ?_
    refine wp_region_lit ?_
    refine s_m hf rfl ?_; clear hf a; intro a hf
    refine s_v hf (x_bin (hf.eval rfl) (hf.eval rfl) (r_addi _ (by omega) (by omega))) ?_; clear hf a; intro a hf
    refine s_a hf rfl ?_; clear hf a; intro a hf
    refine s_nil ?_
    exact ⟨_, _, ⟨j + 1, _, rfl, rfl, by omega, hs⟩, by omega, hf.sub ⟨rfl, rfl, rfl, rfl, trivial⟩⟩
  · simp only [decide_eq_true_eq, decide_eq_false_iff_not, Bool.not_eq_true', Bool.not_eq_false', Bool.not_eq_true, Int.not_lt, Int.not_le] at hi0
    refine wp_exit ?_
    refine then_x ?_
    refine then_x ?_
    refine blk_x ?_
    refine then_n ?_
    refine wp_seq ?_
    refine wp_region_lit ?_
    refine s_m hf rfl ?_; clear hf a; intro a hf
    refine s_a hf rfl ?_; clear hf a; intro a hf
    refine s_nil ?_
    refine then_n ?_
    refine wp_ret ?_
    refine r_1 hf Tryd.results45 rfl ?_
    obtain rfl : j = 4 := by omega
    obtain ⟨a2, c2, rfl, hc2⟩ := slB_shape hs
    exact ⟨_, _, rfl, hs⟩
theorem rencode_spec (w0 : World) (s : Sl) (hsu : s.2.2.2.2.2.2 < 4294967296) : Calls Tryd.prog 11 #[.agg (slF s).toArray] w0 fun e w' => ∃ a c, e = .returned (.tuple #[.slice a (encV s).length c, .int .i64 (encE s)]) ∧ St ⟨w0, None_⟩ w' [slB 5 (.slice a (encV s).length c) (encV s)] := by
  have hs := St.start w0 None_
  refine c_enter (N := 92) Tryd.func11 rfl Tryd.ntmps11 (by simp) ?_
  intro a hf
  refine wp_seq ?_
  refine wp_region_lit ?_
  refine s_do hf rfl (y_box hs (hf.eval rfl) ?_); clear hf hs a; intro bx w hs a hf
  replace hs : St _ w (cb bx 24 (slF s) :: _) := hs
  refine s_a hf rfl ?_; clear hf a; intro a hf
  refine s_a hf rfl ?_; clear hf a; intro a hf
  refine s_nil ?_
  refine then_n ?_
  refine wp_seq ?_
  refine wp_seq ?_
  refine wp_region_lit ?_
  refine s_v hf (x_fieldAddr fo24_0 (hf.eval rfl)) ?_; clear hf a; intro a hf
  refine s_r hf (x_load sc3 (hf.eval rfl) (by first | exact hs.cell .k0 rfl | exact hs.cell .k1 rfl | exact hs.cell .k2 rfl | exact hs.cell .k3 rfl | exact hs.cell .k4 rfl | exact hs.cell .k5 rfl)) ?_; clear hf a; intro a hf
  refine s_v hf (x_bin (hf.eval rfl) (hf.eval rfl) (r_lt _ _ _ _)) ?_; clear hf a; intro a hf
  refine s_m hf rfl ?_; clear hf a; intro a hf
  refine s_bool hf (k := 9) rfl (fun hg1_3 hf' => ?_) (fun hg1_3 hf' => ?_)
  · clear hf
    have hf := hf'
    clear hf'
    first | simp only [decide_eq_true_eq, decide_eq_false_iff_not, Bool.not_eq_true', Bool.not_eq_false'] at hg1_3 | skip
    refine s_pass hf rfl rfl ?_; clear hf a; intro a hf
    refine s_pass hf rfl rfl ?_; clear hf a; intro a hf
    refine s_pass hf rfl rfl ?_; clear hf a; intro a hf
    refine s_v hf (x_pick_t (hf.eval rfl) (hf.eval rfl)) ?_; clear hf a; intro a hf
    refine s_nil ?_
    refine then_n ?_
    refine c_cond_t hf rfl rfl ?_
    refine wp_seq ?_
    refine wp_region_lit ?_
    refine s_a hf rfl ?_; clear hf a; intro a hf
    refine s_a hf rfl ?_; clear hf a; intro a hf
    refine s_nil ?_
    refine then_n ?_
    refine wp_ret ?_
    refine then_r ?_
    refine r_2 hf Tryd.results11 rfl rfl ?_
    obtain ⟨hE, hV⟩ := enc_no (no_st (s := s) (by omega))
    rw [hE, hV]
    exact ⟨none, 0, rfl, (St.keep [] _ hs).emp (slB_nil _)⟩
  · clear hf
    have hf := hf'
    clear hf'
    first | simp only [decide_eq_true_eq, decide_eq_false_iff_not, Bool.not_eq_true', Bool.not_eq_false'] at hg1_3 | skip
    refine s_do hf (wanted_of hf rfl rfl rfl) (.value (x_fieldAddr fo24_0 (hf.eval rfl) _) ?_); clear hf a; intro a hf
    refine s_do hf (wanted_of hf rfl rfl rfl) (.value (x_load sc3 (hf.eval rfl) (by first | exact hs.cell .k0 rfl | exact hs.cell .k1 rfl | exact hs.cell .k2 rfl | exact hs.cell .k3 rfl | exact hs.cell .k4 rfl | exact hs.cell .k5 rfl)) ?_); clear hf a; intro a hf
    refine s_do hf (wanted_of hf rfl rfl rfl) (.value (x_bin (hf.eval rfl) (hf.eval rfl) (r_gt _ _ _ _) _) ?_); clear hf a; intro a hf
    refine s_v hf (x_pick_f (hf.eval rfl) (hf.eval rfl)) ?_; clear hf a; intro a hf
    refine s_nil ?_
    refine then_n ?_
    refine c_cond hf rfl (fun hi0 => ?_) (fun hi0 => ?_)
    · first | simp only [decide_eq_true_eq, decide_eq_false_iff_not, Bool.not_eq_true', Bool.not_eq_false'] at hi0 | skip
      refine wp_seq ?_
      refine wp_region_lit ?_
      refine s_a hf rfl ?_; clear hf a; intro a hf
      refine s_a hf rfl ?_; clear hf a; intro a hf
      refine s_nil ?_
      refine then_n ?_
      refine wp_ret ?_
      refine then_r ?_
      refine r_2 hf Tryd.results11 rfl rfl ?_
      obtain ⟨hE, hV⟩ := enc_no (no_st (s := s) (by omega))
      rw [hE, hV]
      exact ⟨none, 0, rfl, (St.keep [] _ hs).emp (slB_nil _)⟩
    · first | simp only [decide_eq_true_eq, decide_eq_false_iff_not, Bool.not_eq_true', Bool.not_eq_false'] at hi0 | skip
      refine wp_skip ?_
      refine then_n ?_
      refine wp_seq ?_
      refine wp_seq ?_
      refine wp_region_lit ?_
      refine s_v hf (x_fieldAddr fo24_1 (hf.eval rfl)) ?_; clear hf a; intro a hf
      refine s_r hf (x_load sc3 (hf.eval rfl) (by first | exact hs.cell .k0 rfl | exact hs.cell .k1 rfl | exact hs.cell .k2 rfl | exact hs.cell .k3 rfl | exact hs.cell .k4 rfl | exact hs.cell .k5 rfl)) ?_; clear hf a; intro a hf
      refine s_do hf rfl (y_call (hf.eval rfl) (hf.evals rfl) Tryd.call44 ((inField_spec _ _).mono ?_))
      rintro e w1 ⟨rfl, hw9⟩
      rw [hw9]
      clear hw9 w1
      refine ⟨_, rfl, ?_⟩; clear hf a; intro a hf
      refine s_v hf (x_not (hf.eval rfl)) ?_; clear hf a; intro a hf
      refine s_m hf rfl ?_; clear hf a; intro a hf
      refine s_bool hf (k := 18) rfl (fun hg3_4 hf' => ?_) (fun hg3_4 hf' => ?_)
      · clear hf
        have hf := hf'
        clear hf'
        first | simp only [decide_eq_true_eq, decide_eq_false_iff_not, Bool.not_eq_true', Bool.not_eq_false'] at hg3_4 | skip
        refine s_pass hf rfl rfl ?_; clear hf a; intro a hf
        refine s_pass hf rfl rfl ?_; clear hf a; intro a hf
        refine s_pass hf rfl rfl ?_; clear hf a; intro a hf
        refine s_pass hf rfl rfl ?_; clear hf a; intro a hf
        refine s_v hf (x_pick_t (hf.eval rfl) (hf.eval rfl)) ?_; clear hf a; intro a hf
        refine s_m hf rfl ?_; clear hf a; intro a hf
        refine s_pass hf rfl rfl ?_; clear hf a; intro a hf
        refine s_pass hf rfl rfl ?_; clear hf a; intro a hf
        refine s_pass hf rfl rfl ?_; clear hf a; intro a hf
        refine s_pass hf rfl rfl ?_; clear hf a; intro a hf
        refine s_v hf (x_pick_t (hf.eval rfl) (hf.eval rfl)) ?_; clear hf a; intro a hf
        refine s_m hf rfl ?_; clear hf a; intro a hf
        refine s_pass hf rfl rfl ?_; clear hf a; intro a hf
        refine s_pass hf rfl rfl ?_; clear hf a; intro a hf
        refine s_pass hf rfl rfl ?_; clear hf a; intro a hf
        refine s_pass hf rfl rfl ?_; clear hf a; intro a hf
        refine s_v hf (x_pick_t (hf.eval rfl) (hf.eval rfl)) ?_; clear hf a; intro a hf
        refine s_m hf rfl ?_; clear hf a; intro a hf
        refine s_pass hf rfl rfl ?_; clear hf a; intro a hf
        refine s_pass hf rfl rfl ?_; clear hf a; intro a hf
        refine s_pass hf rfl rfl ?_; clear hf a; intro a hf
        refine s_pass hf rfl rfl ?_; clear hf a; intro a hf
        refine s_v hf (x_pick_t (hf.eval rfl) (hf.eval rfl)) ?_; clear hf a; intro a hf
        refine s_nil ?_
        refine then_n ?_
        refine c_cond_t hf rfl rfl ?_
        refine wp_seq ?_
        refine wp_region_lit ?_
        refine s_a hf rfl ?_; clear hf a; intro a hf
        refine s_a hf rfl ?_; clear hf a; intro a hf
        refine s_nil ?_
        refine then_n ?_
        refine wp_ret ?_
        refine then_r ?_
        refine r_2 hf Tryd.results11 rfl rfl ?_
        obtain ⟨hE, hV⟩ := enc_no (by unfold slOk; first | (rw [hg3_4]; simp; done) | (rw [hg3_10]; simp; done) | (rw [hg3_16]; simp; done) | (rw [hg3_22]; simp; done) | (rw [hi1]; simp; done))
        rw [hE, hV]
        exact ⟨none, 0, rfl, (St.keep [] _ hs).emp (slB_nil _)⟩
      · clear hf
        have hf := hf'
        clear hf'
        first | simp only [decide_eq_true_eq, decide_eq_false_iff_not, Bool.not_eq_true', Bool.not_eq_false'] at hg3_4 | skip
        refine s_do hf (wanted_of hf rfl rfl rfl) (.value (x_fieldAddr fo24_2 (hf.eval rfl) _) ?_); clear hf a; intro a hf
        refine s_do hf (wanted_of hf rfl rfl rfl) (.value (x_load sc3 (hf.eval rfl) (by first | exact hs.cell .k0 rfl | exact hs.cell .k1 rfl | exact hs.cell .k2 rfl | exact hs.cell .k3 rfl | exact hs.cell .k4 rfl | exact hs.cell .k5 rfl)) ?_); clear hf a; intro a hf
        refine s_do hf (wanted_of hf rfl rfl rfl) (y_call (hf.eval rfl) (hf.evals rfl) Tryd.call44 ((inField_spec _ _).mono ?_))
        rintro e w1 ⟨rfl, hw9⟩
        rw [hw9]
        clear hw9 w1
        refine ⟨_, rfl, ?_⟩; clear hf a; intro a hf
        refine s_do hf (wanted_of hf rfl rfl rfl) (.value (x_not (hf.eval rfl) _) ?_); clear hf a; intro a hf
        refine s_v hf (x_pick_f (hf.eval rfl) (hf.eval rfl)) ?_; clear hf a; intro a hf
        refine s_m hf rfl ?_; clear hf a; intro a hf
        refine s_bool hf (k := 24) rfl (fun hg3_10 hf' => ?_) (fun hg3_10 hf' => ?_)
        · clear hf
          have hf := hf'
          clear hf'
          first | simp only [decide_eq_true_eq, decide_eq_false_iff_not, Bool.not_eq_true', Bool.not_eq_false'] at hg3_10 | skip
          refine s_pass hf rfl rfl ?_; clear hf a; intro a hf
          refine s_pass hf rfl rfl ?_; clear hf a; intro a hf
          refine s_pass hf rfl rfl ?_; clear hf a; intro a hf
          refine s_pass hf rfl rfl ?_; clear hf a; intro a hf
          refine s_v hf (x_pick_t (hf.eval rfl) (hf.eval rfl)) ?_; clear hf a; intro a hf
          refine s_m hf rfl ?_; clear hf a; intro a hf
          refine s_pass hf rfl rfl ?_; clear hf a; intro a hf
          refine s_pass hf rfl rfl ?_; clear hf a; intro a hf
          refine s_pass hf rfl rfl ?_; clear hf a; intro a hf
          refine s_pass hf rfl rfl ?_; clear hf a; intro a hf
          refine s_v hf (x_pick_t (hf.eval rfl) (hf.eval rfl)) ?_; clear hf a; intro a hf
          refine s_m hf rfl ?_; clear hf a; intro a hf
          refine s_pass hf rfl rfl ?_; clear hf a; intro a hf
          refine s_pass hf rfl rfl ?_; clear hf a; intro a hf
          refine s_pass hf rfl rfl ?_; clear hf a; intro a hf
          refine s_pass hf rfl rfl ?_; clear hf a; intro a hf
          refine s_v hf (x_pick_t (hf.eval rfl) (hf.eval rfl)) ?_; clear hf a; intro a hf
          refine s_nil ?_
          refine then_n ?_
          refine c_cond_t hf rfl rfl ?_
          refine wp_seq ?_
          refine wp_region_lit ?_
          refine s_a hf rfl ?_; clear hf a; intro a hf
          refine s_a hf rfl ?_; clear hf a; intro a hf
          refine s_nil ?_
          refine then_n ?_
          refine wp_ret ?_
          refine then_r ?_
          refine r_2 hf Tryd.results11 rfl rfl ?_
          obtain ⟨hE, hV⟩ := enc_no (by unfold slOk; first | (rw [hg3_4]; simp; done) | (rw [hg3_10]; simp; done) | (rw [hg3_16]; simp; done) | (rw [hg3_22]; simp; done) | (rw [hi1]; simp; done))
          rw [hE, hV]
          exact ⟨none, 0, rfl, (St.keep [] _ hs).emp (slB_nil _)⟩
        · clear hf
          have hf := hf'
          clear hf'
          first | simp only [decide_eq_true_eq, decide_eq_false_iff_not, Bool.not_eq_true', Bool.not_eq_false'] at hg3_10 | skip
          refine s_do hf (wanted_of hf rfl rfl rfl) (.value (x_fieldAddr fo24_3 (hf.eval rfl) _) ?_); clear hf a; intro a hf
          refine s_do hf (wanted_of hf rfl rfl rfl) (.value (x_load sc3 (hf.eval rfl) (by first | exact hs.cell .k0 rfl | exact hs.cell .k1 rfl | exact hs.cell .k2 rfl | exact hs.cell .k3 rfl | exact hs.cell .k4 rfl | exact hs.cell .k5 rfl)) ?_); clear hf a; intro a hf
          refine s_do hf (wanted_of hf rfl rfl rfl) (y_call (hf.eval rfl) (hf.evals rfl) Tryd.call44 ((inField_spec _ _).mono ?_))
          rintro e w1 ⟨rfl, hw9⟩
          rw [hw9]
          clear hw9 w1
          refine ⟨_, rfl, ?_⟩; clear hf a; intro a hf
          refine s_do hf (wanted_of hf rfl rfl rfl) (.value (x_not (hf.eval rfl) _) ?_); clear hf a; intro a hf
          refine s_v hf (x_pick_f (hf.eval rfl) (hf.eval rfl)) ?_; clear hf a; intro a hf
          refine s_m hf rfl ?_; clear hf a; intro a hf
          refine s_bool hf (k := 30) rfl (fun hg3_16 hf' => ?_) (fun hg3_16 hf' => ?_)
          · clear hf
            have hf := hf'
            clear hf'
            first | simp only [decide_eq_true_eq, decide_eq_false_iff_not, Bool.not_eq_true', Bool.not_eq_false'] at hg3_16 | skip
            refine s_pass hf rfl rfl ?_; clear hf a; intro a hf
            refine s_pass hf rfl rfl ?_; clear hf a; intro a hf
            refine s_pass hf rfl rfl ?_; clear hf a; intro a hf
            refine s_pass hf rfl rfl ?_; clear hf a; intro a hf
            refine s_v hf (x_pick_t (hf.eval rfl) (hf.eval rfl)) ?_; clear hf a; intro a hf
            refine s_m hf rfl ?_; clear hf a; intro a hf
            refine s_pass hf rfl rfl ?_; clear hf a; intro a hf
            refine s_pass hf rfl rfl ?_; clear hf a; intro a hf
            refine s_pass hf rfl rfl ?_; clear hf a; intro a hf
            refine s_pass hf rfl rfl ?_; clear hf a; intro a hf
            refine s_v hf (x_pick_t (hf.eval rfl) (hf.eval rfl)) ?_; clear hf a; intro a hf
            refine s_nil ?_
            refine then_n ?_
            refine c_cond_t hf rfl rfl ?_
            refine wp_seq ?_
            refine wp_region_lit ?_
            refine s_a hf rfl ?_; clear hf a; intro a hf
            refine s_a hf rfl ?_; clear hf a; intro a hf
            refine s_nil ?_
            refine then_n ?_
            refine wp_ret ?_
            refine then_r ?_
            refine r_2 hf Tryd.results11 rfl rfl ?_
            obtain ⟨hE, hV⟩ := enc_no (by unfold slOk; first | (rw [hg3_4]; simp; done) | (rw [hg3_10]; simp; done) | (rw [hg3_16]; simp; done) | (rw [hg3_22]; simp; done) | (rw [hi1]; simp; done))
            rw [hE, hV]
            exact ⟨none, 0, rfl, (St.keep [] _ hs).emp (slB_nil _)⟩
          · clear hf
            have hf := hf'
            clear hf'
            first | simp only [decide_eq_true_eq, decide_eq_false_iff_not, Bool.not_eq_true', Bool.not_eq_false'] at hg3_16 | skip
            refine s_do hf (wanted_of hf rfl rfl rfl) (.value (x_fieldAddr fo24_4 (hf.eval rfl) _) ?_); clear hf a; intro a hf
            refine s_do hf (wanted_of hf rfl rfl rfl) (.value (x_load sc3 (hf.eval rfl) (by first | exact hs.cell .k0 rfl | exact hs.cell .k1 rfl | exact hs.cell .k2 rfl | exact hs.cell .k3 rfl | exact hs.cell .k4 rfl | exact hs.cell .k5 rfl)) ?_); clear hf a; intro a hf
            refine s_do hf (wanted_of hf rfl rfl rfl) (y_call (hf.eval rfl) (hf.evals rfl) Tryd.call44 ((inField_spec _ _).mono ?_))
            rintro e w1 ⟨rfl, hw9⟩
            rw [hw9]
            clear hw9 w1
            refine ⟨_, rfl, ?_⟩; clear hf a; intro a hf
            refine s_do hf (wanted_of hf rfl rfl rfl) (.value (x_not (hf.eval rfl) _) ?_); clear hf a; intro a hf
            refine s_v hf (x_pick_f (hf.eval rfl) (hf.eval rfl)) ?_; clear hf a; intro a hf
            refine s_m hf rfl ?_; clear hf a; intro a hf
            refine s_bool hf (k := 36) rfl (fun hg3_22 hf' => ?_) (fun hg3_22 hf' => ?_)
            · clear hf
              have hf := hf'
              clear hf'
              first | simp only [decide_eq_true_eq, decide_eq_false_iff_not, Bool.not_eq_true', Bool.not_eq_false'] at hg3_22 | skip
              refine s_pass hf rfl rfl ?_; clear hf a; intro a hf
              refine s_pass hf rfl rfl ?_; clear hf a; intro a hf
              refine s_pass hf rfl rfl ?_; clear hf a; intro a hf
              refine s_pass hf rfl rfl ?_; clear hf a; intro a hf
              refine s_v hf (x_pick_t (hf.eval rfl) (hf.eval rfl)) ?_; clear hf a; intro a hf
              refine s_nil ?_
              refine then_n ?_
              refine c_cond_t hf rfl rfl ?_
              refine wp_seq ?_
              refine wp_region_lit ?_
              refine s_a hf rfl ?_; clear hf a; intro a hf
              refine s_a hf rfl ?_; clear hf a; intro a hf
              refine s_nil ?_
              refine then_n ?_
              refine wp_ret ?_
              refine then_r ?_
              refine r_2 hf Tryd.results11 rfl rfl ?_
              obtain ⟨hE, hV⟩ := enc_no (by unfold slOk; first | (rw [hg3_4]; simp; done) | (rw [hg3_10]; simp; done) | (rw [hg3_16]; simp; done) | (rw [hg3_22]; simp; done) | (rw [hi1]; simp; done))
              rw [hE, hV]
              exact ⟨none, 0, rfl, (St.keep [] _ hs).emp (slB_nil _)⟩
            · clear hf
              have hf := hf'
              clear hf'
              first | simp only [decide_eq_true_eq, decide_eq_false_iff_not, Bool.not_eq_true', Bool.not_eq_false'] at hg3_22 | skip
              refine s_do hf (wanted_of hf rfl rfl rfl) (.value (x_fieldAddr fo24_5 (hf.eval rfl) _) ?_); clear hf a; intro a hf
              refine s_do hf (wanted_of hf rfl rfl rfl) (.value (x_load sc3 (hf.eval rfl) (by first | exact hs.cell .k0 rfl | exact hs.cell .k1 rfl | exact hs.cell .k2 rfl | exact hs.cell .k3 rfl | exact hs.cell .k4 rfl | exact hs.cell .k5 rfl)) ?_); clear hf a; intro a hf
              refine s_do hf (wanted_of hf rfl rfl rfl) (y_call (hf.eval rfl) (hf.evals rfl) Tryd.call44 ((inField_spec _ _).mono ?_))
              rintro e w1 ⟨rfl, hw9⟩
              rw [hw9]
              clear hw9 w1
              refine ⟨_, rfl, ?_⟩; clear hf a; intro a hf
              refine s_do hf (wanted_of hf rfl rfl rfl) (.value (x_not (hf.eval rfl) _) ?_); clear hf a; intro a hf
              refine s_v hf (x_pick_f (hf.eval rfl) (hf.eval rfl)) ?_; clear hf a; intro a hf
              refine s_nil ?_
              refine then_n ?_
              refine c_cond hf rfl (fun hi1 => ?_) (fun hi1 => ?_)
              · first | simp only [decide_eq_true_eq, decide_eq_false_iff_not, Bool.not_eq_true', Bool.not_eq_false'] at hi1 | skip
                refine wp_seq ?_
                refine wp_region_lit ?_
                refine s_a hf rfl ?_; clear hf a; intro a hf
                refine s_a hf rfl ?_; clear hf a; intro a hf
                refine s_nil ?_
                refine then_n ?_
                refine wp_ret ?_
                refine then_r ?_
                refine r_2 hf Tryd.results11 rfl rfl ?_
                obtain ⟨hE, hV⟩ := enc_no (by unfold slOk; first | (rw [hg3_4]; simp; done) | (rw [hg3_10]; simp; done) | (rw [hg3_16]; simp; done) | (rw [hg3_22]; simp; done) | (rw [hi1]; simp; done))
                rw [hE, hV]
                exact ⟨none, 0, rfl, (St.keep [] _ hs).emp (slB_nil _)⟩
              · first | simp only [decide_eq_true_eq, decide_eq_false_iff_not, Bool.not_eq_true', Bool.not_eq_false'] at hi1 | skip
                have hok : slOk s = true := by unfold slOk; rw [hg3_4, hg3_10, hg3_16, hg3_22, hi1, decide_eq_true (show 2 ≤ s.1 ∧ s.1 ≤ 4 by omega)]; rfl
                obtain ⟨hn1, hn2, hn3, hn4, hn5⟩ := slOk_in hok
                obtain ⟨hE, hV⟩ := enc_ok hok
                refine wp_skip ?_
                refine then_n ?_
                refine wp_seq ?_
                refine wp_region_lit ?_
                refine s_a hf rfl ?_; clear hf a; intro a hf
                refine s_nil ?_
                refine then_n ?_
                refine wp_seq ?_
                refine wp_seq ?_
                refine wp_region_lit ?_
                refine s_a hf rfl ?_; clear hf a; intro a hf
                refine s_nil ?_
                refine then_n ?_
                refine wp_block ?_
                replace hs := hs.emp (slB_nil 5)
                refine c_loop (L0 := [(1, _), (2, _), (3, _)]) (fun M w m => ∃ (i : Nat) (v0 : Value), M = [(4, v0), (5, .int .i64 (i : Int))] ∧ 8 - i = m ∧ i ≤ 8 ∧ St ⟨w0, None_⟩ w [slB 5 v0 (MAG.take i), cb bx 24 (slF s)]) (M0 := _) (⟨0, _, rfl, rfl, Nat.zero_le _, hs⟩) (hf.sub ⟨rfl, rfl, rfl, rfl, rfl, trivial⟩) ?_
                clear hf hs a
                rintro M m a w ⟨i, v0, rfl, rfl, hi, hs⟩ hf
                refine wp_seq ?_
                refine wp_seq ?_
                refine wp_region_lit ?_
                refine s_m hf rfl ?_; clear hf a; intro a hf
                refine s_v hf (x_bin (hf.eval rfl) (hf.eval rfl) (r_lt _ _ _ _)) ?_; clear hf a; intro a hf
                refine s_nil ?_
                refine then_n ?_
                refine c_cond hf rfl (fun hi2 => ?_) (fun hi2 => ?_)
                · simp only [decide_eq_true_eq, decide_eq_false_iff_not, Bool.not_eq_true', Bool.not_eq_false', Bool.not_eq_true, Int.not_lt, Int.not_le] at hi2
                  have hlt : i < MAG.length := by show i < 8; omega
                  refine wp_skip ?_
                  refine then_n ?_
                  refine wp_seq ?_
                  refine wp_block ?_
                  refine wp_region_lit ?_
                  refine s_m hf rfl ?_; clear hf a; intro a hf
                  refine s_m hf rfl ?_; clear hf a; intro a hf
                  refine s_r hf (x_indexStr (l := MAG) Tryd.underlying9 rfl (hf.eval rfl) hlt _) ?_; clear hf a; intro a hf
                  replace hf := hf.now (k := 48) (v' := u8v MAG[i]) rfl (rfl)
                  refine s_do hf rfl (y_lit (xs := [.tmp 48]) hs sl25 (hf.evals rfl) rfl (by simp [Value.cells, u8v]) (by decide) ?_); clear hf hs a; intro b2 w hs a hf
                  refine s_do hf rfl (y_appendB (s := [MAG[i]]) hs sl25 rfl (hf.eval rfl) (hf.eval rfl) .k1 (hs.rdB .k0 fun h hb => rdB_of_bb (T := 5) (l := [MAG[i]]) hb (by simp) (by simp)) (by simp; omega) ?_); clear hf hs a; intro v2 w hs hv a hf
                  replace hs := hs.lose .k1
                  rw [← List.take_succ_eq_append_getElem hlt] at hs
                  refine s_a hf rfl ?_; clear hf a; intro a hf
                  refine s_nil ?_
                  refine blk_n ?_
                  refine then_n ?_
                  refine wp_region_lit ?_
                  refine s_m hf rfl ?_; clear hf a; intro a hf
                  refine s_v hf (x_bin (hf.eval rfl) (hf.eval rfl) (r_addi _ (by omega) (by omega))) ?_; clear hf a; intro a hf
                  refine s_a hf rfl ?_; clear hf a; intro a hf
                  refine s_nil ?_
                  exact ⟨_, _, ⟨i + 1, _, rfl, rfl, by omega, hs⟩, by omega, hf.sub ⟨rfl, rfl, rfl, rfl, rfl, trivial⟩⟩
                · simp only [decide_eq_true_eq, decide_eq_false_iff_not, Bool.not_eq_true', Bool.not_eq_false', Bool.not_eq_true, Int.not_lt, Int.not_le] at hi2
                  obtain rfl : i = 8 := by omega
                  rw [show MAG.take 8 = MAG from rfl] at hs
                  obtain ⟨a4, ca4, rfl, hc4⟩ := slB_shape hs
                  refine wp_exit ?_
                  refine then_x ?_
                  refine then_x ?_
                  refine blk_x ?_
                  refine then_n ?_
                  refine wp_seq ?_
                  refine wp_region_lit ?_
                  refine s_m hf rfl ?_; clear hf a; intro a hf
                  refine s_v hf (x_fieldAddr fo24_0 (hf.eval rfl)) ?_; clear hf a; intro a hf
                  refine s_r hf (x_load sc3 (hf.eval rfl) (by first | exact hs.cell .k0 rfl | exact hs.cell .k1 rfl | exact hs.cell .k2 rfl | exact hs.cell .k3 rfl | exact hs.cell .k4 rfl | exact hs.cell .k5 rfl)) ?_; clear hf a; intro a hf
                  replace hs := hs.take (A := slB 5 (.slice a4 (MAG).length ca4) (MAG)) (by first | exact .k0 | exact .k1 | exact .k2 | exact .k3 | exact .k4 | exact .k5 | exact .k6 | exact .k7 | exact .k8 | exact .k9 | exact .k10 | exact .k11)
                  refine s_do hf rfl (y_call (hf.eval rfl) (hf.evals rfl) Tryd.call45 ((rnum_spec _ _ _ _ _ (MAG) (s.1) (by omega) (by omega) (by simp [MAG, leB_len, hdS_len]) hs).mono ?_))
                  rintro e w1 ⟨e1, ce1, rfl, hs⟩
                  refine ⟨_, rfl, ?_⟩; clear hf a; intro a hf
                  refine s_a hf rfl ?_; clear hf a; intro a hf
                  refine s_nil ?_
                  refine then_n ?_
                  refine wp_seq ?_
                  refine wp_region_lit ?_
                  refine s_m hf rfl ?_; clear hf a; intro a hf
                  refine s_v hf (x_fieldAddr fo24_1 (hf.eval rfl)) ?_; clear hf a; intro a hf
                  refine s_r hf (x_load sc3 (hf.eval rfl) (by first | exact hs.cell .k0 rfl | exact hs.cell .k1 rfl | exact hs.cell .k2 rfl | exact hs.cell .k3 rfl | exact hs.cell .k4 rfl | exact hs.cell .k5 rfl)) ?_; clear hf a; intro a hf
                  replace hs := hs.take (A := slB 5 (.slice e1 (MAG ++ leB 4 (s.1).toNat).length ce1) (MAG ++ leB 4 (s.1).toNat)) (by first | exact .k0 | exact .k1 | exact .k2 | exact .k3 | exact .k4 | exact .k5 | exact .k6 | exact .k7 | exact .k8 | exact .k9 | exact .k10 | exact .k11)
                  refine s_do hf rfl (y_call (hf.eval rfl) (hf.evals rfl) Tryd.call45 ((rnum_spec _ _ _ _ _ (MAG ++ leB 4 (s.1).toNat) (s.2.1) (by omega) (by omega) (by simp [MAG, leB_len, hdS_len]) hs).mono ?_))
                  rintro e w1 ⟨e2, ce2, rfl, hs⟩
                  refine ⟨_, rfl, ?_⟩; clear hf a; intro a hf
                  refine s_a hf rfl ?_; clear hf a; intro a hf
                  refine s_nil ?_
                  refine then_n ?_
                  refine wp_seq ?_
                  refine wp_region_lit ?_
                  refine s_m hf rfl ?_; clear hf a; intro a hf
                  refine s_v hf (x_fieldAddr fo24_2 (hf.eval rfl)) ?_; clear hf a; intro a hf
                  refine s_r hf (x_load sc3 (hf.eval rfl) (by first | exact hs.cell .k0 rfl | exact hs.cell .k1 rfl | exact hs.cell .k2 rfl | exact hs.cell .k3 rfl | exact hs.cell .k4 rfl | exact hs.cell .k5 rfl)) ?_; clear hf a; intro a hf
                  replace hs := hs.take (A := slB 5 (.slice e2 ((MAG ++ leB 4 (s.1).toNat) ++ leB 4 (s.2.1).toNat).length ce2) ((MAG ++ leB 4 (s.1).toNat) ++ leB 4 (s.2.1).toNat)) (by first | exact .k0 | exact .k1 | exact .k2 | exact .k3 | exact .k4 | exact .k5 | exact .k6 | exact .k7 | exact .k8 | exact .k9 | exact .k10 | exact .k11)
                  refine s_do hf rfl (y_call (hf.eval rfl) (hf.evals rfl) Tryd.call45 ((rnum_spec _ _ _ _ _ ((MAG ++ leB 4 (s.1).toNat) ++ leB 4 (s.2.1).toNat) (s.2.2.1) (by omega) (by omega) (by simp [MAG, leB_len, hdS_len]) hs).mono ?_))
                  rintro e w1 ⟨e3, ce3, rfl, hs⟩
                  refine ⟨_, rfl, ?_⟩; clear hf a; intro a hf
                  refine s_a hf rfl ?_; clear hf a; intro a hf
                  refine s_nil ?_
                  refine then_n ?_
                  refine wp_seq ?_
                  refine wp_region_lit ?_
                  refine s_m hf rfl ?_; clear hf a; intro a hf
                  refine s_v hf (x_fieldAddr fo24_3 (hf.eval rfl)) ?_; clear hf a; intro a hf
                  refine s_r hf (x_load sc3 (hf.eval rfl) (by first | exact hs.cell .k0 rfl | exact hs.cell .k1 rfl | exact hs.cell .k2 rfl | exact hs.cell .k3 rfl | exact hs.cell .k4 rfl | exact hs.cell .k5 rfl)) ?_; clear hf a; intro a hf
                  replace hs := hs.take (A := slB 5 (.slice e3 (((MAG ++ leB 4 (s.1).toNat) ++ leB 4 (s.2.1).toNat) ++ leB 4 (s.2.2.1).toNat).length ce3) (((MAG ++ leB 4 (s.1).toNat) ++ leB 4 (s.2.1).toNat) ++ leB 4 (s.2.2.1).toNat)) (by first | exact .k0 | exact .k1 | exact .k2 | exact .k3 | exact .k4 | exact .k5 | exact .k6 | exact .k7 | exact .k8 | exact .k9 | exact .k10 | exact .k11)
                  refine s_do hf rfl (y_call (hf.eval rfl) (hf.evals rfl) Tryd.call45 ((rnum_spec _ _ _ _ _ (((MAG ++ leB 4 (s.1).toNat) ++ leB 4 (s.2.1).toNat) ++ leB 4 (s.2.2.1).toNat) (s.2.2.2.1) (by omega) (by omega) (by simp [MAG, leB_len, hdS_len]) hs).mono ?_))
                  rintro e w1 ⟨e4, ce4, rfl, hs⟩
                  refine ⟨_, rfl, ?_⟩; clear hf a; intro a hf
                  refine s_a hf rfl ?_; clear hf a; intro a hf
                  refine s_nil ?_
                  refine then_n ?_
                  refine wp_seq ?_
                  refine wp_region_lit ?_
                  refine s_m hf rfl ?_; clear hf a; intro a hf
                  refine s_v hf (x_fieldAddr fo24_4 (hf.eval rfl)) ?_; clear hf a; intro a hf
                  refine s_r hf (x_load sc3 (hf.eval rfl) (by first | exact hs.cell .k0 rfl | exact hs.cell .k1 rfl | exact hs.cell .k2 rfl | exact hs.cell .k3 rfl | exact hs.cell .k4 rfl | exact hs.cell .k5 rfl)) ?_; clear hf a; intro a hf
                  replace hs := hs.take (A := slB 5 (.slice e4 ((((MAG ++ leB 4 (s.1).toNat) ++ leB 4 (s.2.1).toNat) ++ leB 4 (s.2.2.1).toNat) ++ leB 4 (s.2.2.2.1).toNat).length ce4) ((((MAG ++ leB 4 (s.1).toNat) ++ leB 4 (s.2.1).toNat) ++ leB 4 (s.2.2.1).toNat) ++ leB 4 (s.2.2.2.1).toNat)) (by first | exact .k0 | exact .k1 | exact .k2 | exact .k3 | exact .k4 | exact .k5 | exact .k6 | exact .k7 | exact .k8 | exact .k9 | exact .k10 | exact .k11)
                  refine s_do hf rfl (y_call (hf.eval rfl) (hf.evals rfl) Tryd.call45 ((rnum_spec _ _ _ _ _ ((((MAG ++ leB 4 (s.1).toNat) ++ leB 4 (s.2.1).toNat) ++ leB 4 (s.2.2.1).toNat) ++ leB 4 (s.2.2.2.1).toNat) (s.2.2.2.2.1) (by omega) (by omega) (by simp [MAG, leB_len, hdS_len]) hs).mono ?_))
                  rintro e w1 ⟨e5, ce5, rfl, hs⟩
                  refine ⟨_, rfl, ?_⟩; clear hf a; intro a hf
                  refine s_a hf rfl ?_; clear hf a; intro a hf
                  refine s_nil ?_
                  refine then_n ?_
                  refine wp_seq ?_
                  refine wp_region_lit ?_
                  refine s_m hf rfl ?_; clear hf a; intro a hf
                  refine s_v hf (x_fieldAddr fo24_5 (hf.eval rfl)) ?_; clear hf a; intro a hf
                  refine s_r hf (x_load sc3 (hf.eval rfl) (by first | exact hs.cell .k0 rfl | exact hs.cell .k1 rfl | exact hs.cell .k2 rfl | exact hs.cell .k3 rfl | exact hs.cell .k4 rfl | exact hs.cell .k5 rfl)) ?_; clear hf a; intro a hf
                  replace hs := hs.take (A := slB 5 (.slice e5 (((((MAG ++ leB 4 (s.1).toNat) ++ leB 4 (s.2.1).toNat) ++ leB 4 (s.2.2.1).toNat) ++ leB 4 (s.2.2.2.1).toNat) ++ leB 4 (s.2.2.2.2.1).toNat).length ce5) (((((MAG ++ leB 4 (s.1).toNat) ++ leB 4 (s.2.1).toNat) ++ leB 4 (s.2.2.1).toNat) ++ leB 4 (s.2.2.2.1).toNat) ++ leB 4 (s.2.2.2.2.1).toNat)) (by first | exact .k0 | exact .k1 | exact .k2 | exact .k3 | exact .k4 | exact .k5 | exact .k6 | exact .k7 | exact .k8 | exact .k9 | exact .k10 | exact .k11)
                  refine s_do hf rfl (y_call (hf.eval rfl) (hf.evals rfl) Tryd.call45 ((rnum_spec _ _ _ _ _ (((((MAG ++ leB 4 (s.1).toNat) ++ leB 4 (s.2.1).toNat) ++ leB 4 (s.2.2.1).toNat) ++ leB 4 (s.2.2.2.1).toNat) ++ leB 4 (s.2.2.2.2.1).toNat) (s.2.2.2.2.2.1) (by omega) (by omega) (by simp [MAG, leB_len, hdS_len]) hs).mono ?_))
                  rintro e w1 ⟨e6, ce6, rfl, hs⟩
                  refine ⟨_, rfl, ?_⟩; clear hf a; intro a hf
                  refine s_a hf rfl ?_; clear hf a; intro a hf
                  refine s_nil ?_
                  refine then_n ?_
                  refine wp_seq ?_
                  refine wp_region_lit ?_
                  refine s_m hf rfl ?_; clear hf a; intro a hf
                  refine s_v hf (x_fieldAddr fo24_6 (hf.eval rfl)) ?_; clear hf a; intro a hf
                  refine s_r hf (x_load sc22 (hf.eval rfl) (by first | exact hs.cell .k0 rfl | exact hs.cell .k1 rfl | exact hs.cell .k2 rfl | exact hs.cell .k3 rfl | exact hs.cell .k4 rfl | exact hs.cell .k5 rfl)) ?_; clear hf a; intro a hf
                  refine s_v hf (x_conv Tryd.underlying22 Tryd.underlying3 (hf.eval rfl)) ?_; clear hf a; intro a hf
                  replace hf := hf.now (k := 78) (v' := .int .i64 ((s.2.2.2.2.2.2 : Nat) : Int)) rfl (by rw [wrap_i64 (by omega) (by omega)])
                  replace hs := hs.take (A := slB 5 (.slice e6 ((((((MAG ++ leB 4 (s.1).toNat) ++ leB 4 (s.2.1).toNat) ++ leB 4 (s.2.2.1).toNat) ++ leB 4 (s.2.2.2.1).toNat) ++ leB 4 (s.2.2.2.2.1).toNat) ++ leB 4 (s.2.2.2.2.2.1).toNat).length ce6) ((((((MAG ++ leB 4 (s.1).toNat) ++ leB 4 (s.2.1).toNat) ++ leB 4 (s.2.2.1).toNat) ++ leB 4 (s.2.2.2.1).toNat) ++ leB 4 (s.2.2.2.2.1).toNat) ++ leB 4 (s.2.2.2.2.2.1).toNat)) (by first | exact .k0 | exact .k1 | exact .k2 | exact .k3 | exact .k4 | exact .k5 | exact .k6 | exact .k7 | exact .k8 | exact .k9 | exact .k10 | exact .k11)
                  refine s_do hf rfl (y_call (hf.eval rfl) (hf.evals rfl) Tryd.call45 ((rnum_spec _ _ _ _ _ ((((((MAG ++ leB 4 (s.1).toNat) ++ leB 4 (s.2.1).toNat) ++ leB 4 (s.2.2.1).toNat) ++ leB 4 (s.2.2.2.1).toNat) ++ leB 4 (s.2.2.2.2.1).toNat) ++ leB 4 (s.2.2.2.2.2.1).toNat) (((s.2.2.2.2.2.2 : Nat) : Int)) (by omega) (by omega) (by simp [MAG, leB_len, hdS_len]) hs).mono ?_))
                  rintro e w1 ⟨e7, ce7, rfl, hs⟩
                  rw [hd_app] at hs ⊢
                  refine ⟨_, rfl, ?_⟩; clear hf a; intro a hf
                  refine s_a hf rfl ?_; clear hf a; intro a hf
                  refine s_nil ?_
                  refine then_n ?_
                  refine wp_seq ?_
                  refine wp_region_lit ?_
                  refine s_m hf rfl ?_; clear hf a; intro a hf
                  refine s_m hf rfl ?_; clear hf a; intro a hf
                  replace hs := hs.take (A := slB 5 (.slice e7 (hdS s).length ce7) (hdS s)) (by first | exact .k0 | exact .k1 | exact .k2 | exact .k3 | exact .k4 | exact .k5 | exact .k6 | exact .k7 | exact .k8 | exact .k9 | exact .k10 | exact .k11)
                  refine s_do hf rfl (y_call (hf.eval rfl) (hf.evals rfl) Tryd.call46 ((refSum_spec _ _ _ (hdS s) (hs.rdB .k0 fun h => slB_rd) (by rw [hdS_len]; decide)).mono ?_))
                  rintro e w1 ⟨rfl, hk⟩
                  replace hs := hs.ext hk
                  refine ⟨_, rfl, ?_⟩; clear hf a; intro a hf
                  have hcr := crcU_lt (s := 0) (by decide) (hdS s)
                  refine s_v hf (x_conv Tryd.underlying22 Tryd.underlying3 (hf.eval rfl)) ?_; clear hf a; intro a hf
                  replace hf := hf.now (k := 83) (v' := .int .i64 ((crcU 0 (hdS s) : Nat) : Int)) rfl (by rw [wrap_i64 (by omega) (by omega)])
                  replace hs := hs.take (A := slB 5 (.slice e7 (hdS s).length ce7) (hdS s)) (by first | exact .k0 | exact .k1 | exact .k2 | exact .k3 | exact .k4 | exact .k5 | exact .k6 | exact .k7 | exact .k8 | exact .k9 | exact .k10 | exact .k11)
                  refine s_do hf rfl (y_call (hf.eval rfl) (hf.evals rfl) Tryd.call45 ((rnum_spec _ _ _ _ _ (hdS s) (((crcU 0 (hdS s) : Nat) : Int)) (by omega) (by omega) (by simp [MAG, leB_len, hdS_len]) hs).mono ?_))
                  rintro e w1 ⟨e8, ce8, rfl, hs⟩
                  rw [Int.toNat_natCast, show hdS s ++ leB 4 (crcU 0 (hdS s)) = hcS s from rfl, hcS_len] at hs ⊢
                  refine ⟨_, rfl, ?_⟩; clear hf a; intro a hf
                  refine s_a hf rfl ?_; clear hf a; intro a hf
                  refine s_nil ?_
                  refine then_n ?_
                  refine wp_seq ?_
                  refine wp_block ?_
                  replace hs := St.keep [_] _ hs
                  refine c_loop (L0 := [(1, _), (2, _), (3, _), (5, _), (42, _), (43, _), (51, _), (52, _), (53, _), (54, _), (55, _), (56, _), (57, _), (58, _), (59, _), (60, _), (61, _), (62, _), (63, _), (64, _), (65, _), (66, _), (67, _), (68, _), (69, _), (70, _), (71, _), (72, _), (73, _), (74, _), (75, _), (76, _), (77, _), (78, _), (79, _), (80, _), (81, _), (82, _), (83, _), (84, _)]) (fun M w m => ∃ (k : Nat) (e9 : Option Addr) (c9 : Nat), M = [(4, .slice e9 (40 + k) c9)] ∧ 472 - k = m ∧ k ≤ 472 ∧ St ⟨w0, None_⟩ w [slB 5 (.slice e9 (40 + k) c9) (hcS s ++ List.replicate k 0)]) (M0 := _) (⟨0, e8, ce8, rfl, rfl, Nat.zero_le _, by simpa using hs⟩) (hf.sub ⟨rfl, rfl, rfl, rfl, rfl, rfl, rfl, rfl, rfl, rfl, rfl, rfl, rfl, rfl, rfl, rfl, rfl, rfl, rfl, rfl, rfl, rfl, rfl, rfl, rfl, rfl, rfl, rfl, rfl, rfl, rfl, rfl, rfl, rfl, rfl, rfl, rfl, rfl, rfl, rfl, rfl, trivial⟩) ?_
                  clear hf hs a
                  rintro M m a w ⟨k, e9, c9, rfl, rfl, hk9, hs⟩ hf
                  refine wp_seq ?_
                  refine wp_seq ?_
                  refine wp_region_lit ?_
                  refine s_m hf rfl ?_; clear hf a; intro a hf
                  refine s_v hf (x_len Tryd.underlying25 (hf.eval rfl)) ?_; clear hf a; intro a hf
                  refine s_v hf (x_bin (hf.eval rfl) (hf.eval rfl) (r_lt _ _ _ _)) ?_; clear hf a; intro a hf
                  refine s_nil ?_
                  refine then_n ?_
                  refine c_cond hf rfl (fun hi3 => ?_) (fun hi3 => ?_)
                  · simp only [decide_eq_true_eq, decide_eq_false_iff_not, Bool.not_eq_true', Bool.not_eq_false', Bool.not_eq_true, Int.not_lt, Int.not_le] at hi3
                    refine wp_skip ?_
                    refine then_n ?_
                    refine wp_block ?_
                    refine wp_region_lit ?_
                    refine s_m hf rfl ?_; clear hf a; intro a hf
                    refine s_do hf rfl (y_lit (xs := [.const (.int .u8 0)]) hs sl25 (hf.evals rfl) rfl (by simp [Value.cells]) (by decide) ?_); clear hf hs a; intro b2 w hs a hf
                    refine s_do hf rfl (y_appendB (s := [0]) hs sl25 rfl (hf.eval rfl) (hf.eval rfl) .k1 (hs.rdB .k0 fun h hb => rdB_of_bb (T := 5) (l := [0]) hb (by simp) (by simp)) (by simp [hcS_len]; omega) ?_); clear hf hs a; intro v2 w hs hv a hf
                    replace hs := hs.lose .k1
                    rw [List.append_assoc, ← List.replicate_succ'] at hs
                    obtain ⟨a2, c2, rfl, hc2⟩ := slB_shape hs
                    rw [show (hcS s ++ List.replicate (k + 1) (0 : UInt8)).length = 40 + (k + 1) by rw [List.length_append, hcS_len, List.length_replicate]] at hs hf
                    refine s_a hf rfl ?_; clear hf a; intro a hf
                    refine s_nil ?_
                    refine blk_n ?_
                    exact ⟨_, _, ⟨k + 1, a2, c2, rfl, rfl, by omega, hs⟩, by omega, hf.sub ⟨rfl, rfl, rfl, rfl, rfl, rfl, rfl, rfl, rfl, rfl, rfl, rfl, rfl, rfl, rfl, rfl, rfl, rfl, rfl, rfl, rfl, rfl, rfl, rfl, rfl, rfl, rfl, rfl, rfl, rfl, rfl, rfl, rfl, rfl, rfl, rfl, rfl, rfl, rfl, rfl, rfl, trivial⟩⟩
                  · simp only [decide_eq_true_eq, decide_eq_false_iff_not, Bool.not_eq_true', Bool.not_eq_false', Bool.not_eq_true, Int.not_lt, Int.not_le] at hi3
                    obtain rfl : k = 472 := by omega
                    rw [show hcS s ++ List.replicate 472 0 = secS s from rfl] at hs
                    refine wp_exit ?_
                    refine then_x ?_
                    refine then_x ?_
                    refine blk_x ?_
                    refine then_n ?_
                    refine wp_seq ?_
                    refine wp_region_lit ?_
                    refine s_m hf rfl ?_; clear hf a; intro a hf
                    refine s_a hf rfl ?_; clear hf a; intro a hf
                    refine s_a hf rfl ?_; clear hf a; intro a hf
                    refine s_nil ?_
                    refine then_n ?_
                    refine wp_ret ?_
                    refine r_2 hf Tryd.results11 rfl rfl ?_
                    rw [hE, hV, secS_len]
                    exact ⟨_, _, rfl, hs⟩
end Go.Proofs.YtehakfbfjpolfaaDoor

namespace Go.Proofs.YtehakfbfjpolfaaDoor
open Go Vw
theorem all_spec (w0 : World) (pv : Value) (fs : List Nat) (a1 : Option Addr) (c1 : Nat) (J : Nat → World → Prop) (E : Int → World → Prop) (hfs : fs.length ≤ 1000) (hrd : ∀ i w, i < fs.length → J i w → RdC (hp w) (.slice a1 fs.length c1) 1 fs.length (fs.map (fnV pv))) (hcall : ∀ f ∈ fs, ∀ vs w, (callFunc f vs).run Tryd.prog w = .ok (.enter f vs) w) (hstep : ∀ i (hi : i < fs.length) w, J i w → Calls Tryd.prog fs[i] #[pv] w fun e w' => ∃ r : Int, e = .returned (.int .i64 r) ∧ (r = 0 → J (i + 1) w') ∧ (r ≠ 0 → E r w')) (h0 : J 0 w0) : Calls Tryd.prog 65 #[.slice a1 fs.length c1] w0 fun e w' => ∃ r : Int, e = .returned (.int .i64 r) ∧ (r = 0 → J fs.length w') ∧ (r ≠ 0 → E r w') := by
  refine c_enter (N := 18) Tryd.func65 rfl Tryd.ntmps65 (by simp) ?_
  intro a hf
  refine wp_seq ?_
  refine wp_region_lit ?_
  refine s_a hf rfl ?_; clear hf a; intro a hf
  refine s_nil ?_
  refine then_n ?_
  refine wp_seq ?_
  refine wp_seq ?_
  refine wp_region_lit ?_
  refine s_m hf rfl ?_; clear hf a; intro a hf
  refine s_v hf (x_len Tryd.underlying103 (hf.eval rfl)) ?_; clear hf a; intro a hf
  refine s_m hf rfl ?_; clear hf a; intro a hf
  refine s_nil ?_
  refine then_n ?_
  refine wp_block ?_
  refine c_loop (L0 := [(6, _), (7, _)]) (fun M w m => ∃ i : Nat, M = [(8, .int .i64 (i : Int))] ∧ fs.length - i = m ∧ i ≤ fs.length ∧ J i w) (M0 := [(8, .int .i64 0)]) (⟨0, rfl, rfl, Nat.zero_le _, h0⟩) (hf.sub ⟨rfl, rfl, rfl, trivial⟩) ?_
  clear hf a
  rintro M m a w ⟨i, rfl, rfl, hi, hJ⟩ hf
  refine wp_seq ?_
  refine wp_region_lit ?_
  refine s_v hf (x_bin (hf.eval rfl) (hf.eval rfl) (r_lt _ _ _ _)) ?_; clear hf a; intro a hf
  refine s_nil ?_
  refine then_n ?_
  refine wp_seq ?_
  refine c_cond hf rfl (fun hi0 => ?_) (fun hi0 => ?_)
  · simp only [decide_eq_true_eq, decide_eq_false_iff_not, Bool.not_eq_true', Bool.not_eq_false', Bool.not_eq_true, Int.not_lt, Int.not_le] at hi0
    have hlt : i < fs.length := by omega
    have hr := hrd i w hlt hJ
    obtain ⟨a1, rfl⟩ := hr.some (by omega)
    refine wp_skip ?_
    refine then_n ?_
    refine wp_seq ?_
    refine wp_block ?_
    refine wp_seq ?_
    refine wp_region_lit ?_
    refine s_v hf (x_indexAddr sl103 (hf.eval rfl) (hf.eval rfl) (by omega) (by omega)) ?_; clear hf a; intro a hf
    refine s_r hf (x_load sc73 (hf.eval rfl) (by rw [cell_hp, Int.toNat_natCast, Nat.mul_one]; exact hr.get (u := fnV pv fs[i]) (by simp [hlt]))) ?_; clear hf a; intro a hf
    refine s_a hf rfl ?_; clear hf a; intro a hf
    refine s_nil ?_
    refine then_n ?_
    refine wp_seq ?_
    refine wp_region_lit ?_
    refine s_m hf rfl ?_; clear hf a; intro a hf
    refine s_do hf rfl (y_callF (hf.eval rfl) (hcall _ (List.getElem_mem hlt)) ((hstep i hlt _ hJ).mono ?_))
    rintro e w ⟨r, rfl, h9, h8⟩
    refine ⟨_, rfl, ?_⟩; clear hf a; intro a hf
    refine s_a hf rfl ?_; clear hf a; intro a hf
    refine s_nil ?_
    refine then_n ?_
    refine wp_seq ?_
    refine wp_region_lit ?_
    refine s_m hf rfl ?_; clear hf a; intro a hf
    refine s_v hf (x_bin (hf.eval rfl) (hf.eval rfl) (r_ne _ _ _ _)) ?_; clear hf a; intro a hf
    refine s_nil ?_
    refine then_n ?_
    refine c_cond hf rfl (fun hi1 => ?_) (fun hi1 => ?_)
    · simp only [decide_eq_true_eq, decide_eq_false_iff_not, Bool.not_eq_true', Bool.not_eq_false'] at hi1
      refine wp_seq ?_
      refine wp_region_lit ?_
      refine s_m hf rfl ?_; clear hf a; intro a hf
      refine s_a hf rfl ?_; clear hf a; intro a hf
      refine s_nil ?_
      refine then_n ?_
      refine wp_ret ?_
      refine blk_r (then_r (then_r (blk_r (then_r ?_))))
      refine r_1 hf Tryd.results65 rfl ?_
      exact ⟨r, rfl, fun h => absurd h hi1, h8⟩
    · simp only [decide_eq_true_eq, decide_eq_false_iff_not, Bool.not_eq_true', Bool.not_eq_false'] at hi1
      refine wp_skip ?_
      refine blk_n ?_
      refine then_n ?_
      refine wp_region_lit ?_
      refine s_v hf (x_bin (hf.eval rfl) (hf.eval rfl) (r_addi _ (by omega) (by omega))) ?_; clear hf a; intro a hf
      refine s_m hf rfl ?_; clear hf a; intro a hf
      refine s_nil ?_
      exact ⟨_, _, ⟨i + 1, rfl, rfl, by omega, h9 hi1⟩, by omega, hf.sub ⟨rfl, rfl, rfl, trivial⟩⟩
  · simp only [decide_eq_true_eq, decide_eq_false_iff_not, Bool.not_eq_true', Bool.not_eq_false', Bool.not_eq_true, Int.not_lt, Int.not_le] at hi0
    refine wp_exit ?_
    refine then_x ?_
    refine then_x ?_
    refine blk_x ?_
    refine then_n ?_
    refine wp_seq ?_
    refine wp_region_lit ?_
    refine s_a hf rfl ?_; clear hf a; intro a hf
    refine s_nil ?_
    refine then_n ?_
    refine wp_ret ?_
    refine r_1 hf Tryd.results65 rfl ?_
    obtain rfl : i = fs.length := by omega
    exact ⟨0, rfl, fun _ => hJ, fun h => absurd rfl h⟩
theorem cut_spec (w0 : World) (w : World) (R : List Asrt) (p D : Nat) (old size : Int) (wv bv : Value) (q0 : Sl) (bp se fi : Int) (s : DS) (hs : St ⟨w0, None_⟩ w (cb p 102 (runF (.pointer (some ⟨D, 0, none⟩)) old size wv q0 bv bp se fi) :: diskA 94 113 5 3 D s :: R)) (ho : DOk s) (k : Nat) (hb : DB s k) (hk : k ≤ 33000000) : Calls Tryd.prog 63 #[.pointer (some ⟨p, 0, none⟩)] w fun e w' => e = .returned (.int .i64 (runS s ([(3, size, []), syO])).1) ∧ St ⟨w0, None_⟩ w' (cb p 102 (runF (.pointer (some ⟨D, 0, none⟩)) old size wv q0 bv bp se fi) :: diskA 94 113 5 3 D (runS s ([(3, size, []), syO])).2 :: R) := by
  refine c_enter (N := 21) Tryd.func63 rfl Tryd.ntmps63 (by simp) ?_
  intro a hf
  refine wp_seq ?_
  refine wp_region_lit ?_
  refine s_a hf rfl ?_; clear hf a; intro a hf
  refine s_nil ?_
  refine then_n ?_
  refine wp_seq ?_
  refine wp_seq ?_
  refine c_draw hs (fun _ => True) [.held, .held, .held, .read, .held, .held, .held, .read, .eff, .held] (by kernel_rfl) (by kernel_rfl) (fun _ _ _ => trivial) ?_
  clear hs; intro w hs hC hw
  refine m_held hf rfl (fun w' _ => x_move (hf.eval rfl) w') ?_; clear hf a; intro a hf
  refine m_held hf rfl (fun w' _ => x_nilCheck (hf.eval rfl) w') ?_; clear hf a; intro a hf
  refine m_held hf rfl (fun w' _ => x_fieldAddr fo102_0 (hf.eval rfl) w') ?_; clear hf a; intro a hf
  refine m_read hf rfl (x_load sc49 (hf.eval rfl) (by first | exact hs.cell .k0 rfl | exact hs.cell .k1 rfl | exact hs.cell .k2 rfl | exact hs.cell .k3 rfl)) ?_; clear hf a; intro a hf
  refine m_held hf rfl (fun w' _ => x_move (hf.eval rfl) w') ?_; clear hf a; intro a hf
  refine m_held hf rfl (fun w' _ => x_nilCheck (hf.eval rfl) w') ?_; clear hf a; intro a hf
  refine m_held hf rfl (fun w' _ => x_fieldAddr fo102_2 (hf.eval rfl) w') ?_; clear hf a; intro a hf
  refine m_read hf rfl (x_load sc3 (hf.eval rfl) (by first | exact hs.cell .k0 rfl | exact hs.cell .k1 rfl | exact hs.cell .k2 rfl | exact hs.cell .k3 rfl)) ?_; clear hf a; intro a hf
  replace hs := hs.take (A := diskA 94 113 5 3 D s) (by first | exact .k0 | exact .k1 | exact .k2 | exact .k3 | exact .k4 | exact .k5 | exact .k6 | exact .k7)
  refine m_eff hf rfl (y_call (hf.eval rfl) (hf.evals rfl) Tryd.call85 ((dTrunc_spec _ _ _ D s hs size ho (by have := hb.calls; omega) (by have := hb.pcs; omega) (by have := hb.sizes; omega)).mono ?_))
  rintro e w1 ⟨rfl, hs⟩
  rw [← co_tr] at hs ⊢
  obtain ⟨t, ht⟩ : ∃ t, t = (coS s (3, size, [])).2 := ⟨_, rfl⟩
  have hto := coS_ok ho (3, size, [])
  have htb := coS_b ho hb (3, size, [])
  rw [← ht] at hs hto htb
  refine ⟨_, rfl, ⟨trivial, ?_⟩⟩; clear hf a; intro a hf
  refine m_held hf rfl (fun w' _ => x_assign (hf.eval rfl) w') ?_; clear hf a; intro a hf
  refine m_nil ?_
  refine then_n ?_
  refine wp_seq ?_
  refine wp_region_lit ?_
  refine s_m hf rfl ?_; clear hf a; intro a hf
  refine s_v hf (x_bin (hf.eval rfl) (hf.eval rfl) (r_ne _ _ _ _)) ?_; clear hf a; intro a hf
  refine s_nil ?_
  refine then_n ?_
  refine c_cond hf rfl (fun hi0 => ?_) (fun hi0 => ?_)
  · first | simp only [decide_eq_true_eq, decide_eq_false_iff_not, Bool.not_eq_true', Bool.not_eq_false', ne_eq, Classical.not_not] at hi0 | skip
    refine wp_seq ?_
    refine wp_region_lit ?_
    refine s_m hf rfl ?_; clear hf a; intro a hf
    refine s_a hf rfl ?_; clear hf a; intro a hf
    refine s_nil ?_
    refine then_n ?_
    refine wp_ret ?_
    refine then_r ?_
    refine r_1 hf Tryd.results63 rfl ?_
    rw [runS2_bad hi0, ← ht]
    exact ⟨rfl, hs.take (by first | exact .k0 | exact .k1 | exact .k2 | exact .k3)⟩
  · first | simp only [decide_eq_true_eq, decide_eq_false_iff_not, Bool.not_eq_true', Bool.not_eq_false', ne_eq, Classical.not_not] at hi0 | skip
    refine wp_skip ?_
    refine then_n ?_
    refine wp_seq ?_
    refine wp_region_lit ?_
    refine s_m hf rfl ?_; clear hf a; intro a hf
    refine s_v hf (x_nilCheck (hf.eval rfl)) ?_; clear hf a; intro a hf
    refine s_v hf (x_fieldAddr fo102_0 (hf.eval rfl)) ?_; clear hf a; intro a hf
    refine s_r hf (x_load sc49 (hf.eval rfl) (by first | exact hs.cell .k0 rfl | exact hs.cell .k1 rfl | exact hs.cell .k2 rfl | exact hs.cell .k3 rfl)) ?_; clear hf a; intro a hf
    replace hs := hs.take (A := diskA 94 113 5 3 D t) (by first | exact .k0 | exact .k1 | exact .k2 | exact .k3 | exact .k4 | exact .k5 | exact .k6 | exact .k7)
    refine s_do hf rfl (y_call (hf.eval rfl) (hf.evals rfl) Tryd.call86 ((dSync_spec _ _ _ D t hs hto (by have := htb.calls; omega) (by have := htb.pcs; omega) (by have := htb.sizes; omega)).mono ?_))
    rintro e w1 ⟨rfl, hs⟩
    rw [← co_sy] at hs ⊢
    refine ⟨_, rfl, ?_⟩; clear hf a; intro a hf
    refine s_a hf rfl ?_; clear hf a; intro a hf
    refine s_nil ?_
    refine then_n ?_
    refine wp_ret ?_
    refine r_1 hf Tryd.results63 rfl ?_
    rw [runS2_ok hi0, ← ht]
    exact ⟨rfl, hs.take (by first | exact .k0 | exact .k1 | exact .k2 | exact .k3)⟩
theorem slB_cap {σ : Sig} {w : World} {R : List Asrt} {T n c : Nat} {a : Option Addr} {l : List UInt8} (hs : St σ w (slB T (.slice a n c) l :: R)) : n ≤ c := (hs.rdB .k0 fun h => slB_rd).cap
theorem write_spec (w0 : World) (w : World) (R : List Asrt) (p D : Nat) (old size : Int) (bv : Value) (aw : Option Addr) (cw : Nat) (ws : List Wr) (hrw : RdyS wF 2 ⟨w0, None_⟩ R (.slice aw ws.length cw) ws) (hlw : ws.length ≤ 16777216) (hgw : ∀ z ∈ ws, Rdy ⟨w0, None_⟩ R (.slice z.2.1 z.2.2.2.length z.2.2.1) z.2.2.2 ∧ z.2.2.2.length ≤ 16777216) (q0 : Sl) (bp se fi : Int) (s : DS) (hs : St ⟨w0, None_⟩ w (cb p 102 (runF (.pointer (some ⟨D, 0, none⟩)) old size (.slice aw ws.length cw) q0 bv bp se fi) :: diskA 94 113 5 3 D s :: R)) (ho : DOk s) (k : Nat) (hb : DB s k) (hk : k + ws.length ≤ 33000000) : Calls Tryd.prog 64 #[.pointer (some ⟨p, 0, none⟩)] w fun e w' => e = .returned (.int .i64 (runS s (wrsU ws ++ [syO])).1) ∧ St ⟨w0, None_⟩ w' (cb p 102 (runF (.pointer (some ⟨D, 0, none⟩)) old size (.slice aw ws.length cw) q0 bv bp se fi) :: diskA 94 113 5 3 D (runS s (wrsU ws ++ [syO])).2 :: R) := by
  refine c_enter (N := 33) Tryd.func64 rfl Tryd.ntmps64 (by simp) ?_
  intro a hf
  refine wp_seq ?_
  refine wp_region_lit ?_
  refine s_a hf rfl ?_; clear hf a; intro a hf
  refine s_nil ?_
  refine then_n ?_
  refine wp_seq ?_
  refine wp_seq ?_
  refine wp_region_lit ?_
  refine s_m hf rfl ?_; clear hf a; intro a hf
  refine s_v hf (x_nilCheck (hf.eval rfl)) ?_; clear hf a; intro a hf
  refine s_v hf (x_fieldAddr fo102_3 (hf.eval rfl)) ?_; clear hf a; intro a hf
  refine s_r hf (x_load sc80 (hf.eval rfl) (by first | exact hs.cell .k0 rfl | exact hs.cell .k1 rfl | exact hs.cell .k2 rfl | exact hs.cell .k3 rfl)) ?_; clear hf a; intro a hf
  refine s_v hf (x_len Tryd.underlying80 (hf.eval rfl)) ?_; clear hf a; intro a hf
  refine s_m hf rfl ?_; clear hf a; intro a hf
  refine s_nil ?_
  refine then_n ?_
  refine wp_block ?_
  refine c_loop (L0 := [(0, _), (9, _), (10, _)]) (fun M w m => ∃ (i : Nat) (t : DS), M = [(11, .int .i64 (i : Int))] ∧ ws.length - i = m ∧ i ≤ ws.length ∧ (runS s (wrsU (ws.take i))).1 = 0 ∧ t = (runS s (wrsU (ws.take i))).2 ∧ St ⟨w0, None_⟩ w (cb p 102 (runF (.pointer (some ⟨D, 0, none⟩)) old size (.slice aw ws.length cw) q0 bv bp se fi) :: diskA 94 113 5 3 D t :: R)) (M0 := [(11, .int .i64 0)]) (⟨0, s, rfl, rfl, Nat.zero_le _, rfl, rfl, hs⟩) (hf.sub ⟨rfl, rfl, rfl, rfl, trivial⟩) ?_
  clear hf hs a
  rintro M m a w ⟨i, t, rfl, rfl, hi, hr0, ht, hs⟩ hf
  have hto : DOk t := by rw [ht]; exact runS_ok _ ho
  have htb : DB t (k + i) := by rw [ht]; have h9 := runS_b (wrsU (ws.take i)) ho hb; have h8 : (wrsU (ws.take i)).length = i := (by unfold wrsU; rw [List.length_map, List.length_take]; omega); rw [h8] at h9; exact h9
  refine wp_seq ?_
  refine wp_region_lit ?_
  refine s_v hf (x_bin (hf.eval rfl) (hf.eval rfl) (r_lt _ _ _ _)) ?_; clear hf a; intro a hf
  refine s_nil ?_
  refine then_n ?_
  refine wp_seq ?_
  refine c_cond hf rfl (fun hi0 => ?_) (fun hi0 => ?_)
  · simp only [decide_eq_true_eq, decide_eq_false_iff_not, Bool.not_eq_true', Bool.not_eq_false', Bool.not_eq_true, Int.not_lt, Int.not_le] at hi0
    have hlt : i < ws.length := by omega
    have hrw9 := hrw w [_, _] hs
    obtain ⟨aw, rfl⟩ := hrw9.some (by omega)
    have hgi := hgw _ (List.getElem_mem hlt)
    have hsn : runS s (wrsU (ws.take (i + 1))) = coS t (2, ws[i].1, ws[i].2.2.2) := by rw [wrsU_succ hlt, runS_snoc hr0, ← ht]
    refine wp_skip ?_
    refine then_n ?_
    refine wp_seq ?_
    refine wp_block ?_
    refine wp_seq ?_
    refine wp_region_lit ?_
    refine s_v hf (x_indexAddr sl80 (hf.eval rfl) (hf.eval rfl) (by omega) (by omega)) ?_; clear hf a; intro a hf
    refine s_r hf (x_loadS (f := wF) ag110 (fun _ => rfl) hrw9 (hf.eval rfl) (by simpa using hlt)) ?_; clear hf a; intro a hf
    replace hf := hf.now (k := 14) (v' := .agg (wF ws[i]).toArray) rfl (rfl)
    refine s_do hf rfl (y_alloc hs Tryd.zeroValue110 ?_); clear hf hs a; intro b7 w hs a hf
    change St _ _ (cb b7 110 [.int .i64 0, .slice none 0 0] :: _) at hs
    refine s_do0 hf rfl (y_storeAgg (cs := wF ws[i]) hs (n := 2) (by kernel_rfl) (hf.eval rfl) (hf.eval rfl) (by simp [Value.oneCell', wF]) rfl rfl .k0 ?_); clear hf hs a; intro w hs a hf
    refine s_nil ?_
    refine then_n ?_
    refine wp_seq ?_
    refine c_draw hs (fun _ => True) [.held, .held, .held, .read, .held, .read, .held, .read, .eff, .held] (by kernel_rfl) (by kernel_rfl) (fun _ _ _ => trivial) ?_
    clear hs; intro w hs hC hw
    refine m_held hf rfl (fun w' _ => x_move (hf.eval rfl) w') ?_; clear hf a; intro a hf
    refine m_held hf rfl (fun w' _ => x_nilCheck (hf.eval rfl) w') ?_; clear hf a; intro a hf
    refine m_held hf rfl (fun w' _ => x_fieldAddr fo102_0 (hf.eval rfl) w') ?_; clear hf a; intro a hf
    refine m_read hf rfl (x_load sc49 (hf.eval rfl) (by first | exact hs.cell .k0 rfl | exact hs.cell .k1 rfl | exact hs.cell .k2 rfl | exact hs.cell .k3 rfl)) ?_; clear hf a; intro a hf
    refine m_held hf rfl (fun w' _ => x_fieldAddr fo110_0 (hf.eval rfl) w') ?_; clear hf a; intro a hf
    refine m_read hf rfl (x_load sc3 (hf.eval rfl) (by first | exact hs.cell .k0 rfl | exact hs.cell .k1 rfl | exact hs.cell .k2 rfl | exact hs.cell .k3 rfl)) ?_; clear hf a; intro a hf
    refine m_held hf rfl (fun w' _ => x_fieldAddr fo110_1 (hf.eval rfl) w') ?_; clear hf a; intro a hf
    refine m_read hf rfl (x_load sc25 (hf.eval rfl) (by first | exact hs.cell .k0 rfl | exact hs.cell .k1 rfl | exact hs.cell .k2 rfl | exact hs.cell .k3 rfl)) ?_; clear hf a; intro a hf
    replace hs := hs.take (A := diskA 94 113 5 3 D t) (by first | exact .k0 | exact .k1 | exact .k2 | exact .k3 | exact .k4 | exact .k5 | exact .k6 | exact .k7)
    refine m_eff hf rfl (y_call (hf.eval rfl) (hf.evals rfl) Tryd.call87 ((dWrite_spec _ _ _ D t hs ws[i].1 ws[i].2.1 ws[i].2.2.1 ws[i].2.2.2 (hgi.1.more [_, _]) (by have := hgi.2; omega) hto (by have := htb.calls; omega) (by have := htb.pcs; omega) (by have := htb.sizes; omega)).mono ?_))
    rintro e w1 ⟨rfl, hs⟩
    rw [← co_wr] at hs ⊢
    refine ⟨_, rfl, ⟨trivial, ?_⟩⟩; clear hf a; intro a hf
    refine m_held hf rfl (fun w' _ => x_assign (hf.eval rfl) w') ?_; clear hf a; intro a hf
    refine m_nil ?_
    refine then_n ?_
    refine wp_seq ?_
    refine wp_region_lit ?_
    refine s_m hf rfl ?_; clear hf a; intro a hf
    refine s_v hf (x_bin (hf.eval rfl) (hf.eval rfl) (r_ne _ _ _ _)) ?_; clear hf a; intro a hf
    refine s_nil ?_
    refine then_n ?_
    refine c_cond hf rfl (fun hi1 => ?_) (fun hi1 => ?_)
    · first | simp only [decide_eq_true_eq, decide_eq_false_iff_not, Bool.not_eq_true', Bool.not_eq_false', ne_eq, Classical.not_not] at hi1 | skip
      skip
      refine wp_seq ?_
      refine wp_region_lit ?_
      refine s_m hf rfl ?_; clear hf a; intro a hf
      refine s_a hf rfl ?_; clear hf a; intro a hf
      refine s_nil ?_
      refine then_n ?_
      refine wp_ret ?_
      refine blk_r (then_r (then_r (blk_r (then_r ?_))))
      refine r_1 hf Tryd.results64 rfl ?_
      have hsp := wrsU_split (ws := ws) (i := i + 1) (by omega)
      rw [hsp, List.append_assoc, runS_stop (by rw [hsn]; exact hi1), hsn]
      exact ⟨rfl, (hs.lose (A := cb b7 110 (wF ws[i])) (by first | exact .k0 | exact .k1 | exact .k2 | exact .k3)).take (by first | exact .k0 | exact .k1 | exact .k2 | exact .k3)⟩
    · first | simp only [decide_eq_true_eq, decide_eq_false_iff_not, Bool.not_eq_true', Bool.not_eq_false', ne_eq, Classical.not_not] at hi1 | skip
      refine wp_skip ?_
      refine blk_n ?_
      refine then_n ?_
      refine wp_region_lit ?_
      replace hs := (hs.lose (A := cb b7 110 (wF ws[i])) (by first | exact .k0 | exact .k1 | exact .k2 | exact .k3)).take (A := cb p 102 (runF (.pointer (some ⟨D, 0, none⟩)) old size (.slice (some aw) ws.length cw) q0 bv bp se fi)) (by first | exact .k0 | exact .k1 | exact .k2 | exact .k3)
      refine s_v hf (x_bin (hf.eval rfl) (hf.eval rfl) (r_addi _ (by omega) (by omega))) ?_; clear hf a; intro a hf
      refine s_m hf rfl ?_; clear hf a; intro a hf
      refine s_nil ?_
      exact ⟨_, _, ⟨i + 1, (coS t (2, ws[i].1, ws[i].2.2.2)).2, rfl, rfl, by omega, by rw [hsn]; exact hi1, by rw [hsn], hs⟩, by omega, hf.sub ⟨rfl, rfl, rfl, rfl, trivial⟩⟩
  · simp only [decide_eq_true_eq, decide_eq_false_iff_not, Bool.not_eq_true', Bool.not_eq_false', Bool.not_eq_true, Int.not_lt, Int.not_le] at hi0
    refine wp_exit ?_
    refine then_x ?_
    refine then_x ?_
    refine blk_x ?_
    refine then_n ?_
    refine wp_seq ?_
    refine wp_region_lit ?_
    refine s_m hf rfl ?_; clear hf a; intro a hf
    refine s_v hf (x_nilCheck (hf.eval rfl)) ?_; clear hf a; intro a hf
    refine s_v hf (x_fieldAddr fo102_0 (hf.eval rfl)) ?_; clear hf a; intro a hf
    refine s_r hf (x_load sc49 (hf.eval rfl) (by first | exact hs.cell .k0 rfl | exact hs.cell .k1 rfl | exact hs.cell .k2 rfl | exact hs.cell .k3 rfl)) ?_; clear hf a; intro a hf
    obtain rfl : i = ws.length := by omega
    rw [List.take_length] at hr0 ht
    replace hs := hs.take (A := diskA 94 113 5 3 D t) (by first | exact .k0 | exact .k1 | exact .k2 | exact .k3 | exact .k4 | exact .k5 | exact .k6 | exact .k7)
    refine s_do hf rfl (y_call (hf.eval rfl) (hf.evals rfl) Tryd.call86 ((dSync_spec _ _ _ D t hs hto (by have := htb.calls; omega) (by have := htb.pcs; omega) (by have := htb.sizes; omega)).mono ?_))
    rintro e w1 ⟨rfl, hs⟩
    rw [← co_sy] at hs ⊢
    refine ⟨_, rfl, ?_⟩; clear hf a; intro a hf
    refine s_a hf rfl ?_; clear hf a; intro a hf
    refine s_nil ?_
    refine then_n ?_
    refine wp_ret ?_
    refine r_1 hf Tryd.results64 rfl ?_
    rw [runS_snoc hr0, ← ht]
    exact ⟨rfl, hs.take (by first | exact .k0 | exact .k1 | exact .k2 | exact .k3)⟩
theorem RdyS.more {α : Type} {f : α → List Value} {sz : Nat} {σ : Sig} {R : List Asrt} {v : Value} {l : List α} (h : RdyS f sz σ R v l) (A : List Asrt) : RdyS f sz σ (A ++ R) v l := fun w L hs => h w (L ++ A) (by rw [List.append_assoc]; exact hs)
theorem take_flat {α : Type} {b : List (List α)} {i : Nat} (h : i < b.length) : (b.take (i + 1)).flatten = (b.take i).flatten ++ b[i] := by
  rw [List.take_succ_eq_append_getElem h, List.flatten_append]; simp
theorem flat_split {α : Type} (b : List (List α)) (i : Nat) : b.flatten = (b.take i).flatten ++ (b.drop i).flatten := by
  rw [← List.flatten_append, List.take_append_drop]
theorem steps_all (w0 : World) (pv : Value) (fs : List Nat) (bs : List (List COp)) (hlb : fs.length = bs.length) (a1 : Option Addr) (c1 : Nat) (F : DS → World → Prop) (s : DS) (k : Nat) (hfs : fs.length ≤ 1000) (hrd : ∀ t w, F t w → RdC (hp w) (.slice a1 fs.length c1) 1 fs.length (fs.map (fnV pv))) (hcall : ∀ f ∈ fs, ∀ vs w, (callFunc f vs).run Tryd.prog w = .ok (.enter f vs) w)
    (hstep : ∀ i (hi : i < fs.length) (hi2 : i < bs.length) t w, F t w → DOk t → DB t (k + bs.flatten.length) → Calls Tryd.prog fs[i] #[pv] w fun e w' => e = .returned (.int .i64 (runS t bs[i]).1) ∧ F (runS t bs[i]).2 w') (h0 : F s w0) (ho : DOk s) (hb : DB s k) :
    Calls Tryd.prog 65 #[.slice a1 fs.length c1] w0 fun e w' => e = .returned (.int .i64 (runS s bs.flatten).1) ∧ F (runS s bs.flatten).2 w' := by
  refine (all_spec w0 pv fs a1 c1 (fun i w => (runS s (bs.take i).flatten).1 = 0 ∧ F (runS s (bs.take i).flatten).2 w) (fun r w => r = (runS s bs.flatten).1 ∧ F (runS s bs.flatten).2 w) hfs (fun i w _ h => hrd _ w h.2) hcall (fun i hi w h => ?_) ⟨rfl, h0⟩).mono fun e w' ⟨r, he, h1, h2⟩ => ?_
  · have hi2 : i < bs.length := by omega
    have hb9 := runS_b (bs.take i).flatten ho hb
    have hle : (bs.take i).flatten.length ≤ bs.flatten.length := by rw [flat_split bs i, List.length_append]; omega
    refine (hstep i hi hi2 _ w h.2 (runS_ok _ ho) (hb9.up (by omega))).mono fun e w' ⟨he, hF⟩ => ⟨_, he, fun hz => ?_, fun hz => ?_⟩
    · rw [take_flat hi2, runS_go h.1]; exact ⟨hz, hF⟩
    · have e9 : runS s bs.flatten = runS (runS s (bs.take i).flatten).2 bs[i] := by
        rw [flat_split bs (i + 1), take_flat hi2, List.append_assoc, runS_go h.1, runS_stop hz]
      rw [e9]; exact ⟨rfl, hF⟩
  · by_cases hr : r = 0
    · have h9 := h1 hr
      rw [hlb, List.take_length] at h9
      exact ⟨by rw [he, h9.1, hr], h9.2⟩
    · have h9 := h2 hr
      exact ⟨by rw [he, h9.1], h9.2⟩
end Go.Proofs.YtehakfbfjpolfaaDoor

namespace Go.Proofs.YtehakfbfjpolfaaDoor
open Go Vw
theorem newCursor_spec (w : World) (a : Option Addr) (c : Nat) (data : List UInt8) (hr : RdB (hp w) (.slice a data.length c) data) (hl : data.length ≤ 140737488351232) :
    Calls Tryd.prog 48 #[.slice a data.length c] w fun e w' => ∃ p, e = .returned (.pointer (some ⟨p, 0, none⟩)) ∧ St ⟨w, None_⟩ w' [curA 119 5 p data 0 0] := by
  have hs := (St.start w None_).emp (slB_nil 5)
  refine c_enter (N := 7) Tryd.func48 rfl Tryd.ntmps48 (by simp) ?_
  intro a hf
  refine wp_seq ?_
  refine wp_region_lit ?_
  refine s_a hf rfl ?_; clear hf a; intro a hf
  refine s_nil ?_
  refine then_n ?_
  refine wp_seq ?_
  refine wp_region_lit ?_
  refine s_m hf rfl ?_; clear hf a; intro a hf
  refine s_do hf rfl (y_appendB (s := data) hs sl25 rfl (hf.eval rfl) (hf.eval rfl) .k0 (hs.oldB hr) (by simp; omega) ?_); clear hf hs a; intro v w hs hv a hf
  simp only [List.nil_append] at hs
  obtain ⟨a1, c1, rfl, hc1⟩ := slB_shape hs
  refine s_r hf (x_build (v := .agg #[.slice a1 data.length c1, .int .i64 0, .int .i64 0]) (hf.parts rfl) (fun w => by kernel_rfl) _) ?_; clear hf a; intro a hf
  refine s_do hf rfl (y_box hs (hf.eval rfl) ?_); clear hf hs a; intro b w hs a hf
  change St _ _ (cb b 119 [.slice a1 data.length c1, .int .i64 (0 : Nat), .int .i64 0] :: _) at hs
  refine s_a hf rfl ?_; clear hf a; intro a hf
  refine s_nil ?_
  refine then_n ?_
  refine wp_ret ?_
  refine r_1 hf Tryd.results48 rfl ?_
  exact ⟨b, rfl, curA_close hs⟩
theorem next_spec (σ : Sig) (w : World) (R : List Asrt) (p : Nat) (data : List UInt8) (at_ : Nat) (bad : Int) (n : Int) (hs : St σ w (curA 119 5 p data at_ bad :: R)) (hp0 : at_ ≤ data.length) (hl : data.length ≤ 140737488355328) (hn : n ≤ 9223372036854775807) :
    Calls Tryd.prog 78 #[.pointer (some ⟨p, 0, none⟩), .int .i64 n] w fun e w' => ∃ a c, e = .returned (.slice a (nextC data.length at_ bad n).2.2 c) ∧
      RdB (hp w') (.slice a (nextC data.length at_ bad n).2.2 c) ((data.drop at_).take (nextC data.length at_ bad n).2.2) ∧ St σ w' (curA 119 5 p data (nextC data.length at_ bad n).1 (nextC data.length at_ bad n).2.1 :: R) := by
  obtain ⟨v0, hs⟩ := curA_open hs
  obtain ⟨a0, c0, rfl, hc0⟩ := slB_shape (hs.take .k1)
  refine c_enter (N := 59) Tryd.func78 rfl Tryd.ntmps78 (by simp) ?_
  intro a hf
  refine wp_seq ?_
  refine wp_region_lit ?_
  refine s_a hf rfl ?_; clear hf a; intro a hf
  refine s_nil ?_
  refine then_n ?_
  refine wp_seq ?_
  refine wp_seq ?_
  refine wp_region_lit ?_
  refine s_m hf rfl ?_; clear hf a; intro a hf
  refine s_v hf (x_eqNil Tryd.underlying77 (hf.eval rfl) (hf.eval rfl)) ?_; clear hf a; intro a hf
  replace hf := hf.now (k := 7) (v' := .bool false) rfl rfl
  refine s_m hf rfl ?_; clear hf a; intro a hf
  refine s_do hf (wanted_of hf rfl rfl rfl) (.value (x_move (hf.eval rfl) _) ?_); clear hf a; intro a hf
  refine s_do hf (wanted_of hf rfl rfl rfl) (.value (x_nilCheck (hf.eval rfl) _) ?_); clear hf a; intro a hf
  refine s_do hf (wanted_of hf rfl rfl rfl) (.value (x_fieldAddr fo119_2 (hf.eval rfl) _) ?_); clear hf a; intro a hf
  refine s_do hf (wanted_of hf rfl rfl rfl) (.value (x_load sc26 (hf.eval rfl) (by first | exact hs.cell .k0 rfl | exact hs.cell .k1 rfl | exact hs.cell .k2 rfl | exact hs.cell .k3 rfl | exact hs.cell .k4 rfl | exact hs.cell .k5 rfl)) ?_); clear hf a; intro a hf
  refine s_do hf (wanted_of hf rfl rfl rfl) (.value (x_bin (hf.eval rfl) (hf.eval rfl) (r_ne _ _ _ _) _) ?_); clear hf a; intro a hf
  refine s_v hf (x_pick_f (hf.eval rfl) (hf.eval rfl)) ?_; clear hf a; intro a hf
  refine s_nil ?_
  refine then_n ?_
  refine c_cond hf rfl (fun hi0 => ?_) (fun hi0 => ?_)
  · simp only [decide_eq_true_eq, decide_eq_false_iff_not, Bool.not_eq_true', Bool.not_eq_false', Bool.not_eq_true, Int.not_lt, Int.not_le] at hi0
    refine wp_seq ?_
    refine wp_region_lit ?_
    refine s_a hf rfl ?_; clear hf a; intro a hf
    refine s_nil ?_
    refine then_n ?_
    refine wp_ret ?_
    refine then_r ?_
    refine r_1 hf Tryd.results78 rfl ?_
    have hN : nextC data.length at_ bad n = (at_, bad, 0) := by simp [nextC, hi0]
    rw [hN]
    exact ⟨none, 0, rfl, rdB_nil (by simp), curA_close hs⟩
  · simp only [decide_eq_true_eq, decide_eq_false_iff_not, Bool.not_eq_true', Bool.not_eq_false', Bool.not_eq_true, Int.not_lt, Int.not_le] at hi0
    have hb : bad = 0 := by simpa using hi0
    refine wp_skip ?_
    refine then_n ?_
    refine wp_seq ?_
    refine wp_seq ?_
    refine wp_region_lit ?_
    refine s_m hf rfl ?_; clear hf a; intro a hf
    refine s_v hf (x_bin (hf.eval rfl) (hf.eval rfl) (r_lt _ _ _ _)) ?_; clear hf a; intro a hf
    refine s_nil ?_
    refine then_n ?_
    refine c_cond hf rfl (fun hi1 => ?_) (fun hi1 => ?_)
    · simp only [decide_eq_true_eq, decide_eq_false_iff_not, Bool.not_eq_true', Bool.not_eq_false', Bool.not_eq_true, Int.not_lt, Int.not_le] at hi1
      refine wp_seq ?_
      refine wp_region_lit ?_
      refine s_m hf rfl ?_; clear hf a; intro a hf
      refine s_v hf (x_nilCheck (hf.eval rfl)) ?_; clear hf a; intro a hf
      refine s_v hf (x_fieldAddr fo119_2 (hf.eval rfl)) ?_; clear hf a; intro a hf
      refine s_do0 hf rfl (y_store hs sc26 (hf.eval rfl) (hf.eval rfl) rfl (by first | exact .k0 | exact .k1 | exact .k2 | exact .k3 | exact .k4 | exact .k5) (by simp) ?_); clear hf hs a; intro w hs a hf
      refine s_nil ?_
      refine then_n ?_
      refine wp_seq ?_
      refine wp_region_lit ?_
      refine s_a hf rfl ?_; clear hf a; intro a hf
      refine s_nil ?_
      refine then_n ?_
      refine wp_ret ?_
      refine then_r ?_
      refine r_1 hf Tryd.results78 rfl ?_
      have hN : nextC data.length at_ bad n = (at_, 1, 0) := by simp [nextC, hb, hi1]
      rw [hN]
      exact ⟨none, 0, rfl, rdB_nil (by simp), curA_close hs⟩
    · simp only [decide_eq_true_eq, decide_eq_false_iff_not, Bool.not_eq_true', Bool.not_eq_false', Bool.not_eq_true, Int.not_lt, Int.not_le] at hi1
      obtain ⟨m, rfl⟩ := Int.eq_ofNat_of_zero_le hi1
      refine wp_skip ?_
      refine then_n ?_
      refine wp_seq ?_
      refine wp_seq ?_
      refine c_draw hs (fun _ => True) [.held, .held, .held, .held, .read, .held, .held, .held, .held, .read, .held, .held] (by kernel_rfl) (by kernel_rfl) (fun _ _ _ => trivial) ?_
      clear hs; intro w hs hC hw
      refine m_held hf rfl (fun w' _ => x_move (hf.eval rfl) w') ?_; clear hf a; intro a hf
      refine m_held hf rfl (fun w' _ => x_move (hf.eval rfl) w') ?_; clear hf a; intro a hf
      refine m_held hf rfl (fun w' _ => x_nilCheck (hf.eval rfl) w') ?_; clear hf a; intro a hf
      refine m_held hf rfl (fun w' _ => x_fieldAddr fo119_0 (hf.eval rfl) w') ?_; clear hf a; intro a hf
      refine m_read hf rfl (x_load sc25 (hf.eval rfl) (by first | exact hs.cell .k0 rfl | exact hs.cell .k1 rfl | exact hs.cell .k2 rfl | exact hs.cell .k3 rfl | exact hs.cell .k4 rfl | exact hs.cell .k5 rfl)) ?_; clear hf a; intro a hf
      refine m_held hf rfl (fun w' _ => x_len Tryd.underlying25 (hf.eval rfl) w') ?_; clear hf a; intro a hf
      refine m_held hf rfl (fun w' _ => x_move (hf.eval rfl) w') ?_; clear hf a; intro a hf
      refine m_held hf rfl (fun w' _ => x_nilCheck (hf.eval rfl) w') ?_; clear hf a; intro a hf
      refine m_held hf rfl (fun w' _ => x_fieldAddr fo119_1 (hf.eval rfl) w') ?_; clear hf a; intro a hf
      refine m_read hf rfl (x_load sc3 (hf.eval rfl) (by first | exact hs.cell .k0 rfl | exact hs.cell .k1 rfl | exact hs.cell .k2 rfl | exact hs.cell .k3 rfl | exact hs.cell .k4 rfl | exact hs.cell .k5 rfl)) ?_; clear hf a; intro a hf
      refine m_held hf rfl (fun w' _ => x_bin (hf.eval rfl) (hf.eval rfl) (r_subi _ (by omega) (by omega)) w') ?_; clear hf a; intro a hf
      refine m_held hf rfl (fun w' _ => x_bin (hf.eval rfl) (hf.eval rfl) (r_gt _ _ _ _) w') ?_; clear hf a; intro a hf
      refine m_nil ?_
      refine then_n ?_
      refine c_cond hf rfl (fun hi2 => ?_) (fun hi2 => ?_)
      · simp only [decide_eq_true_eq, decide_eq_false_iff_not, Bool.not_eq_true', Bool.not_eq_false', Bool.not_eq_true, Int.not_lt, Int.not_le] at hi2
        refine wp_seq ?_
        refine wp_region_lit ?_
        refine s_m hf rfl ?_; clear hf a; intro a hf
        refine s_v hf (x_nilCheck (hf.eval rfl)) ?_; clear hf a; intro a hf
        refine s_v hf (x_fieldAddr fo119_2 (hf.eval rfl)) ?_; clear hf a; intro a hf
        refine s_do0 hf rfl (y_store hs sc26 (hf.eval rfl) (hf.eval rfl) rfl (by first | exact .k0 | exact .k1 | exact .k2 | exact .k3 | exact .k4 | exact .k5) (by simp) ?_); clear hf hs a; intro w hs a hf
        refine s_nil ?_
        refine then_n ?_
        refine wp_seq ?_
        refine wp_region_lit ?_
        refine s_a hf rfl ?_; clear hf a; intro a hf
        refine s_nil ?_
        refine then_n ?_
        refine wp_ret ?_
        refine then_r ?_
        refine r_1 hf Tryd.results78 rfl ?_
        have hN : nextC data.length at_ bad m = (at_, 20, 0) := by subst hb; unfold nextC; simp only [ne_eq, not_true_eq_false, if_false]; rw [if_neg (by omega), if_pos hi2]
        rw [hN]
        exact ⟨none, 0, rfl, rdB_nil (by simp), curA_close hs⟩
      · simp only [decide_eq_true_eq, decide_eq_false_iff_not, Bool.not_eq_true', Bool.not_eq_false', Bool.not_eq_true, Int.not_lt, Int.not_le] at hi2
        refine wp_skip ?_
        refine then_n ?_
        refine wp_seq ?_
        refine c_draw hs (fun _ => True) [.held, .held, .held, .read, .held, .held, .held, .read, .held, .held, .held, .read, .held, .held, .held, .held] (by kernel_rfl) (by kernel_rfl) (fun _ _ _ => trivial) ?_
        clear hs; intro w hs hC hw
        refine m_held hf rfl (fun w' _ => x_move (hf.eval rfl) w') ?_; clear hf a; intro a hf
        refine m_held hf rfl (fun w' _ => x_nilCheck (hf.eval rfl) w') ?_; clear hf a; intro a hf
        refine m_held hf rfl (fun w' _ => x_fieldAddr fo119_0 (hf.eval rfl) w') ?_; clear hf a; intro a hf
        refine m_read hf rfl (x_load sc25 (hf.eval rfl) (by first | exact hs.cell .k0 rfl | exact hs.cell .k1 rfl | exact hs.cell .k2 rfl | exact hs.cell .k3 rfl | exact hs.cell .k4 rfl | exact hs.cell .k5 rfl)) ?_; clear hf a; intro a hf
        refine m_held hf rfl (fun w' _ => x_move (hf.eval rfl) w') ?_; clear hf a; intro a hf
        refine m_held hf rfl (fun w' _ => x_nilCheck (hf.eval rfl) w') ?_; clear hf a; intro a hf
        refine m_held hf rfl (fun w' _ => x_fieldAddr fo119_1 (hf.eval rfl) w') ?_; clear hf a; intro a hf
        refine m_read hf rfl (x_load sc3 (hf.eval rfl) (by first | exact hs.cell .k0 rfl | exact hs.cell .k1 rfl | exact hs.cell .k2 rfl | exact hs.cell .k3 rfl | exact hs.cell .k4 rfl | exact hs.cell .k5 rfl)) ?_; clear hf a; intro a hf
        refine m_held hf rfl (fun w' _ => x_move (hf.eval rfl) w') ?_; clear hf a; intro a hf
        refine m_held hf rfl (fun w' _ => x_nilCheck (hf.eval rfl) w') ?_; clear hf a; intro a hf
        refine m_held hf rfl (fun w' _ => x_fieldAddr fo119_1 (hf.eval rfl) w') ?_; clear hf a; intro a hf
        refine m_read hf rfl (x_load sc3 (hf.eval rfl) (by first | exact hs.cell .k0 rfl | exact hs.cell .k1 rfl | exact hs.cell .k2 rfl | exact hs.cell .k3 rfl | exact hs.cell .k4 rfl | exact hs.cell .k5 rfl)) ?_; clear hf a; intro a hf
        refine m_held hf rfl (fun w' _ => x_move (hf.eval rfl) w') ?_; clear hf a; intro a hf
        refine m_held hf rfl (fun w' _ => x_bin (hf.eval rfl) (hf.eval rfl) (r_addi _ (by omega) (by omega)) w') ?_; clear hf a; intro a hf
        refine m_held hf rfl (fun w' _ => x_slice sl25 (hf.eval rfl) (hf.eval rfl) (hf.eval rfl)  (by omega) (by omega) (by omega)  w') ?_; clear hf a; intro a hf
        replace hf := hf.now (k := 49) (v' := .slice (subA a0 c0 at_ 1) m (c0 - at_)) rfl (by rw [show (((at_ : Int) + (m : Int)).toNat - (at_ : Int).toNat) = m by omega, show (at_ : Int).toNat = at_ by omega])
        refine m_held hf rfl (fun w' _ => x_assign (hf.eval rfl) w') ?_; clear hf a; intro a hf
        refine m_nil ?_
        refine then_n ?_
        refine wp_seq ?_
        refine wp_region_lit ?_
        refine s_m hf rfl ?_; clear hf a; intro a hf
        refine s_v hf (x_nilCheck (hf.eval rfl)) ?_; clear hf a; intro a hf
        refine s_v hf (x_fieldAddr fo119_1 (hf.eval rfl)) ?_; clear hf a; intro a hf
        refine s_r hf (x_load sc3 (hf.eval rfl) (by first | exact hs.cell .k0 rfl | exact hs.cell .k1 rfl | exact hs.cell .k2 rfl | exact hs.cell .k3 rfl | exact hs.cell .k4 rfl | exact hs.cell .k5 rfl)) ?_; clear hf a; intro a hf
        refine s_m hf rfl ?_; clear hf a; intro a hf
        refine s_v hf (x_bin (hf.eval rfl) (hf.eval rfl) (r_addi _ (by omega) (by omega))) ?_; clear hf a; intro a hf
        refine s_v hf (x_nilCheck (hf.eval rfl)) ?_; clear hf a; intro a hf
        refine s_v hf (x_fieldAddr fo119_1 (hf.eval rfl)) ?_; clear hf a; intro a hf
        refine s_do0 hf rfl (y_store hs sc3 (hf.eval rfl) (hf.eval rfl) rfl (by first | exact .k0 | exact .k1 | exact .k2 | exact .k3 | exact .k4 | exact .k5) (by simp) ?_); clear hf hs a; intro w hs a hf
        have hrd : RdB (hp w) (.slice a0 data.length c0) data := hs.rdB .k1 fun h => slB_rd
        refine s_nil ?_
        refine then_n ?_
        refine wp_seq ?_
        refine wp_region_lit ?_
        refine s_m hf rfl ?_; clear hf a; intro a hf
        refine s_a hf rfl ?_; clear hf a; intro a hf
        refine s_nil ?_
        refine then_n ?_
        refine wp_ret ?_
        refine r_1 hf Tryd.results78 rfl ?_
        have hN : nextC data.length at_ bad m = (at_ + m, 0, m) := by subst hb; unfold nextC; simp only [ne_eq, not_true_eq_false, if_false]; rw [if_neg (by omega), if_neg (by omega)]; rfl
        rw [hN]
        subst hb
        exact ⟨_, _, rfl, RdB.sub (i := at_) (j := at_ + m) hrd rfl (by omega) (by omega) |> (fun h => by simpa using h), curA_close hs⟩
theorem skip_spec (σ : Sig) (w : World) (R : List Asrt) (p : Nat) (data : List UInt8) (at_ : Nat) (bad : Int) (n : Int) (hs : St σ w (curA 119 5 p data at_ bad :: R)) (hp0 : at_ ≤ data.length) (hl : data.length ≤ 140737488355328) (hn : n ≤ 9223372036854775807) :
    Calls Tryd.prog 49 #[.pointer (some ⟨p, 0, none⟩), .int .i64 n] w fun e w' => e = .returned (.tuple #[]) ∧ St σ w' (curA 119 5 p data (nextC data.length at_ bad n).1 (nextC data.length at_ bad n).2.1 :: R) := by
  refine c_enter (N := 7) Tryd.func49 rfl Tryd.ntmps49 (by simp) ?_
  intro a hf
  refine wp_region_lit ?_
  refine s_m hf rfl ?_; clear hf a; intro a hf
  refine s_m hf rfl ?_; clear hf a; intro a hf
  refine s_do hf rfl (y_call (hf.eval rfl) (hf.evals rfl) Tryd.call78 ((next_spec σ w R p data at_ bad n hs hp0 hl hn).mono ?_))
  rintro e w1 ⟨a1, c1, rfl, hr, hs⟩
  refine ⟨_, rfl, ?_⟩; clear hf a; intro a hf
  refine s_nil ?_
  refine r_0n hf Tryd.results49 ?_
  exact ⟨rfl, hs⟩
theorem left_spec (σ : Sig) (w : World) (R : List Asrt) (p : Nat) (data : List UInt8) (at_ : Nat) (bad : Int) (hs : St σ w (curA 119 5 p data at_ bad :: R)) (hp0 : at_ ≤ data.length) (hl : data.length ≤ 140737488355328) :
    Calls Tryd.prog 116 #[.pointer (some ⟨p, 0, none⟩)] w fun e w' => e = .returned (.int .i64 ((data.length : Int) - at_)) ∧ St σ w' (curA 119 5 p data at_ bad :: R) := by
  obtain ⟨v0, hs⟩ := curA_open hs
  obtain ⟨a0, c0, rfl, hc0⟩ := slB_shape (hs.take .k1)
  refine c_enter (N := 15) Tryd.func116 rfl Tryd.ntmps116 (by simp) ?_
  intro a hf
  refine wp_seq ?_
  refine wp_region_lit ?_
  refine s_a hf rfl ?_; clear hf a; intro a hf
  refine s_nil ?_
  refine then_n ?_
  refine wp_seq ?_
  refine wp_seq ?_
  refine wp_region_lit ?_
  refine s_m hf rfl ?_; clear hf a; intro a hf
  refine s_v hf (x_eqNil Tryd.underlying77 (hf.eval rfl) (hf.eval rfl)) ?_; clear hf a; intro a hf
  replace hf := hf.now (k := 4) (v' := .bool false) rfl rfl
  refine s_nil ?_
  refine then_n ?_
  refine c_cond_f hf rfl rfl ?_
  refine wp_skip ?_
  refine then_n ?_
  refine wp_seq ?_
  refine c_draw hs (fun _ => True) [.held, .held, .held, .read, .held, .held, .held, .held, .read, .held, .held] (by kernel_rfl) (by kernel_rfl) (fun _ _ _ => trivial) ?_
  clear hs; intro w hs hC hw
  refine m_held hf rfl (fun w' _ => x_move (hf.eval rfl) w') ?_; clear hf a; intro a hf
  refine m_held hf rfl (fun w' _ => x_nilCheck (hf.eval rfl) w') ?_; clear hf a; intro a hf
  refine m_held hf rfl (fun w' _ => x_fieldAddr fo119_0 (hf.eval rfl) w') ?_; clear hf a; intro a hf
  refine m_read hf rfl (x_load sc25 (hf.eval rfl) (by first | exact hs.cell .k0 rfl | exact hs.cell .k1 rfl | exact hs.cell .k2 rfl | exact hs.cell .k3 rfl | exact hs.cell .k4 rfl | exact hs.cell .k5 rfl)) ?_; clear hf a; intro a hf
  refine m_held hf rfl (fun w' _ => x_len Tryd.underlying25 (hf.eval rfl) w') ?_; clear hf a; intro a hf
  refine m_held hf rfl (fun w' _ => x_move (hf.eval rfl) w') ?_; clear hf a; intro a hf
  refine m_held hf rfl (fun w' _ => x_nilCheck (hf.eval rfl) w') ?_; clear hf a; intro a hf
  refine m_held hf rfl (fun w' _ => x_fieldAddr fo119_1 (hf.eval rfl) w') ?_; clear hf a; intro a hf
  refine m_read hf rfl (x_load sc3 (hf.eval rfl) (by first | exact hs.cell .k0 rfl | exact hs.cell .k1 rfl | exact hs.cell .k2 rfl | exact hs.cell .k3 rfl | exact hs.cell .k4 rfl | exact hs.cell .k5 rfl)) ?_; clear hf a; intro a hf
  refine m_held hf rfl (fun w' _ => x_bin (hf.eval rfl) (hf.eval rfl) (r_subi _ (by omega) (by omega)) w') ?_; clear hf a; intro a hf
  refine m_held hf rfl (fun w' _ => x_assign (hf.eval rfl) w') ?_; clear hf a; intro a hf
  refine m_nil ?_
  refine then_n ?_
  refine wp_ret ?_
  refine r_1 hf Tryd.results116 rfl ?_
  exact ⟨rfl, curA_close hs⟩
theorem err_spec (σ : Sig) (w : World) (R : List Asrt) (p : Nat) (data : List UInt8) (at_ : Nat) (bad : Int) (hs : St σ w (curA 119 5 p data at_ bad :: R)) (hp0 : at_ ≤ data.length) (hl : data.length ≤ 140737488355328) :
    Calls Tryd.prog 51 #[.pointer (some ⟨p, 0, none⟩)] w fun e w' => e = .returned (.int .i64 bad) ∧ St σ w' (curA 119 5 p data at_ bad :: R) := by
  obtain ⟨v0, hs⟩ := curA_open hs
  obtain ⟨a0, c0, rfl, hc0⟩ := slB_shape (hs.take .k1)
  refine c_enter (N := 9) Tryd.func51 rfl Tryd.ntmps51 (by simp) ?_
  intro a hf
  refine wp_seq ?_
  refine wp_region_lit ?_
  refine s_a hf rfl ?_; clear hf a; intro a hf
  refine s_nil ?_
  refine then_n ?_
  refine wp_seq ?_
  refine wp_seq ?_
  refine wp_region_lit ?_
  refine s_m hf rfl ?_; clear hf a; intro a hf
  refine s_v hf (x_eqNil Tryd.underlying77 (hf.eval rfl) (hf.eval rfl)) ?_; clear hf a; intro a hf
  replace hf := hf.now (k := 4) (v' := .bool false) rfl rfl
  refine s_nil ?_
  refine then_n ?_
  refine c_cond_f hf rfl rfl ?_
  refine wp_skip ?_
  refine then_n ?_
  refine wp_seq ?_
  refine wp_region_lit ?_
  refine s_m hf rfl ?_; clear hf a; intro a hf
  refine s_v hf (x_nilCheck (hf.eval rfl)) ?_; clear hf a; intro a hf
  refine s_v hf (x_fieldAddr fo119_2 (hf.eval rfl)) ?_; clear hf a; intro a hf
  refine s_r hf (x_load sc26 (hf.eval rfl) (by first | exact hs.cell .k0 rfl | exact hs.cell .k1 rfl | exact hs.cell .k2 rfl | exact hs.cell .k3 rfl | exact hs.cell .k4 rfl | exact hs.cell .k5 rfl)) ?_; clear hf a; intro a hf
  refine s_a hf rfl ?_; clear hf a; intro a hf
  refine s_nil ?_
  refine then_n ?_
  refine wp_ret ?_
  refine r_1 hf Tryd.results51 rfl ?_
  exact ⟨rfl, curA_close hs⟩
theorem number_spec (σ : Sig) (w : World) (R : List Asrt) (p : Nat) (data : List UInt8) (at_ : Nat) (bad : Int) (n : Nat) (hs : St σ w (curA 119 5 p data at_ bad :: R)) (hp0 : at_ ≤ data.length) (hl : data.length ≤ 140737488355328) (hn : n ≤ 4) :
    Calls Tryd.prog 79 #[.pointer (some ⟨p, 0, none⟩), .int .i64 (n : Int)] w fun e w' => e = .returned (.int .i64 ((leN ((data.drop at_).take (nextC data.length at_ bad n).2.2) : Nat) : Int)) ∧ St σ w' (curA 119 5 p data (nextC data.length at_ bad n).1 (nextC data.length at_ bad n).2.1 :: R) := by
  refine c_enter (N := 27) Tryd.func79 rfl Tryd.ntmps79 (by simp) ?_
  intro a hf
  refine wp_seq ?_
  refine wp_region_lit ?_
  refine s_a hf rfl ?_; clear hf a; intro a hf
  refine s_nil ?_
  refine then_n ?_
  refine wp_seq ?_
  refine wp_region_lit ?_
  refine s_m hf rfl ?_; clear hf a; intro a hf
  refine s_m hf rfl ?_; clear hf a; intro a hf
  refine s_do hf rfl (y_call (hf.eval rfl) (hf.evals rfl) Tryd.call78 ((next_spec σ w R p data at_ bad n hs hp0 hl (by omega)).mono ?_))
  rintro e w1 ⟨a1, c1, rfl, hr, hs⟩
  have hlen : ((data.drop at_).take (nextC data.length at_ bad n).2.2).length = (nextC data.length at_ bad n).2.2 := by obtain ⟨_, _, e⟩ := hr.shape; injection e with _ e _; exact e.symm
  have hle4 := nextC_take (len := data.length) (at_ := at_) bad n 4 hn
  generalize hk : (nextC data.length at_ bad n).2.2 = k at hr hlen hle4 ⊢
  generalize (data.drop at_).take k = l at hr hlen ⊢
  subst hlen
  clear hk
  rename World => w1
  refine ⟨_, rfl, ?_⟩; clear hf a; intro a hf
  refine s_a hf rfl ?_; clear hf a; intro a hf
  refine s_nil ?_
  refine then_n ?_
  refine wp_seq ?_
  refine wp_region_lit ?_
  refine s_a hf rfl ?_; clear hf a; intro a hf
  refine s_nil ?_
  refine then_n ?_
  refine wp_seq ?_
  refine wp_seq ?_
  refine wp_region_lit ?_
  refine s_m hf rfl ?_; clear hf a; intro a hf
  refine s_v hf (x_len Tryd.underlying25 (hf.eval rfl)) ?_; clear hf a; intro a hf
  refine s_v hf (x_bin (hf.eval rfl) (hf.eval rfl) (r_subi _ (by omega) (by omega))) ?_; clear hf a; intro a hf
  refine s_a hf rfl ?_; clear hf a; intro a hf
  refine s_nil ?_
  refine then_n ?_
  refine wp_block ?_
  refine c_loop (L0 := [(4, _), (5, _)]) (fun M w m => ∃ j : Nat, M = [(6, .int .i64 ((leN (l.drop j) : Nat) : Int)), (7, .int .i64 ((j : Int) - 1))] ∧ j = m ∧ j ≤ l.length ∧ w = w1) (M0 := [(6, .int .i64 (0 : Nat)), (7, .int .i64 ((l.length : Int) - 1))]) (⟨l.length, by simp [leN], rfl, Nat.le_refl _, rfl⟩) (hf.sub ⟨rfl, rfl, rfl, rfl, trivial⟩) ?_
  clear hf a
  rintro M m a w ⟨j, rfl, rfl, hj, rfl⟩ hf
  refine wp_seq ?_
  refine wp_seq ?_
  refine wp_region_lit ?_
  refine s_m hf rfl ?_; clear hf a; intro a hf
  refine s_v hf (x_bin (hf.eval rfl) (hf.eval rfl) (r_ge _ _ _ _)) ?_; clear hf a; intro a hf
  refine s_nil ?_
  refine then_n ?_
  refine c_cond hf rfl (fun hi0 => ?_) (fun hi0 => ?_)
  · simp only [decide_eq_true_eq, decide_eq_false_iff_not, Bool.not_eq_true', Bool.not_eq_false', Bool.not_eq_true, Int.not_lt, Int.not_le] at hi0
    obtain ⟨j, rfl⟩ : ∃ i, j = i + 1 := ⟨j - 1, by omega⟩
    obtain ⟨a2, rfl⟩ := hr.some (by omega)
    have hb := leN_lt3 (l := l.drop (j + 1)) (by simp; omega)
    have hj2 : ((j + 1 : Nat) : Int) - 1 = j := by omega
    rw [hj2] at hf
    refine wp_skip ?_
    refine then_n ?_
    refine wp_seq ?_
    refine wp_block ?_
    refine wp_region_lit ?_
    refine s_m hf rfl ?_; clear hf a; intro a hf
    refine s_v hf (x_bin (hf.eval rfl) (hf.eval rfl) (r_shl8 _ (by omega) (by omega))) ?_; clear hf a; intro a hf
    refine s_m hf rfl ?_; clear hf a; intro a hf
    refine s_m hf rfl ?_; clear hf a; intro a hf
    refine s_v hf (x_indexAddr sl25 (hf.eval rfl) (hf.eval rfl) (by omega) (by omega)) ?_; clear hf a; intro a hf
    refine s_r hf (x_loadB sc5 hr (hf.eval rfl) (by omega)) ?_; clear hf a; intro a hf
    refine s_v hf (x_convr Tryd.underlying5 Tryd.underlying3 (hf.eval rfl) (wrap_byte _)) ?_; clear hf a; intro a hf
    refine s_v hf (x_bin (hf.eval rfl) (hf.eval rfl) (r_or_i64 _ (x := leN (l.drop (j + 1)) * 256) (y := (l[j]).toNat) (by omega) (by have := toNat_lt l[j]; omega))) ?_; clear hf a; intro a hf
    refine s_a hf rfl ?_; clear hf a; intro a hf
    replace hf := hf.now (k := 6) (v' := .int .i64 ((leN (l.drop j) : Nat) : Int)) rfl (by rw [leN_drop (show j < l.length by omega), or_256 _ _ (toNat_lt _), Nat.mul_comm 256, Nat.add_comm])
    refine s_nil ?_
    refine blk_n ?_
    refine then_n ?_
    refine wp_region_lit ?_
    refine s_m hf rfl ?_; clear hf a; intro a hf
    refine s_v hf (x_bin (hf.eval rfl) (hf.eval rfl) (r_subi _ (by omega) (by omega))) ?_; clear hf a; intro a hf
    refine s_a hf rfl ?_; clear hf a; intro a hf
    refine s_nil ?_
    exact ⟨_, _, ⟨j, rfl, rfl, by omega, rfl⟩, by omega, hf.sub ⟨rfl, rfl, rfl, rfl, trivial⟩⟩
  · simp only [decide_eq_true_eq, decide_eq_false_iff_not, Bool.not_eq_true', Bool.not_eq_false', Bool.not_eq_true, Int.not_lt, Int.not_le] at hi0
    refine wp_exit ?_
    refine then_x ?_
    refine then_x ?_
    refine blk_x ?_
    refine then_n ?_
    refine wp_seq ?_
    refine wp_region_lit ?_
    refine s_m hf rfl ?_; clear hf a; intro a hf
    refine s_a hf rfl ?_; clear hf a; intro a hf
    refine s_nil ?_
    refine then_n ?_
    refine wp_ret ?_
    refine r_1 hf Tryd.results79 rfl ?_
    obtain rfl : j = 0 := by omega
    exact ⟨by simp, hs⟩
theorem u32_spec (σ : Sig) (w : World) (R : List Asrt) (p : Nat) (data : List UInt8) (at_ : Nat) (bad : Int) (hs : St σ w (curA 119 5 p data at_ bad :: R)) (hp0 : at_ ≤ data.length) (hl : data.length ≤ 140737488355328) :
    Calls Tryd.prog 50 #[.pointer (some ⟨p, 0, none⟩)] w fun e w' => e = .returned (.int .i64 ((leN ((data.drop at_).take (nextC data.length at_ bad 4).2.2) : Nat) : Int)) ∧ St σ w' (curA 119 5 p data (nextC data.length at_ bad 4).1 (nextC data.length at_ bad 4).2.1 :: R) := by
  refine c_enter (N := 5) Tryd.func50 rfl Tryd.ntmps50 (by simp) ?_
  intro a hf
  refine wp_seq ?_
  refine wp_region_lit ?_
  refine s_a hf rfl ?_; clear hf a; intro a hf
  refine s_nil ?_
  refine then_n ?_
  refine wp_seq ?_
  refine wp_region_lit ?_
  refine s_m hf rfl ?_; clear hf a; intro a hf
  refine s_do hf rfl (y_call (hf.eval rfl) (hf.evals rfl) Tryd.call79 ((number_spec σ w R p data at_ bad 4 hs hp0 hl (by omega)).mono ?_))
  rintro e w1 ⟨rfl, hs⟩
  refine ⟨_, rfl, ?_⟩; clear hf a; intro a hf
  refine s_a hf rfl ?_; clear hf a; intro a hf
  refine s_nil ?_
  refine then_n ?_
  refine wp_ret ?_
  refine r_1 hf Tryd.results50 rfl ?_
  exact ⟨rfl, hs⟩
theorem text_spec (σ : Sig) (w : World) (R : List Asrt) (p : Nat) (data : List UInt8) (at_ : Nat) (bad : Int) (n : Int) (hs : St σ w (curA 119 5 p data at_ bad :: R)) (hp0 : at_ ≤ data.length) (hl : data.length ≤ 140737488355328) (hn : n ≤ 9223372036854775807) :
    Calls Tryd.prog 115 #[.pointer (some ⟨p, 0, none⟩), .int .i64 n] w fun e w' => e = .returned (.string ⟨((data.drop at_).take (nextC data.length at_ bad n).2.2).toArray⟩) ∧ St σ w' (curA 119 5 p data (nextC data.length at_ bad n).1 (nextC data.length at_ bad n).2.1 :: R) := by
  refine c_enter (N := 9) Tryd.func115 rfl Tryd.ntmps115 (by simp) ?_
  intro a hf
  refine wp_seq ?_
  refine wp_region_lit ?_
  refine s_a hf rfl ?_; clear hf a; intro a hf
  refine s_nil ?_
  refine then_n ?_
  refine wp_seq ?_
  refine wp_region_lit ?_
  refine s_m hf rfl ?_; clear hf a; intro a hf
  refine s_m hf rfl ?_; clear hf a; intro a hf
  refine s_do hf rfl (y_call (hf.eval rfl) (hf.evals rfl) Tryd.call78 ((next_spec σ w R p data at_ bad n hs hp0 hl hn).mono ?_))
  rintro e w1 ⟨a1, c1, rfl, hr, hs⟩
  refine ⟨_, rfl, ?_⟩; clear hf a; intro a hf
  refine s_r hf (x_bytesStr Tryd.underlying25 Tryd.underlying9 Tryd.underlying5 (hf.eval rfl) hr) ?_; clear hf a; intro a hf
  refine s_a hf rfl ?_; clear hf a; intro a hf
  refine s_nil ?_
  refine then_n ?_
  refine wp_ret ?_
  refine r_1 hf Tryd.results115 rfl ?_
  exact ⟨rfl, hs⟩
end Go.Proofs.YtehakfbfjpolfaaDoor

namespace Go.Proofs.YtehakfbfjpolfaaDoor
open Go Vw
theorem eqi {P : Program} (d : Nat) {t : Nat} {k : IntKind} (h : P.underlying t = some (.int k)) (n : Int) (w : World) : (Op.equalIn (d + 1) t (.int k n) (.int k n)).run P w = .ok true w := by
  simp [Op.equalIn, run_underlying h]
theorem pt3 (xs : Array Value) (k : Nat) (w : World) (v : Value) (h : xs[k]? = some v) : (part 3 xs k).run Tryd.prog w = .ok v w := by
  simp [part, go_sem, (fun w => Tryd.isAgg3 w), h]
theorem beq_iff_decide (l m : List UInt8) : (l == m) = decide (l = m) := by
  by_cases h : l = m
  · subst h; simp
  · rw [decide_eq_false h]; exact beq_eq_false_iff_ne.2 h
theorem bequal_spec (w0 : World) (a1 : Option Addr) (c1 : Nat) (l1 : List UInt8) (hr1 : RdB (hp w0) (.slice a1 l1.length c1) l1) (a2 : Option Addr) (c2 : Nat) (l2 : List UInt8) (hr2 : RdB (hp w0) (.slice a2 l2.length c2) l2) : Calls Tryd.prog 52 #[.slice a1 l1.length c1, .slice a2 l2.length c2] w0 fun e w' => e = .returned (.bool (decide (l1 = l2))) ∧ w' = w0 := by
  refine c_enter (N := 10) Tryd.func52 rfl Tryd.ntmps52 (by simp) ?_
  intro a hf
  refine wp_seq ?_
  refine wp_region_lit ?_
  refine s_a hf rfl ?_; clear hf a; intro a hf
  refine s_nil ?_
  refine then_n ?_
  refine wp_seq ?_
  refine wp_region_lit ?_
  refine s_m hf rfl ?_; clear hf a; intro a hf
  refine s_r hf (x_bytesStr Tryd.underlying25 Tryd.underlying9 Tryd.underlying5 (hf.eval rfl) hr1) ?_; clear hf a; intro a hf
  refine s_m hf rfl ?_; clear hf a; intro a hf
  refine s_r hf (x_bytesStr Tryd.underlying25 Tryd.underlying9 Tryd.underlying5 (hf.eval rfl) hr2) ?_; clear hf a; intro a hf
  refine s_v hf (x_strEq (hf.eval rfl) (hf.eval rfl)) ?_; clear hf a; intro a hf
  refine s_a hf rfl ?_; clear hf a; intro a hf
  refine s_nil ?_
  refine then_n ?_
  refine wp_ret ?_
  refine r_1 hf Tryd.results52 rfl ?_
  exact ⟨by congr 2; rw [bytes_toList, bytes_toList]; exact (beq_iff_decide l1 l2), rfl⟩
theorem decode_big (w0 : World) (hT : Tab 0 (hp w0)) (a1 : Option Addr) (c1 : Nat) (data : List UInt8) (hr1 : RdB (hp w0) (.slice a1 data.length c1) data) (hl1 : data.length ≤ 140737488351232) (h36 : 36 ≤ data.length) : Calls Tryd.prog 16 #[.slice a1 data.length c1] w0 fun e w' => e = .returned (.tuple #[.agg (slF (decV data)).toArray, .int .i64 (decE data)]) ∧ Kept w0 w' None_ := by
  have hs := St.start w0 None_
  refine c_enter (N := 48) Tryd.func16 rfl Tryd.ntmps16 (by simp) ?_
  intro a hf
  refine wp_seq ?_
  refine wp_region_lit ?_
  refine s_do hf rfl (y_alloc hs Tryd.zeroValue24 ?_); clear hf hs a; intro b2 w hs a hf
  change St _ _ (cb b2 24 (slF zSl) :: _) at hs
  refine s_a hf rfl ?_; clear hf a; intro a hf
  refine s_nil ?_
  refine then_n ?_
  refine wp_seq ?_
  refine wp_region_lit ?_
  refine s_m hf rfl ?_; clear hf a; intro a hf
  refine s_do hf rfl (y_call (hf.eval rfl) (hf.evals rfl) Tryd.call48 ((newCursor_spec _ _ _ data (hs.oldB hr1) hl1).mono ?_))
  rintro e w1 ⟨p, rfl, hj⟩
  replace hs := hs.join hj
  simp only [List.cons_append, List.nil_append] at hs
  refine ⟨_, rfl, ?_⟩; clear hf a; intro a hf
  refine s_a hf rfl ?_; clear hf a; intro a hf
  refine s_nil ?_
  refine then_n ?_
  refine wp_seq ?_
  refine wp_region_lit ?_
  refine s_m hf rfl ?_; clear hf a; intro a hf
  replace hs := hs.take (A := curA 119 5 p data 0 0) (by first | exact .k0 | exact .k1 | exact .k2 | exact .k3 | exact .k4 | exact .k5 | exact .k6 | exact .k7 | exact .k8 | exact .k9 | exact .k10 | exact .k11)
  refine s_do hf rfl (y_call (hf.eval rfl) (hf.evals rfl) Tryd.call49 ((skip_spec _ _ _ p data 0 0 8 hs (by omega) (by omega) (by omega)).mono ?_))
  rintro e w1 ⟨rfl, hs⟩
  rw [nx8 (by omega)] at hs
  simp only [] at hs
  refine ⟨_, rfl, ?_⟩; clear hf a; intro a hf
  refine s_nil ?_
  refine then_n ?_
  refine wp_seq ?_
  refine wp_region_lit ?_
  refine s_m hf rfl ?_; clear hf a; intro a hf
  replace hs := hs.take (A := curA 119 5 p data 8 0) (by first | exact .k0 | exact .k1 | exact .k2 | exact .k3 | exact .k4 | exact .k5 | exact .k6 | exact .k7 | exact .k8 | exact .k9 | exact .k10 | exact .k11)
  refine s_do hf rfl (y_call (hf.eval rfl) (hf.evals rfl) Tryd.call50 ((u32_spec _ _ _ p data 8 0 hs (by omega) (by omega)).mono ?_))
  rintro e w1 ⟨rfl, hs⟩
  rw [nx4 (by omega)] at hs ⊢
  simp only [] at hs ⊢
  change St _ _ (curA 119 5 p data 12 0 :: _) at hs
  refine ⟨_, rfl, ?_⟩; clear hf a; intro a hf
  refine s_m hf rfl ?_; clear hf a; intro a hf
  replace hs := hs.take (A := curA 119 5 p data 12 0) (by first | exact .k0 | exact .k1 | exact .k2 | exact .k3 | exact .k4 | exact .k5 | exact .k6 | exact .k7 | exact .k8 | exact .k9 | exact .k10 | exact .k11)
  refine s_do hf rfl (y_call (hf.eval rfl) (hf.evals rfl) Tryd.call50 ((u32_spec _ _ _ p data 12 0 hs (by omega) (by omega)).mono ?_))
  rintro e w1 ⟨rfl, hs⟩
  rw [nx4 (by omega)] at hs ⊢
  simp only [] at hs ⊢
  change St _ _ (curA 119 5 p data 16 0 :: _) at hs
  refine ⟨_, rfl, ?_⟩; clear hf a; intro a hf
  refine s_m hf rfl ?_; clear hf a; intro a hf
  replace hs := hs.take (A := curA 119 5 p data 16 0) (by first | exact .k0 | exact .k1 | exact .k2 | exact .k3 | exact .k4 | exact .k5 | exact .k6 | exact .k7 | exact .k8 | exact .k9 | exact .k10 | exact .k11)
  refine s_do hf rfl (y_call (hf.eval rfl) (hf.evals rfl) Tryd.call50 ((u32_spec _ _ _ p data 16 0 hs (by omega) (by omega)).mono ?_))
  rintro e w1 ⟨rfl, hs⟩
  rw [nx4 (by omega)] at hs ⊢
  simp only [] at hs ⊢
  change St _ _ (curA 119 5 p data 20 0 :: _) at hs
  refine ⟨_, rfl, ?_⟩; clear hf a; intro a hf
  refine s_m hf rfl ?_; clear hf a; intro a hf
  replace hs := hs.take (A := curA 119 5 p data 20 0) (by first | exact .k0 | exact .k1 | exact .k2 | exact .k3 | exact .k4 | exact .k5 | exact .k6 | exact .k7 | exact .k8 | exact .k9 | exact .k10 | exact .k11)
  refine s_do hf rfl (y_call (hf.eval rfl) (hf.evals rfl) Tryd.call50 ((u32_spec _ _ _ p data 20 0 hs (by omega) (by omega)).mono ?_))
  rintro e w1 ⟨rfl, hs⟩
  rw [nx4 (by omega)] at hs ⊢
  simp only [] at hs ⊢
  change St _ _ (curA 119 5 p data 24 0 :: _) at hs
  refine ⟨_, rfl, ?_⟩; clear hf a; intro a hf
  refine s_m hf rfl ?_; clear hf a; intro a hf
  replace hs := hs.take (A := curA 119 5 p data 24 0) (by first | exact .k0 | exact .k1 | exact .k2 | exact .k3 | exact .k4 | exact .k5 | exact .k6 | exact .k7 | exact .k8 | exact .k9 | exact .k10 | exact .k11)
  refine s_do hf rfl (y_call (hf.eval rfl) (hf.evals rfl) Tryd.call50 ((u32_spec _ _ _ p data 24 0 hs (by omega) (by omega)).mono ?_))
  rintro e w1 ⟨rfl, hs⟩
  rw [nx4 (by omega)] at hs ⊢
  simp only [] at hs ⊢
  change St _ _ (curA 119 5 p data 28 0 :: _) at hs
  refine ⟨_, rfl, ?_⟩; clear hf a; intro a hf
  refine s_m hf rfl ?_; clear hf a; intro a hf
  replace hs := hs.take (A := curA 119 5 p data 28 0) (by first | exact .k0 | exact .k1 | exact .k2 | exact .k3 | exact .k4 | exact .k5 | exact .k6 | exact .k7 | exact .k8 | exact .k9 | exact .k10 | exact .k11)
  refine s_do hf rfl (y_call (hf.eval rfl) (hf.evals rfl) Tryd.call50 ((u32_spec _ _ _ p data 28 0 hs (by omega) (by omega)).mono ?_))
  rintro e w1 ⟨rfl, hs⟩
  rw [nx4 (by omega)] at hs ⊢
  simp only [] at hs ⊢
  change St _ _ (curA 119 5 p data 32 0 :: _) at hs
  refine ⟨_, rfl, ?_⟩; clear hf a; intro a hf
  refine s_m hf rfl ?_; clear hf a; intro a hf
  replace hs := hs.take (A := curA 119 5 p data 32 0) (by first | exact .k0 | exact .k1 | exact .k2 | exact .k3 | exact .k4 | exact .k5 | exact .k6 | exact .k7 | exact .k8 | exact .k9 | exact .k10 | exact .k11)
  refine s_do hf rfl (y_call (hf.eval rfl) (hf.evals rfl) Tryd.call50 ((u32_spec _ _ _ p data 32 0 hs (by omega) (by omega)).mono ?_))
  rintro e w1 ⟨rfl, hs⟩
  rw [nx4 (by omega)] at hs ⊢
  simp only [] at hs ⊢
  change St _ _ (curA 119 5 p data 36 0 :: _) at hs
  refine ⟨_, rfl, ?_⟩; clear hf a; intro a hf
  have hlast : rd32 data 32 < 4294967296 := rd32_lt data 32
  refine s_v hf (x_conv Tryd.underlying3 Tryd.underlying22 (hf.eval rfl)) ?_; clear hf a; intro a hf
  replace hf := hf.now (k := 26) (v' := .int .u32 ((rd32 data 32 : Nat) : Int)) rfl (by rw [wrap_u32]; congr 1; have h9 : leN ((data.drop 32).take 4) < 4294967296 := hlast; show _ = ((leN ((data.drop 32).take 4) : Nat) : Int); omega)
  refine s_r hf (x_build (v := .agg (slF (dsF data : Sl)).toArray) (hf.parts rfl) (fun w => by kernel_rfl) _) ?_; clear hf a; intro a hf
  refine s_do hf rfl (y_alloc hs Tryd.zeroValue24 ?_); clear hf hs a; intro b5 w hs a hf
  change St _ _ (cb b5 24 (slF zSl) :: _) at hs
  refine s_do0 hf rfl (y_storeAgg (cs := slF (dsF data : Sl)) hs (n := 7) (by kernel_rfl) (hf.eval rfl) (hf.eval rfl) (by simp [Value.oneCell', slF]) rfl rfl .k0 ?_); clear hf hs a; intro w hs a hf
  refine s_nil ?_
  refine then_n ?_
  refine wp_seq ?_
  refine wp_region_lit ?_
  replace hs := hs.take (A := cb b5 24 (slF (dsF data : Sl))) (by first | exact .k0 | exact .k1 | exact .k2 | exact .k3 | exact .k4 | exact .k5 | exact .k6 | exact .k7 | exact .k8 | exact .k9 | exact .k10 | exact .k11)
  refine s_r hf (x_loadBlk hs ag24 (hf.eval rfl) rfl (by first | exact .k0 | exact .k1 | exact .k2 | exact .k3 | exact .k4 | exact .k5 | exact .k6 | exact .k7 | exact .k8 | exact .k9)) ?_; clear hf a; intro a hf
  refine s_do hf rfl (y_call (hf.eval rfl) (hf.evals rfl) Tryd.call10 ((encode_spec _ (hT.kept hs.kept) (dsF data : Sl) (by first | exact rd32_lt data 32 | exact hlast)).mono ?_))
  rintro e w1 ⟨g, cg, rfl, hj⟩
  replace hs := hs.join hj
  simp only [List.cons_append, List.nil_append] at hs
  refine ⟨_, rfl, ?_⟩; clear hf a; intro a hf
  refine s_m hf rfl ?_; clear hf a; intro a hf
  refine s_v hf (x_extract (hf.eval rfl) rfl) ?_; clear hf a; intro a hf
  refine s_v hf (x_extract (hf.eval rfl) rfl) ?_; clear hf a; intro a hf
  refine s_a hf rfl ?_; clear hf a; intro a hf
  refine s_a hf rfl ?_; clear hf a; intro a hf
  refine s_nil ?_
  refine then_n ?_
  refine wp_seq ?_
  refine wp_seq ?_
  refine wp_region_lit ?_
  refine s_m hf rfl ?_; clear hf a; intro a hf
  refine s_v hf (x_bin (hf.eval rfl) (hf.eval rfl) (r_ne _ _ _ _)) ?_; clear hf a; intro a hf
  refine s_m hf rfl ?_; clear hf a; intro a hf
  refine s_bool hf (k := 35) rfl (fun hg5_2 hf' => ?_) (fun hg5_2 hf' => ?_)
  · clear hf
    have hf := hf'
    clear hf'
    first | simp only [decide_eq_true_eq, decide_eq_false_iff_not, Bool.not_eq_true', Bool.not_eq_false'] at hg5_2 | skip
    refine s_pass hf rfl rfl ?_; clear hf a; intro a hf
    refine s_pass hf rfl rfl ?_; clear hf a; intro a hf
    refine s_pass hf rfl rfl ?_; clear hf a; intro a hf
    refine s_v hf (x_pick_t (hf.eval rfl) (hf.eval rfl)) ?_; clear hf a; intro a hf
    refine s_m hf rfl ?_; clear hf a; intro a hf
    refine s_pass hf rfl rfl ?_; clear hf a; intro a hf
    refine s_pass hf rfl rfl ?_; clear hf a; intro a hf
    refine s_pass hf rfl rfl ?_; clear hf a; intro a hf
    refine s_pass hf rfl rfl ?_; clear hf a; intro a hf
    refine s_v hf (x_pick_t (hf.eval rfl) (hf.eval rfl)) ?_; clear hf a; intro a hf
    refine s_nil ?_
    refine then_n ?_
    refine c_cond_t hf rfl rfl ?_
    have hno : decOk data = false := by
      unfold decOk
      by_cases h8 : data.length = 512
      · cases h9 : slOk (dsF data) with
        | false => simp
        | true =>
          obtain ⟨he1, he2⟩ := enc_ok h9
          first
          | exact absurd he1 hg5_2
          | (rw [he2] at hi0; rw [decide_eq_false hi0]; simp)
      · simp [h8]
    refine wp_seq ?_
    refine wp_region_lit ?_
    refine s_r hf (x_build (v := .agg (slF zSl).toArray) (hf.parts rfl) (fun w => by kernel_rfl) _) ?_; clear hf a; intro a hf
    replace hs := hs.take (A := cb b2 24 (slF zSl)) (by first | exact .k0 | exact .k1 | exact .k2 | exact .k3 | exact .k4 | exact .k5 | exact .k6 | exact .k7 | exact .k8 | exact .k9 | exact .k10 | exact .k11)
    refine s_do0 hf rfl (y_storeAgg (cs := slF zSl) hs (n := 7) (by kernel_rfl) (hf.eval rfl) (hf.eval rfl) (by simp [Value.oneCell', slF]) rfl rfl .k0 ?_); clear hf hs a; intro w hs a hf
    refine s_a hf rfl ?_; clear hf a; intro a hf
    refine s_nil ?_
    refine then_n ?_
    refine wp_ret ?_
    refine then_r ?_
    refine r_2c hf Tryd.results16 rfl rfl hs ag24 rfl .k0 ?_
    rw [(dec_no hno).1, (dec_no hno).2]
    exact ⟨rfl, hs.kept⟩
  · clear hf
    have hf := hf'
    clear hf'
    first | simp only [decide_eq_true_eq, decide_eq_false_iff_not, Bool.not_eq_true', Bool.not_eq_false'] at hg5_2 | skip
    refine s_do hf (wanted_of hf rfl rfl rfl) (.value (x_move (hf.eval rfl) _) ?_); clear hf a; intro a hf
    replace hs := hs.take (A := curA 119 5 p data 36 0) (by first | exact .k0 | exact .k1 | exact .k2 | exact .k3 | exact .k4 | exact .k5 | exact .k6 | exact .k7 | exact .k8 | exact .k9 | exact .k10 | exact .k11)
    refine s_do hf (wanted_of hf rfl rfl rfl) (y_call (hf.eval rfl) (hf.evals rfl) Tryd.call51 ((err_spec _ _ _ p data 36 0 hs (by omega) (by omega)).mono ?_))
    rintro e w1 ⟨rfl, hs⟩
    refine ⟨_, rfl, ?_⟩; clear hf a; intro a hf
    refine s_do hf (wanted_of hf rfl rfl rfl) (.value (x_bin (hf.eval rfl) (hf.eval rfl) (r_ne _ _ _ _) _) ?_); clear hf a; intro a hf
    refine s_v hf (x_pick_f (hf.eval rfl) (hf.eval rfl)) ?_; clear hf a; intro a hf
    refine s_m hf rfl ?_; clear hf a; intro a hf
    replace hf := hf.now (k := 40) (v' := .bool false) rfl (congrArg Value.bool rfl)
    refine s_do hf (wanted_of hf rfl rfl rfl) (.value (x_move (hf.eval rfl) _) ?_); clear hf a; intro a hf
    refine s_do hf (wanted_of hf rfl rfl rfl) (.value (x_move (hf.eval rfl) _) ?_); clear hf a; intro a hf
    replace hs := hs.take (A := slB 5 (.slice g (encV (dsF data : Sl)).length cg) (encV (dsF data : Sl))) (by first | exact .k0 | exact .k1 | exact .k2 | exact .k3 | exact .k4 | exact .k5 | exact .k6 | exact .k7 | exact .k8 | exact .k9 | exact .k10 | exact .k11)
    refine s_do hf (wanted_of hf rfl rfl rfl) (y_call (hf.eval rfl) (hf.evals rfl) Tryd.call52 ((bequal_spec _ _ _ (encV (dsF data : Sl)) (hs.rdB .k0 fun h => slB_rd) _ _ data (hs.oldB hr1)).mono ?_))
    rintro e w1 ⟨rfl, hw9⟩
    rw [hw9]
    clear hw9 w1
    refine ⟨_, rfl, ?_⟩; clear hf a; intro a hf
    refine s_do hf (wanted_of hf rfl rfl rfl) (.value (x_not (hf.eval rfl) _) ?_); clear hf a; intro a hf
    refine s_v hf (x_pick_f (hf.eval rfl) (hf.eval rfl)) ?_; clear hf a; intro a hf
    refine s_nil ?_
    refine then_n ?_
    refine c_cond hf rfl (fun hi0 => ?_) (fun hi0 => ?_)
    · first | simp only [decide_eq_true_eq, decide_eq_false_iff_not, Bool.not_eq_true', Bool.not_eq_false'] at hi0 | skip
      have hno : decOk data = false := by
        unfold decOk
        by_cases h8 : data.length = 512
        · cases h9 : slOk (dsF data) with
          | false => simp
          | true =>
            obtain ⟨he1, he2⟩ := enc_ok h9
            first
            | exact absurd he1 hg5_2
            | (rw [he2] at hi0; rw [decide_eq_false hi0]; simp)
        · simp [h8]
      refine wp_seq ?_
      refine wp_region_lit ?_
      refine s_r hf (x_build (v := .agg (slF zSl).toArray) (hf.parts rfl) (fun w => by kernel_rfl) _) ?_; clear hf a; intro a hf
      replace hs := hs.take (A := cb b2 24 (slF zSl)) (by first | exact .k0 | exact .k1 | exact .k2 | exact .k3 | exact .k4 | exact .k5 | exact .k6 | exact .k7 | exact .k8 | exact .k9 | exact .k10 | exact .k11)
      refine s_do0 hf rfl (y_storeAgg (cs := slF zSl) hs (n := 7) (by kernel_rfl) (hf.eval rfl) (hf.eval rfl) (by simp [Value.oneCell', slF]) rfl rfl .k0 ?_); clear hf hs a; intro w hs a hf
      refine s_a hf rfl ?_; clear hf a; intro a hf
      refine s_nil ?_
      refine then_n ?_
      refine wp_ret ?_
      refine then_r ?_
      refine r_2c hf Tryd.results16 rfl rfl hs ag24 rfl .k0 ?_
      rw [(dec_no hno).1, (dec_no hno).2]
      exact ⟨rfl, hs.kept⟩
    · first | simp only [decide_eq_true_eq, decide_eq_false_iff_not, Bool.not_eq_true', Bool.not_eq_false'] at hi0 | skip
      have hsk : slOk (dsF data) = true := by
        cases h9 : slOk (dsF data) with
        | true => rfl
        | false => exact absurd (enc_no h9).1 (by rw [hg5_2]; decide)
      have hse : secS (dsF data) = data := by rw [← (enc_ok hsk).2]; exact hi0
      have hl5 : data.length = 512 := by rw [← hse]; exact secS_len _
      have hyes : decOk data = true := by unfold decOk; rw [hsk, decide_eq_true hl5, decide_eq_true hse]; rfl
      refine wp_skip ?_
      refine then_n ?_
      refine wp_seq ?_
      refine wp_region_lit ?_
      replace hs := hs.take (A := cb b5 24 (slF (dsF data : Sl))) (by first | exact .k0 | exact .k1 | exact .k2 | exact .k3 | exact .k4 | exact .k5 | exact .k6 | exact .k7 | exact .k8 | exact .k9 | exact .k10 | exact .k11)
      refine s_r hf (x_loadBlk hs ag24 (hf.eval rfl) rfl (by first | exact .k0 | exact .k1 | exact .k2 | exact .k3 | exact .k4 | exact .k5 | exact .k6 | exact .k7 | exact .k8 | exact .k9)) ?_; clear hf a; intro a hf
      replace hs := hs.take (A := cb b2 24 (slF zSl)) (by first | exact .k0 | exact .k1 | exact .k2 | exact .k3 | exact .k4 | exact .k5 | exact .k6 | exact .k7 | exact .k8 | exact .k9 | exact .k10 | exact .k11)
      refine s_do0 hf rfl (y_storeAgg (cs := slF (dsF data : Sl)) hs (n := 7) (by kernel_rfl) (hf.eval rfl) (hf.eval rfl) (by simp [Value.oneCell', slF]) rfl rfl .k0 ?_); clear hf hs a; intro w hs a hf
      refine s_a hf rfl ?_; clear hf a; intro a hf
      refine s_nil ?_
      refine then_n ?_
      refine wp_ret ?_
      refine r_2c hf Tryd.results16 rfl rfl hs ag24 rfl .k0 ?_
      rw [(dec_yes hyes).1, (dec_yes hyes).2]
      exact ⟨rfl, hs.kept⟩
theorem decode_small (w0 : World) (hT : Tab 0 (hp w0)) (a1 : Option Addr) (c1 : Nat) (data : List UInt8) (hr1 : RdB (hp w0) (.slice a1 data.length c1) data) (hl1 : data.length ≤ 140737488351232) (h36 : data.length < 36) : Calls Tryd.prog 16 #[.slice a1 data.length c1] w0 fun e w' => e = .returned (.tuple #[.agg (slF (decV data)).toArray, .int .i64 (decE data)]) ∧ Kept w0 w' None_ := by
  have hs := St.start w0 None_
  refine c_enter (N := 48) Tryd.func16 rfl Tryd.ntmps16 (by simp) ?_
  intro a hf
  refine wp_seq ?_
  refine wp_region_lit ?_
  refine s_do hf rfl (y_alloc hs Tryd.zeroValue24 ?_); clear hf hs a; intro b2 w hs a hf
  change St _ _ (cb b2 24 (slF zSl) :: _) at hs
  refine s_a hf rfl ?_; clear hf a; intro a hf
  refine s_nil ?_
  refine then_n ?_
  refine wp_seq ?_
  refine wp_region_lit ?_
  refine s_m hf rfl ?_; clear hf a; intro a hf
  refine s_do hf rfl (y_call (hf.eval rfl) (hf.evals rfl) Tryd.call48 ((newCursor_spec _ _ _ data (hs.oldB hr1) hl1).mono ?_))
  rintro e w1 ⟨p, rfl, hj⟩
  replace hs := hs.join hj
  simp only [List.cons_append, List.nil_append] at hs
  refine ⟨_, rfl, ?_⟩; clear hf a; intro a hf
  refine s_a hf rfl ?_; clear hf a; intro a hf
  refine s_nil ?_
  refine then_n ?_
  refine wp_seq ?_
  refine wp_region_lit ?_
  refine s_m hf rfl ?_; clear hf a; intro a hf
  replace hs := hs.take (A := curA 119 5 p data 0 0) (by first | exact .k0 | exact .k1 | exact .k2 | exact .k3 | exact .k4 | exact .k5 | exact .k6 | exact .k7 | exact .k8 | exact .k9 | exact .k10 | exact .k11)
  refine s_do hf rfl (y_call (hf.eval rfl) (hf.evals rfl) Tryd.call49 ((skip_spec _ _ _ p data 0 0 8 hs (by omega) (by omega) (by omega)).mono ?_))
  rintro e w1 ⟨rfl, hs⟩
  have hq0 := nx_le (n := data.length) (k := 0) 0 8 (by omega)
  generalize (nextC data.length 0 0 8).1 = q0 at hs hq0
  generalize (nextC data.length 0 0 8).2.1 = t0 at hs
  refine ⟨_, rfl, ?_⟩; clear hf a; intro a hf
  refine s_nil ?_
  refine then_n ?_
  refine wp_seq ?_
  refine wp_region_lit ?_
  refine s_m hf rfl ?_; clear hf a; intro a hf
  replace hs := hs.take (A := curA 119 5 p data q0 t0) (by first | exact .k0 | exact .k1 | exact .k2 | exact .k3 | exact .k4 | exact .k5 | exact .k6 | exact .k7 | exact .k8 | exact .k9 | exact .k10 | exact .k11)
  refine s_do hf rfl (y_call (hf.eval rfl) (hf.evals rfl) Tryd.call50 ((u32_spec _ _ _ p data q0 t0 hs hq0 (by omega)).mono ?_))
  rintro e w1 ⟨rfl, hs⟩
  have hq1 := nx_le (n := data.length) (k := q0) t0 4 hq0
  have hv0 := leN_small (l := data.drop q0) (nx_k data.length q0 t0)
  generalize leN ((data.drop q0).take (nextC data.length q0 t0 4).2.2) = n0 at hv0 ⊢
  generalize (nextC data.length q0 t0 4).1 = q1 at hs hq1
  generalize (nextC data.length q0 t0 4).2.1 = t1 at hs
  refine ⟨_, rfl, ?_⟩; clear hf a; intro a hf
  refine s_m hf rfl ?_; clear hf a; intro a hf
  replace hs := hs.take (A := curA 119 5 p data q1 t1) (by first | exact .k0 | exact .k1 | exact .k2 | exact .k3 | exact .k4 | exact .k5 | exact .k6 | exact .k7 | exact .k8 | exact .k9 | exact .k10 | exact .k11)
  refine s_do hf rfl (y_call (hf.eval rfl) (hf.evals rfl) Tryd.call50 ((u32_spec _ _ _ p data q1 t1 hs hq1 (by omega)).mono ?_))
  rintro e w1 ⟨rfl, hs⟩
  have hq2 := nx_le (n := data.length) (k := q1) t1 4 hq1
  have hv1 := leN_small (l := data.drop q1) (nx_k data.length q1 t1)
  generalize leN ((data.drop q1).take (nextC data.length q1 t1 4).2.2) = n1 at hv1 ⊢
  generalize (nextC data.length q1 t1 4).1 = q2 at hs hq2
  generalize (nextC data.length q1 t1 4).2.1 = t2 at hs
  refine ⟨_, rfl, ?_⟩; clear hf a; intro a hf
  refine s_m hf rfl ?_; clear hf a; intro a hf
  replace hs := hs.take (A := curA 119 5 p data q2 t2) (by first | exact .k0 | exact .k1 | exact .k2 | exact .k3 | exact .k4 | exact .k5 | exact .k6 | exact .k7 | exact .k8 | exact .k9 | exact .k10 | exact .k11)
  refine s_do hf rfl (y_call (hf.eval rfl) (hf.evals rfl) Tryd.call50 ((u32_spec _ _ _ p data q2 t2 hs hq2 (by omega)).mono ?_))
  rintro e w1 ⟨rfl, hs⟩
  have hq3 := nx_le (n := data.length) (k := q2) t2 4 hq2
  have hv2 := leN_small (l := data.drop q2) (nx_k data.length q2 t2)
  generalize leN ((data.drop q2).take (nextC data.length q2 t2 4).2.2) = n2 at hv2 ⊢
  generalize (nextC data.length q2 t2 4).1 = q3 at hs hq3
  generalize (nextC data.length q2 t2 4).2.1 = t3 at hs
  refine ⟨_, rfl, ?_⟩; clear hf a; intro a hf
  refine s_m hf rfl ?_; clear hf a; intro a hf
  replace hs := hs.take (A := curA 119 5 p data q3 t3) (by first | exact .k0 | exact .k1 | exact .k2 | exact .k3 | exact .k4 | exact .k5 | exact .k6 | exact .k7 | exact .k8 | exact .k9 | exact .k10 | exact .k11)
  refine s_do hf rfl (y_call (hf.eval rfl) (hf.evals rfl) Tryd.call50 ((u32_spec _ _ _ p data q3 t3 hs hq3 (by omega)).mono ?_))
  rintro e w1 ⟨rfl, hs⟩
  have hq4 := nx_le (n := data.length) (k := q3) t3 4 hq3
  have hv3 := leN_small (l := data.drop q3) (nx_k data.length q3 t3)
  generalize leN ((data.drop q3).take (nextC data.length q3 t3 4).2.2) = n3 at hv3 ⊢
  generalize (nextC data.length q3 t3 4).1 = q4 at hs hq4
  generalize (nextC data.length q3 t3 4).2.1 = t4 at hs
  refine ⟨_, rfl, ?_⟩; clear hf a; intro a hf
  refine s_m hf rfl ?_; clear hf a; intro a hf
  replace hs := hs.take (A := curA 119 5 p data q4 t4) (by first | exact .k0 | exact .k1 | exact .k2 | exact .k3 | exact .k4 | exact .k5 | exact .k6 | exact .k7 | exact .k8 | exact .k9 | exact .k10 | exact .k11)
  refine s_do hf rfl (y_call (hf.eval rfl) (hf.evals rfl) Tryd.call50 ((u32_spec _ _ _ p data q4 t4 hs hq4 (by omega)).mono ?_))
  rintro e w1 ⟨rfl, hs⟩
  have hq5 := nx_le (n := data.length) (k := q4) t4 4 hq4
  have hv4 := leN_small (l := data.drop q4) (nx_k data.length q4 t4)
  generalize leN ((data.drop q4).take (nextC data.length q4 t4 4).2.2) = n4 at hv4 ⊢
  generalize (nextC data.length q4 t4 4).1 = q5 at hs hq5
  generalize (nextC data.length q4 t4 4).2.1 = t5 at hs
  refine ⟨_, rfl, ?_⟩; clear hf a; intro a hf
  refine s_m hf rfl ?_; clear hf a; intro a hf
  replace hs := hs.take (A := curA 119 5 p data q5 t5) (by first | exact .k0 | exact .k1 | exact .k2 | exact .k3 | exact .k4 | exact .k5 | exact .k6 | exact .k7 | exact .k8 | exact .k9 | exact .k10 | exact .k11)
  refine s_do hf rfl (y_call (hf.eval rfl) (hf.evals rfl) Tryd.call50 ((u32_spec _ _ _ p data q5 t5 hs hq5 (by omega)).mono ?_))
  rintro e w1 ⟨rfl, hs⟩
  have hq6 := nx_le (n := data.length) (k := q5) t5 4 hq5
  have hv5 := leN_small (l := data.drop q5) (nx_k data.length q5 t5)
  generalize leN ((data.drop q5).take (nextC data.length q5 t5 4).2.2) = n5 at hv5 ⊢
  generalize (nextC data.length q5 t5 4).1 = q6 at hs hq6
  generalize (nextC data.length q5 t5 4).2.1 = t6 at hs
  refine ⟨_, rfl, ?_⟩; clear hf a; intro a hf
  refine s_m hf rfl ?_; clear hf a; intro a hf
  replace hs := hs.take (A := curA 119 5 p data q6 t6) (by first | exact .k0 | exact .k1 | exact .k2 | exact .k3 | exact .k4 | exact .k5 | exact .k6 | exact .k7 | exact .k8 | exact .k9 | exact .k10 | exact .k11)
  refine s_do hf rfl (y_call (hf.eval rfl) (hf.evals rfl) Tryd.call50 ((u32_spec _ _ _ p data q6 t6 hs hq6 (by omega)).mono ?_))
  rintro e w1 ⟨rfl, hs⟩
  have hq7 := nx_le (n := data.length) (k := q6) t6 4 hq6
  have hv6 := leN_small (l := data.drop q6) (nx_k data.length q6 t6)
  generalize leN ((data.drop q6).take (nextC data.length q6 t6 4).2.2) = n6 at hv6 ⊢
  generalize (nextC data.length q6 t6 4).1 = q7 at hs hq7
  generalize (nextC data.length q6 t6 4).2.1 = t7 at hs
  refine ⟨_, rfl, ?_⟩; clear hf a; intro a hf
  have hlast : n6 < 4294967296 := hv6
  refine s_v hf (x_conv Tryd.underlying3 Tryd.underlying22 (hf.eval rfl)) ?_; clear hf a; intro a hf
  replace hf := hf.now (k := 26) (v' := .int .u32 ((n6 : Nat) : Int)) rfl (by rw [wrap_u32]; congr 1; omega)
  refine s_r hf (x_build (v := .agg (slF (((n0 : Int), (n1 : Int), (n2 : Int), (n3 : Int), (n4 : Int), (n5 : Int), n6) : Sl)).toArray) (hf.parts rfl) (fun w => by kernel_rfl) _) ?_; clear hf a; intro a hf
  refine s_do hf rfl (y_alloc hs Tryd.zeroValue24 ?_); clear hf hs a; intro b5 w hs a hf
  change St _ _ (cb b5 24 (slF zSl) :: _) at hs
  refine s_do0 hf rfl (y_storeAgg (cs := slF (((n0 : Int), (n1 : Int), (n2 : Int), (n3 : Int), (n4 : Int), (n5 : Int), n6) : Sl)) hs (n := 7) (by kernel_rfl) (hf.eval rfl) (hf.eval rfl) (by simp [Value.oneCell', slF]) rfl rfl .k0 ?_); clear hf hs a; intro w hs a hf
  refine s_nil ?_
  refine then_n ?_
  refine wp_seq ?_
  refine wp_region_lit ?_
  replace hs := hs.take (A := cb b5 24 (slF (((n0 : Int), (n1 : Int), (n2 : Int), (n3 : Int), (n4 : Int), (n5 : Int), n6) : Sl))) (by first | exact .k0 | exact .k1 | exact .k2 | exact .k3 | exact .k4 | exact .k5 | exact .k6 | exact .k7 | exact .k8 | exact .k9 | exact .k10 | exact .k11)
  refine s_r hf (x_loadBlk hs ag24 (hf.eval rfl) rfl (by first | exact .k0 | exact .k1 | exact .k2 | exact .k3 | exact .k4 | exact .k5 | exact .k6 | exact .k7 | exact .k8 | exact .k9)) ?_; clear hf a; intro a hf
  refine s_do hf rfl (y_call (hf.eval rfl) (hf.evals rfl) Tryd.call10 ((encode_spec _ (hT.kept hs.kept) (((n0 : Int), (n1 : Int), (n2 : Int), (n3 : Int), (n4 : Int), (n5 : Int), n6) : Sl) (by first | exact rd32_lt data 32 | exact hlast)).mono ?_))
  rintro e w1 ⟨g, cg, rfl, hj⟩
  replace hs := hs.join hj
  simp only [List.cons_append, List.nil_append] at hs
  refine ⟨_, rfl, ?_⟩; clear hf a; intro a hf
  refine s_m hf rfl ?_; clear hf a; intro a hf
  refine s_v hf (x_extract (hf.eval rfl) rfl) ?_; clear hf a; intro a hf
  refine s_v hf (x_extract (hf.eval rfl) rfl) ?_; clear hf a; intro a hf
  refine s_a hf rfl ?_; clear hf a; intro a hf
  refine s_a hf rfl ?_; clear hf a; intro a hf
  refine s_nil ?_
  refine then_n ?_
  refine wp_seq ?_
  refine wp_seq ?_
  refine wp_region_lit ?_
  refine s_m hf rfl ?_; clear hf a; intro a hf
  refine s_v hf (x_bin (hf.eval rfl) (hf.eval rfl) (r_ne _ _ _ _)) ?_; clear hf a; intro a hf
  refine s_m hf rfl ?_; clear hf a; intro a hf
  refine s_bool hf (k := 35) rfl (fun hg5_2 hf' => ?_) (fun hg5_2 hf' => ?_)
  · clear hf
    have hf := hf'
    clear hf'
    first | simp only [decide_eq_true_eq, decide_eq_false_iff_not, Bool.not_eq_true', Bool.not_eq_false'] at hg5_2 | skip
    refine s_pass hf rfl rfl ?_; clear hf a; intro a hf
    refine s_pass hf rfl rfl ?_; clear hf a; intro a hf
    refine s_pass hf rfl rfl ?_; clear hf a; intro a hf
    refine s_v hf (x_pick_t (hf.eval rfl) (hf.eval rfl)) ?_; clear hf a; intro a hf
    refine s_m hf rfl ?_; clear hf a; intro a hf
    refine s_pass hf rfl rfl ?_; clear hf a; intro a hf
    refine s_pass hf rfl rfl ?_; clear hf a; intro a hf
    refine s_pass hf rfl rfl ?_; clear hf a; intro a hf
    refine s_pass hf rfl rfl ?_; clear hf a; intro a hf
    refine s_v hf (x_pick_t (hf.eval rfl) (hf.eval rfl)) ?_; clear hf a; intro a hf
    refine s_nil ?_
    refine then_n ?_
    refine c_cond_t hf rfl rfl ?_
    have hno : decOk data = false := by unfold decOk; rw [decide_eq_false (show ¬ data.length = 512 by omega)]; simp
    refine wp_seq ?_
    refine wp_region_lit ?_
    refine s_r hf (x_build (v := .agg (slF zSl).toArray) (hf.parts rfl) (fun w => by kernel_rfl) _) ?_; clear hf a; intro a hf
    replace hs := hs.take (A := cb b2 24 (slF zSl)) (by first | exact .k0 | exact .k1 | exact .k2 | exact .k3 | exact .k4 | exact .k5 | exact .k6 | exact .k7 | exact .k8 | exact .k9 | exact .k10 | exact .k11)
    refine s_do0 hf rfl (y_storeAgg (cs := slF zSl) hs (n := 7) (by kernel_rfl) (hf.eval rfl) (hf.eval rfl) (by simp [Value.oneCell', slF]) rfl rfl .k0 ?_); clear hf hs a; intro w hs a hf
    refine s_a hf rfl ?_; clear hf a; intro a hf
    refine s_nil ?_
    refine then_n ?_
    refine wp_ret ?_
    refine then_r ?_
    refine r_2c hf Tryd.results16 rfl rfl hs ag24 rfl .k0 ?_
    rw [(dec_no hno).1, (dec_no hno).2]
    exact ⟨rfl, hs.kept⟩
  · clear hf
    have hf := hf'
    clear hf'
    first | simp only [decide_eq_true_eq, decide_eq_false_iff_not, Bool.not_eq_true', Bool.not_eq_false'] at hg5_2 | skip
    refine s_do hf (wanted_of hf rfl rfl rfl) (.value (x_move (hf.eval rfl) _) ?_); clear hf a; intro a hf
    replace hs := hs.take (A := curA 119 5 p data q7 t7) (by first | exact .k0 | exact .k1 | exact .k2 | exact .k3 | exact .k4 | exact .k5 | exact .k6 | exact .k7 | exact .k8 | exact .k9 | exact .k10 | exact .k11)
    refine s_do hf (wanted_of hf rfl rfl rfl) (y_call (hf.eval rfl) (hf.evals rfl) Tryd.call51 ((err_spec _ _ _ p data q7 t7 hs hq7 (by omega)).mono ?_))
    rintro e w1 ⟨rfl, hs⟩
    refine ⟨_, rfl, ?_⟩; clear hf a; intro a hf
    refine s_do hf (wanted_of hf rfl rfl rfl) (.value (x_bin (hf.eval rfl) (hf.eval rfl) (r_ne _ _ _ _) _) ?_); clear hf a; intro a hf
    refine s_v hf (x_pick_f (hf.eval rfl) (hf.eval rfl)) ?_; clear hf a; intro a hf
    refine s_m hf rfl ?_; clear hf a; intro a hf
    refine s_bool hf (k := 40) rfl (fun hg5_7 hf' => ?_) (fun hg5_7 hf' => ?_)
    · clear hf
      have hf := hf'
      clear hf'
      first | simp only [decide_eq_true_eq, decide_eq_false_iff_not, Bool.not_eq_true', Bool.not_eq_false'] at hg5_7 | skip
      refine s_pass hf rfl rfl ?_; clear hf a; intro a hf
      refine s_pass hf rfl rfl ?_; clear hf a; intro a hf
      refine s_pass hf rfl rfl ?_; clear hf a; intro a hf
      refine s_pass hf rfl rfl ?_; clear hf a; intro a hf
      refine s_v hf (x_pick_t (hf.eval rfl) (hf.eval rfl)) ?_; clear hf a; intro a hf
      refine s_nil ?_
      refine then_n ?_
      refine c_cond_t hf rfl rfl ?_
      have hno : decOk data = false := by unfold decOk; rw [decide_eq_false (show ¬ data.length = 512 by omega)]; simp
      refine wp_seq ?_
      refine wp_region_lit ?_
      refine s_r hf (x_build (v := .agg (slF zSl).toArray) (hf.parts rfl) (fun w => by kernel_rfl) _) ?_; clear hf a; intro a hf
      replace hs := hs.take (A := cb b2 24 (slF zSl)) (by first | exact .k0 | exact .k1 | exact .k2 | exact .k3 | exact .k4 | exact .k5 | exact .k6 | exact .k7 | exact .k8 | exact .k9 | exact .k10 | exact .k11)
      refine s_do0 hf rfl (y_storeAgg (cs := slF zSl) hs (n := 7) (by kernel_rfl) (hf.eval rfl) (hf.eval rfl) (by simp [Value.oneCell', slF]) rfl rfl .k0 ?_); clear hf hs a; intro w hs a hf
      refine s_a hf rfl ?_; clear hf a; intro a hf
      refine s_nil ?_
      refine then_n ?_
      refine wp_ret ?_
      refine then_r ?_
      refine r_2c hf Tryd.results16 rfl rfl hs ag24 rfl .k0 ?_
      rw [(dec_no hno).1, (dec_no hno).2]
      exact ⟨rfl, hs.kept⟩
    · clear hf
      have hf := hf'
      clear hf'
      first | simp only [decide_eq_true_eq, decide_eq_false_iff_not, Bool.not_eq_true', Bool.not_eq_false'] at hg5_7 | skip
      refine s_do hf (wanted_of hf rfl rfl rfl) (.value (x_move (hf.eval rfl) _) ?_); clear hf a; intro a hf
      refine s_do hf (wanted_of hf rfl rfl rfl) (.value (x_move (hf.eval rfl) _) ?_); clear hf a; intro a hf
      replace hs := hs.take (A := slB 5 (.slice g (encV (((n0 : Int), (n1 : Int), (n2 : Int), (n3 : Int), (n4 : Int), (n5 : Int), n6) : Sl)).length cg) (encV (((n0 : Int), (n1 : Int), (n2 : Int), (n3 : Int), (n4 : Int), (n5 : Int), n6) : Sl))) (by first | exact .k0 | exact .k1 | exact .k2 | exact .k3 | exact .k4 | exact .k5 | exact .k6 | exact .k7 | exact .k8 | exact .k9 | exact .k10 | exact .k11)
      refine s_do hf (wanted_of hf rfl rfl rfl) (y_call (hf.eval rfl) (hf.evals rfl) Tryd.call52 ((bequal_spec _ _ _ (encV (((n0 : Int), (n1 : Int), (n2 : Int), (n3 : Int), (n4 : Int), (n5 : Int), n6) : Sl)) (hs.rdB .k0 fun h => slB_rd) _ _ data (hs.oldB hr1)).mono ?_))
      rintro e w1 ⟨rfl, hw9⟩
      rw [hw9]
      clear hw9 w1
      refine ⟨_, rfl, ?_⟩; clear hf a; intro a hf
      refine s_do hf (wanted_of hf rfl rfl rfl) (.value (x_not (hf.eval rfl) _) ?_); clear hf a; intro a hf
      refine s_v hf (x_pick_f (hf.eval rfl) (hf.eval rfl)) ?_; clear hf a; intro a hf
      refine s_nil ?_
      refine then_n ?_
      refine c_cond hf rfl (fun hi0 => ?_) (fun hi0 => ?_)
      · first | simp only [decide_eq_true_eq, decide_eq_false_iff_not, Bool.not_eq_true', Bool.not_eq_false'] at hi0 | skip
        have hno : decOk data = false := by unfold decOk; rw [decide_eq_false (show ¬ data.length = 512 by omega)]; simp
        refine wp_seq ?_
        refine wp_region_lit ?_
        refine s_r hf (x_build (v := .agg (slF zSl).toArray) (hf.parts rfl) (fun w => by kernel_rfl) _) ?_; clear hf a; intro a hf
        replace hs := hs.take (A := cb b2 24 (slF zSl)) (by first | exact .k0 | exact .k1 | exact .k2 | exact .k3 | exact .k4 | exact .k5 | exact .k6 | exact .k7 | exact .k8 | exact .k9 | exact .k10 | exact .k11)
        refine s_do0 hf rfl (y_storeAgg (cs := slF zSl) hs (n := 7) (by kernel_rfl) (hf.eval rfl) (hf.eval rfl) (by simp [Value.oneCell', slF]) rfl rfl .k0 ?_); clear hf hs a; intro w hs a hf
        refine s_a hf rfl ?_; clear hf a; intro a hf
        refine s_nil ?_
        refine then_n ?_
        refine wp_ret ?_
        refine then_r ?_
        refine r_2c hf Tryd.results16 rfl rfl hs ag24 rfl .k0 ?_
        rw [(dec_no hno).1, (dec_no hno).2]
        exact ⟨rfl, hs.kept⟩
      · first | simp only [decide_eq_true_eq, decide_eq_false_iff_not, Bool.not_eq_true', Bool.not_eq_false'] at hi0 | skip
        have hbad : False := by
          cases h9 : slOk (((n0 : Int), (n1 : Int), (n2 : Int), (n3 : Int), (n4 : Int), (n5 : Int), n6) : Sl) with
          | false => exact absurd (enc_no h9).1 (by rw [hg5_2]; decide)
          | true => have h8 := congrArg List.length hi0; rw [(enc_ok h9).2, secS_len] at h8; omega
        refine wp_skip ?_
        refine then_n ?_
        refine wp_seq ?_
        refine wp_region_lit ?_
        replace hs := hs.take (A := cb b5 24 (slF (((n0 : Int), (n1 : Int), (n2 : Int), (n3 : Int), (n4 : Int), (n5 : Int), n6) : Sl))) (by first | exact .k0 | exact .k1 | exact .k2 | exact .k3 | exact .k4 | exact .k5 | exact .k6 | exact .k7 | exact .k8 | exact .k9 | exact .k10 | exact .k11)
        refine s_r hf (x_loadBlk hs ag24 (hf.eval rfl) rfl (by first | exact .k0 | exact .k1 | exact .k2 | exact .k3 | exact .k4 | exact .k5 | exact .k6 | exact .k7 | exact .k8 | exact .k9)) ?_; clear hf a; intro a hf
        replace hs := hs.take (A := cb b2 24 (slF zSl)) (by first | exact .k0 | exact .k1 | exact .k2 | exact .k3 | exact .k4 | exact .k5 | exact .k6 | exact .k7 | exact .k8 | exact .k9 | exact .k10 | exact .k11)
        refine s_do0 hf rfl (y_storeAgg (cs := slF (((n0 : Int), (n1 : Int), (n2 : Int), (n3 : Int), (n4 : Int), (n5 : Int), n6) : Sl)) hs (n := 7) (by kernel_rfl) (hf.eval rfl) (hf.eval rfl) (by simp [Value.oneCell', slF]) rfl rfl .k0 ?_); clear hf hs a; intro w hs a hf
        refine s_a hf rfl ?_; clear hf a; intro a hf
        refine s_nil ?_
        refine then_n ?_
        refine wp_ret ?_
        refine r_2c hf Tryd.results16 rfl rfl hs ag24 rfl .k0 ?_
        exact hbad.elim
theorem decode_spec (w0 : World) (hT : Tab 0 (hp w0)) (a1 : Option Addr) (c1 : Nat) (data : List UInt8) (hr1 : RdB (hp w0) (.slice a1 data.length c1) data) (hl1 : data.length ≤ 140737488351232) : Calls Tryd.prog 16 #[.slice a1 data.length c1] w0 fun e w' => e = .returned (.tuple #[.agg (slF (decV data)).toArray, .int .i64 (decE data)]) ∧ Kept w0 w' None_ := by
  by_cases h : 36 ≤ data.length
  · exact decode_big w0 hT a1 c1 data hr1 hl1 h
  · exact decode_small w0 hT a1 c1 data hr1 hl1 (by omega)
end Go.Proofs.YtehakfbfjpolfaaDoor

namespace Go.Proofs.YtehakfbfjpolfaaDoor
open Go Vw
theorem rd32_sum {l : List UInt8} {k : Nat} (h : k + 4 ≤ l.length) : rd32 l k = l[k].toNat + 256 * l[k + 1].toNat + 65536 * l[k + 2].toNat + 16777216 * l[k + 3].toNat := by
  unfold rd32
  rw [List.drop_eq_getElem_cons (show k < l.length by omega), List.drop_eq_getElem_cons (show k + 1 < l.length by omega), List.drop_eq_getElem_cons (show k + 1 + 1 < l.length by omega), List.drop_eq_getElem_cons (show k + 1 + 1 + 1 < l.length by omega)]
  simp only [List.take_succ_cons, List.take_zero, leN]
  have e2 : l[k + 1 + 1].toNat = l[k + 2].toNat := rfl
  have e3 : l[k + 1 + 1 + 1].toNat = l[k + 3].toNat := rfl
  omega
theorem at32_spec (w0 : World) (a1 : Option Addr) (c1 : Nat) (l : List UInt8) (hr1 : RdB (hp w0) (.slice a1 l.length c1) l) (k : Nat) (hk : k + 4 ≤ l.length) (hl : l.length ≤ 140737488351232) : Calls Tryd.prog 53 #[.slice a1 l.length c1, .int .i64 (k : Int)] w0 fun e w' => e = .returned (.int .i64 ((rd32 l k : Nat) : Int)) ∧ Kept w0 w' None_ := by
  have hs := St.start w0 None_
  obtain ⟨a1, rfl⟩ := hr1.some (by omega)
  have hb0 := toNat_lt l[k + 0]
  have hb1 := toNat_lt l[k + 1]
  have hb2 := toNat_lt l[k + 2]
  have hb3 := toNat_lt l[k + 3]
  refine c_enter (N := 34) Tryd.func53 rfl Tryd.ntmps53 (by simp) ?_
  intro a hf
  refine wp_seq ?_
  refine wp_region_lit ?_
  refine s_a hf rfl ?_; clear hf a; intro a hf
  refine s_nil ?_
  refine then_n ?_
  refine wp_seq ?_
  refine c_draw hs (fun _ => True) [.held, .held, .held, .read, .held, .held, .held, .held, .held, .read, .held, .held, .held, .held, .held, .held, .held, .read, .held, .held, .held, .held, .held, .held, .held, .read, .held, .held, .held, .held] (by kernel_rfl) (by kernel_rfl) (fun _ _ _ => trivial) ?_
  clear hs; intro w hs hC hw
  refine m_held hf rfl (fun w' _ => x_move (hf.eval rfl) w') ?_; clear hf a; intro a hf
  refine m_held hf rfl (fun w' _ => x_move (hf.eval rfl) w') ?_; clear hf a; intro a hf
  replace hf := hf.now (k := 6) (v' := .int .i64 ((k + 0 : Nat) : Int)) rfl (rfl)
  refine m_held hf rfl (fun w' _ => x_indexAddr sl25 (hf.eval rfl) (hf.eval rfl) (by omega) (by omega) w') ?_; clear hf a; intro a hf
  refine m_read hf rfl (x_loadB (i := ((k + 0 : Nat) : Int)) sc5 (hs.oldB hr1) (hf.eval rfl) (by rw [Int.toNat_natCast]; omega)) ?_; clear hf a; intro a hf
  replace hf := hf.now (k := 8) (v' := u8v l[k + 0]) rfl (rfl)
  refine m_held hf rfl (fun w' _ => x_convr Tryd.underlying5 Tryd.underlying3 (hf.eval rfl) (wrap_byte _) w') ?_; clear hf a; intro a hf
  refine m_held hf rfl (fun w' _ => x_move (hf.eval rfl) w') ?_; clear hf a; intro a hf
  refine m_held hf rfl (fun w' _ => x_move (hf.eval rfl) w') ?_; clear hf a; intro a hf
  refine m_held hf rfl (fun w' _ => x_bin (hf.eval rfl) (hf.eval rfl) (r_addi _ (by omega) (by omega)) w') ?_; clear hf a; intro a hf
  replace hf := hf.now (k := 12) (v' := .int .i64 ((k + 1 : Nat) : Int)) rfl (rfl)
  refine m_held hf rfl (fun w' _ => x_indexAddr sl25 (hf.eval rfl) (hf.eval rfl) (by omega) (by omega) w') ?_; clear hf a; intro a hf
  refine m_read hf rfl (x_loadB (i := ((k + 1 : Nat) : Int)) sc5 (hs.oldB hr1) (hf.eval rfl) (by rw [Int.toNat_natCast]; omega)) ?_; clear hf a; intro a hf
  replace hf := hf.now (k := 14) (v' := u8v l[k + 1]) rfl (rfl)
  refine m_held hf rfl (fun w' _ => x_convr Tryd.underlying5 Tryd.underlying3 (hf.eval rfl) (wrap_byte _) w') ?_; clear hf a; intro a hf
  refine m_held hf rfl (fun w' _ => x_bin (hf.eval rfl) (hf.eval rfl) (r_muli _ (by omega) (by omega)) w') ?_; clear hf a; intro a hf
  refine m_held hf rfl (fun w' _ => x_bin (hf.eval rfl) (hf.eval rfl) (r_addi _ (by omega) (by omega)) w') ?_; clear hf a; intro a hf
  refine m_held hf rfl (fun w' _ => x_move (hf.eval rfl) w') ?_; clear hf a; intro a hf
  refine m_held hf rfl (fun w' _ => x_move (hf.eval rfl) w') ?_; clear hf a; intro a hf
  refine m_held hf rfl (fun w' _ => x_bin (hf.eval rfl) (hf.eval rfl) (r_addi _ (by omega) (by omega)) w') ?_; clear hf a; intro a hf
  replace hf := hf.now (k := 20) (v' := .int .i64 ((k + 2 : Nat) : Int)) rfl (rfl)
  refine m_held hf rfl (fun w' _ => x_indexAddr sl25 (hf.eval rfl) (hf.eval rfl) (by omega) (by omega) w') ?_; clear hf a; intro a hf
  refine m_read hf rfl (x_loadB (i := ((k + 2 : Nat) : Int)) sc5 (hs.oldB hr1) (hf.eval rfl) (by rw [Int.toNat_natCast]; omega)) ?_; clear hf a; intro a hf
  replace hf := hf.now (k := 22) (v' := u8v l[k + 2]) rfl (rfl)
  refine m_held hf rfl (fun w' _ => x_convr Tryd.underlying5 Tryd.underlying3 (hf.eval rfl) (wrap_byte _) w') ?_; clear hf a; intro a hf
  refine m_held hf rfl (fun w' _ => x_bin (hf.eval rfl) (hf.eval rfl) (r_muli _ (by omega) (by omega)) w') ?_; clear hf a; intro a hf
  refine m_held hf rfl (fun w' _ => x_bin (hf.eval rfl) (hf.eval rfl) (r_addi _ (by omega) (by omega)) w') ?_; clear hf a; intro a hf
  refine m_held hf rfl (fun w' _ => x_move (hf.eval rfl) w') ?_; clear hf a; intro a hf
  refine m_held hf rfl (fun w' _ => x_move (hf.eval rfl) w') ?_; clear hf a; intro a hf
  refine m_held hf rfl (fun w' _ => x_bin (hf.eval rfl) (hf.eval rfl) (r_addi _ (by omega) (by omega)) w') ?_; clear hf a; intro a hf
  replace hf := hf.now (k := 28) (v' := .int .i64 ((k + 3 : Nat) : Int)) rfl (rfl)
  refine m_held hf rfl (fun w' _ => x_indexAddr sl25 (hf.eval rfl) (hf.eval rfl) (by omega) (by omega) w') ?_; clear hf a; intro a hf
  refine m_read hf rfl (x_loadB (i := ((k + 3 : Nat) : Int)) sc5 (hs.oldB hr1) (hf.eval rfl) (by rw [Int.toNat_natCast]; omega)) ?_; clear hf a; intro a hf
  replace hf := hf.now (k := 30) (v' := u8v l[k + 3]) rfl (rfl)
  refine m_held hf rfl (fun w' _ => x_convr Tryd.underlying5 Tryd.underlying3 (hf.eval rfl) (wrap_byte _) w') ?_; clear hf a; intro a hf
  refine m_held hf rfl (fun w' _ => x_bin (hf.eval rfl) (hf.eval rfl) (r_muli _ (by omega) (by omega)) w') ?_; clear hf a; intro a hf
  refine m_held hf rfl (fun w' _ => x_bin (hf.eval rfl) (hf.eval rfl) (r_addi _ (by omega) (by omega)) w') ?_; clear hf a; intro a hf
  refine m_held hf rfl (fun w' _ => x_assign (hf.eval rfl) w') ?_; clear hf a; intro a hf
  refine m_nil ?_
  refine then_n ?_
  refine wp_ret ?_
  refine r_1 hf Tryd.results53 rfl ?_
  refine ⟨?_, hs.kept⟩
  rw [rd32_sum hk]
  simp only [Nat.add_zero]
  congr 2 <;> omega
theorem rsame_spec (w0 : World) (a1 : Option Addr) (c1 : Nat) (l1 : List UInt8) (hr1 : RdB (hp w0) (.slice a1 l1.length c1) l1) (a2 : Option Addr) (c2 : Nat) (l2 : List UInt8) (hr2 : RdB (hp w0) (.slice a2 l2.length c2) l2) (hl1 : l1.length ≤ 140737488355328) : Calls Tryd.prog 54 #[.slice a1 l1.length c1, .slice a2 l2.length c2] w0 fun e w' => e = .returned (.bool (decide (l1 = l2))) ∧ Kept w0 w' None_ := by
  have hs := St.start w0 None_
  refine c_enter (N := 26) Tryd.func54 rfl Tryd.ntmps54 (by simp) ?_
  intro a hf
  refine wp_seq ?_
  refine wp_region_lit ?_
  refine s_a hf rfl ?_; clear hf a; intro a hf
  refine s_nil ?_
  refine then_n ?_
  refine wp_seq ?_
  refine wp_seq ?_
  refine wp_region_lit ?_
  refine s_m hf rfl ?_; clear hf a; intro a hf
  refine s_v hf (x_len Tryd.underlying25 (hf.eval rfl)) ?_; clear hf a; intro a hf
  refine s_m hf rfl ?_; clear hf a; intro a hf
  refine s_v hf (x_len Tryd.underlying25 (hf.eval rfl)) ?_; clear hf a; intro a hf
  refine s_v hf (x_bin (hf.eval rfl) (hf.eval rfl) (r_ne _ _ _ _)) ?_; clear hf a; intro a hf
  refine s_nil ?_
  refine then_n ?_
  refine c_cond hf rfl (fun hi0 => ?_) (fun hi0 => ?_)
  · simp only [decide_eq_true_eq, decide_eq_false_iff_not, Bool.not_eq_true', Bool.not_eq_false', Bool.not_eq_true, Int.not_lt, Int.not_le] at hi0
    refine wp_seq ?_
    refine wp_region_lit ?_
    refine s_a hf rfl ?_; clear hf a; intro a hf
    refine s_nil ?_
    refine then_n ?_
    refine wp_ret ?_
    refine then_r ?_
    refine r_1 hf Tryd.results54 rfl ?_
    exact ⟨by rw [decide_eq_false (fun e => hi0 (by rw [e]))], hs.kept⟩
  · simp only [decide_eq_true_eq, decide_eq_false_iff_not, Bool.not_eq_true', Bool.not_eq_false', Bool.not_eq_true, Int.not_lt, Int.not_le] at hi0
    refine wp_skip ?_
    refine then_n ?_
    refine wp_seq ?_
    refine wp_seq ?_
    refine wp_region_lit ?_
    refine s_a hf rfl ?_; clear hf a; intro a hf
    refine s_nil ?_
    refine then_n ?_
    refine wp_block ?_
    refine c_loop (L0 := [(0, _), (1, _)]) (fun M w m => ∃ i : Nat, M = [(5, .int .i64 (i : Int))] ∧ l1.length - i = m ∧ i ≤ l1.length ∧ l1.take i = l2.take i ∧ St ⟨w0, None_⟩ w []) (M0 := [(5, .int .i64 (0 : Nat))]) (⟨0, rfl, rfl, Nat.zero_le _, rfl, hs⟩) (hf.sub ⟨rfl, rfl, rfl, trivial⟩) ?_
    clear hf hs a
    rintro M m a w ⟨i, rfl, rfl, hi, hq, hs⟩ hf
    refine wp_seq ?_
    refine wp_seq ?_
    refine wp_region_lit ?_
    refine s_m hf rfl ?_; clear hf a; intro a hf
    refine s_m hf rfl ?_; clear hf a; intro a hf
    refine s_v hf (x_len Tryd.underlying25 (hf.eval rfl)) ?_; clear hf a; intro a hf
    refine s_v hf (x_bin (hf.eval rfl) (hf.eval rfl) (r_lt _ _ _ _)) ?_; clear hf a; intro a hf
    refine s_nil ?_
    refine then_n ?_
    refine c_cond hf rfl (fun hi1 => ?_) (fun hi1 => ?_)
    · simp only [decide_eq_true_eq, decide_eq_false_iff_not, Bool.not_eq_true', Bool.not_eq_false', Bool.not_eq_true, Int.not_lt, Int.not_le] at hi1
      obtain ⟨x1, rfl⟩ := hr1.some (by omega)
      obtain ⟨x2, rfl⟩ := hr2.some (by omega)
      have hlt : i < l1.length := by omega
      have hlt2 : i < l2.length := by omega
      refine wp_skip ?_
      refine then_n ?_
      refine wp_seq ?_
      refine wp_block ?_
      refine wp_seq ?_
      refine c_draw hs (fun _ => True) [.held, .held, .held, .read, .held, .held, .held, .read, .held] (by kernel_rfl) (by kernel_rfl) (fun _ _ _ => trivial) ?_
      clear hs; intro w hs hC hw
      refine m_held hf rfl (fun w' _ => x_move (hf.eval rfl) w') ?_; clear hf a; intro a hf
      refine m_held hf rfl (fun w' _ => x_move (hf.eval rfl) w') ?_; clear hf a; intro a hf
      refine m_held hf rfl (fun w' _ => x_indexAddr sl25 (hf.eval rfl) (hf.eval rfl) (by omega) (by omega) w') ?_; clear hf a; intro a hf
      refine m_read hf rfl (x_loadB sc5 (hs.oldB hr1) (hf.eval rfl) (by omega)) ?_; clear hf a; intro a hf
      replace hf := hf.now (k := 20) (v' := u8v l1[i]) rfl rfl
      refine m_held hf rfl (fun w' _ => x_move (hf.eval rfl) w') ?_; clear hf a; intro a hf
      refine m_held hf rfl (fun w' _ => x_move (hf.eval rfl) w') ?_; clear hf a; intro a hf
      refine m_held hf rfl (fun w' _ => x_indexAddr sl25 (hf.eval rfl) (hf.eval rfl) (by omega) (by omega) w') ?_; clear hf a; intro a hf
      refine m_read hf rfl (x_loadB sc5 (hs.oldB hr2) (hf.eval rfl) (by omega)) ?_; clear hf a; intro a hf
      replace hf := hf.now (k := 24) (v' := u8v l2[i]) rfl rfl
      refine m_held hf rfl (fun w' _ => x_bin (hf.eval rfl) (hf.eval rfl) (r_ne _ _ _ _) w') ?_; clear hf a; intro a hf
      refine m_nil ?_
      refine then_n ?_
      refine c_cond hf rfl (fun hi2 => ?_) (fun hi2 => ?_)
      · simp only [decide_eq_true_eq, decide_eq_false_iff_not, Bool.not_eq_true', Bool.not_eq_false', Bool.not_eq_true, Int.not_lt, Int.not_le] at hi2
        refine wp_seq ?_
        refine wp_region_lit ?_
        refine s_a hf rfl ?_; clear hf a; intro a hf
        refine s_nil ?_
        refine then_n ?_
        refine wp_ret ?_
        refine blk_r (then_r (then_r (blk_r (then_r ?_))))
        refine r_1 hf Tryd.results54 rfl ?_
        exact ⟨by rw [decide_eq_false (fun e => hi2 (by subst e; rfl))], hs.kept⟩
      · simp only [decide_eq_true_eq, decide_eq_false_iff_not, Bool.not_eq_true', Bool.not_eq_false', Bool.not_eq_true, Int.not_lt, Int.not_le] at hi2
        have heq : l1[i] = l2[i] := UInt8.toNat_inj.1 (by omega)
        refine wp_skip ?_
        refine blk_n ?_
        refine then_n ?_
        refine wp_region_lit ?_
        refine s_m hf rfl ?_; clear hf a; intro a hf
        refine s_v hf (x_bin (hf.eval rfl) (hf.eval rfl) (r_addi _ (by omega) (by omega))) ?_; clear hf a; intro a hf
        refine s_a hf rfl ?_; clear hf a; intro a hf
        refine s_nil ?_
        have hlt : i < l1.length := by omega
        exact ⟨_, _, ⟨i + 1, rfl, rfl, by omega, by rw [List.take_succ_eq_append_getElem hlt, List.take_succ_eq_append_getElem (show i < l2.length by omega), hq, heq], hs⟩, by omega, hf.sub ⟨rfl, rfl, rfl, trivial⟩⟩
    · simp only [decide_eq_true_eq, decide_eq_false_iff_not, Bool.not_eq_true', Bool.not_eq_false', Bool.not_eq_true, Int.not_lt, Int.not_le] at hi1
      refine wp_exit ?_
      refine then_x ?_
      refine then_x ?_
      refine blk_x ?_
      refine then_n ?_
      refine wp_seq ?_
      refine wp_region_lit ?_
      refine s_a hf rfl ?_; clear hf a; intro a hf
      refine s_nil ?_
      refine then_n ?_
      refine wp_ret ?_
      refine r_1 hf Tryd.results54 rfl ?_
      have hi' : i = l1.length := by omega
      exact ⟨by rw [decide_eq_true (by rw [hi', List.take_length, show l1.length = l2.length by omega, List.take_length] at hq; exact hq)], hs.kept⟩
theorem rdecode_spec (w0 : World) (a1 : Option Addr) (c1 : Nat) (data : List UInt8) (hr1 : RdB (hp w0) (.slice a1 data.length c1) data) (hl1 : data.length ≤ 140737488351232) : Calls Tryd.prog 17 #[.slice a1 data.length c1] w0 fun e w' => e = .returned (.tuple #[.agg (slF (decV data)).toArray, .int .i64 (decE data)]) ∧ Kept w0 w' None_ := by
  have hs := St.start w0 None_
  refine c_enter (N := 42) Tryd.func17 rfl Tryd.ntmps17 (by simp) ?_
  intro a hf
  refine wp_seq ?_
  refine wp_region_lit ?_
  refine s_do hf rfl (y_alloc hs Tryd.zeroValue24 ?_); clear hf hs a; intro b2 w hs a hf
  change St _ _ (cb b2 24 (slF zSl) :: _) at hs
  refine s_a hf rfl ?_; clear hf a; intro a hf
  refine s_nil ?_
  refine then_n ?_
  refine wp_seq ?_
  refine wp_seq ?_
  refine wp_region_lit ?_
  refine s_m hf rfl ?_; clear hf a; intro a hf
  refine s_v hf (x_len Tryd.underlying25 (hf.eval rfl)) ?_; clear hf a; intro a hf
  refine s_v hf (x_bin (hf.eval rfl) (hf.eval rfl) (r_ne _ _ _ _)) ?_; clear hf a; intro a hf
  refine s_nil ?_
  refine then_n ?_
  refine c_cond hf rfl (fun hi0 => ?_) (fun hi0 => ?_)
  · first | simp only [decide_eq_true_eq, decide_eq_false_iff_not, Bool.not_eq_true', Bool.not_eq_false'] at hi0 | skip
    have hno : decOk data = false := by unfold decOk; rw [decide_eq_false (show ¬ data.length = 512 by omega)]; simp
    refine wp_seq ?_
    refine wp_region_lit ?_
    refine s_r hf (x_build (v := .agg (slF zSl).toArray) (hf.parts rfl) (fun w => by kernel_rfl) _) ?_; clear hf a; intro a hf
    replace hs := hs.take (A := cb b2 24 (slF zSl)) (by first | exact .k0 | exact .k1 | exact .k2 | exact .k3 | exact .k4 | exact .k5 | exact .k6 | exact .k7 | exact .k8 | exact .k9 | exact .k10 | exact .k11)
    refine s_do0 hf rfl (y_storeAgg (cs := slF zSl) hs (n := 7) (by kernel_rfl) (hf.eval rfl) (hf.eval rfl) (by simp [Value.oneCell', slF]) rfl rfl .k0 ?_); clear hf hs a; intro w hs a hf
    refine s_a hf rfl ?_; clear hf a; intro a hf
    refine s_nil ?_
    refine then_n ?_
    refine wp_ret ?_
    refine then_r ?_
    refine r_2c hf Tryd.results17 rfl rfl hs ag24 rfl .k0 ?_
    rw [(dec_no hno).1, (dec_no hno).2]
    exact ⟨rfl, hs.kept⟩
  · first | simp only [decide_eq_true_eq, decide_eq_false_iff_not, Bool.not_eq_true', Bool.not_eq_false'] at hi0 | skip
    have hl5 : data.length = 512 := by omega
    refine wp_skip ?_
    refine then_n ?_
    refine wp_seq ?_
    refine wp_region_lit ?_
    refine s_m hf rfl ?_; clear hf a; intro a hf
    refine s_do hf rfl (y_call (hf.eval rfl) (hf.evals rfl) Tryd.call53 ((at32_spec _ _ _ data (hs.oldB hr1) 8 (by omega) hl1).mono ?_))
    rintro e w1 ⟨rfl, hk⟩
    replace hs := hs.ext hk
    refine ⟨_, rfl, ?_⟩; clear hf a; intro a hf
    refine s_m hf rfl ?_; clear hf a; intro a hf
    refine s_do hf rfl (y_call (hf.eval rfl) (hf.evals rfl) Tryd.call53 ((at32_spec _ _ _ data (hs.oldB hr1) 12 (by omega) hl1).mono ?_))
    rintro e w1 ⟨rfl, hk⟩
    replace hs := hs.ext hk
    refine ⟨_, rfl, ?_⟩; clear hf a; intro a hf
    refine s_m hf rfl ?_; clear hf a; intro a hf
    refine s_do hf rfl (y_call (hf.eval rfl) (hf.evals rfl) Tryd.call53 ((at32_spec _ _ _ data (hs.oldB hr1) 16 (by omega) hl1).mono ?_))
    rintro e w1 ⟨rfl, hk⟩
    replace hs := hs.ext hk
    refine ⟨_, rfl, ?_⟩; clear hf a; intro a hf
    refine s_m hf rfl ?_; clear hf a; intro a hf
    refine s_do hf rfl (y_call (hf.eval rfl) (hf.evals rfl) Tryd.call53 ((at32_spec _ _ _ data (hs.oldB hr1) 20 (by omega) hl1).mono ?_))
    rintro e w1 ⟨rfl, hk⟩
    replace hs := hs.ext hk
    refine ⟨_, rfl, ?_⟩; clear hf a; intro a hf
    refine s_m hf rfl ?_; clear hf a; intro a hf
    refine s_do hf rfl (y_call (hf.eval rfl) (hf.evals rfl) Tryd.call53 ((at32_spec _ _ _ data (hs.oldB hr1) 24 (by omega) hl1).mono ?_))
    rintro e w1 ⟨rfl, hk⟩
    replace hs := hs.ext hk
    refine ⟨_, rfl, ?_⟩; clear hf a; intro a hf
    refine s_m hf rfl ?_; clear hf a; intro a hf
    refine s_do hf rfl (y_call (hf.eval rfl) (hf.evals rfl) Tryd.call53 ((at32_spec _ _ _ data (hs.oldB hr1) 28 (by omega) hl1).mono ?_))
    rintro e w1 ⟨rfl, hk⟩
    replace hs := hs.ext hk
    refine ⟨_, rfl, ?_⟩; clear hf a; intro a hf
    refine s_m hf rfl ?_; clear hf a; intro a hf
    refine s_do hf rfl (y_call (hf.eval rfl) (hf.evals rfl) Tryd.call53 ((at32_spec _ _ _ data (hs.oldB hr1) 32 (by omega) hl1).mono ?_))
    rintro e w1 ⟨rfl, hk⟩
    replace hs := hs.ext hk
    refine ⟨_, rfl, ?_⟩; clear hf a; intro a hf
    have hlast := rd32_lt data 32
    refine s_v hf (x_conv Tryd.underlying3 Tryd.underlying22 (hf.eval rfl)) ?_; clear hf a; intro a hf
    replace hf := hf.now (k := 25) (v' := .int .u32 ((rd32 data 32 : Nat) : Int)) rfl (by rw [wrap_u32]; congr 1; omega)
    refine s_r hf (x_build (v := .agg (slF (dsF data : Sl)).toArray) (hf.parts rfl) (fun w => by kernel_rfl) _) ?_; clear hf a; intro a hf
    refine s_do hf rfl (y_alloc hs Tryd.zeroValue24 ?_); clear hf hs a; intro b4 w hs a hf
    change St _ _ (cb b4 24 (slF zSl) :: _) at hs
    refine s_do0 hf rfl (y_storeAgg (cs := slF (dsF data : Sl)) hs (n := 7) (by kernel_rfl) (hf.eval rfl) (hf.eval rfl) (by simp [Value.oneCell', slF]) rfl rfl .k0 ?_); clear hf hs a; intro w hs a hf
    refine s_nil ?_
    refine then_n ?_
    refine wp_seq ?_
    refine wp_region_lit ?_
    replace hs := hs.take (A := cb b4 24 (slF (dsF data : Sl))) (by first | exact .k0 | exact .k1 | exact .k2 | exact .k3 | exact .k4 | exact .k5 | exact .k6 | exact .k7 | exact .k8 | exact .k9 | exact .k10 | exact .k11)
    refine s_r hf (x_loadBlk hs ag24 (hf.eval rfl) rfl (by first | exact .k0 | exact .k1 | exact .k2 | exact .k3 | exact .k4 | exact .k5 | exact .k6 | exact .k7 | exact .k8 | exact .k9)) ?_; clear hf a; intro a hf
    refine s_do hf rfl (y_call (hf.eval rfl) (hf.evals rfl) Tryd.call11 ((rencode_spec _ (dsF data : Sl) (rd32_lt data 32)).mono ?_))
    rintro e w1 ⟨g, cg, rfl, hj⟩
    replace hs := hs.join hj
    simp only [List.cons_append, List.nil_append] at hs
    refine ⟨_, rfl, ?_⟩; clear hf a; intro a hf
    refine s_m hf rfl ?_; clear hf a; intro a hf
    refine s_v hf (x_extract (hf.eval rfl) rfl) ?_; clear hf a; intro a hf
    refine s_v hf (x_extract (hf.eval rfl) rfl) ?_; clear hf a; intro a hf
    refine s_a hf rfl ?_; clear hf a; intro a hf
    refine s_a hf rfl ?_; clear hf a; intro a hf
    refine s_nil ?_
    refine then_n ?_
    refine wp_seq ?_
    refine wp_seq ?_
    refine wp_region_lit ?_
    refine s_m hf rfl ?_; clear hf a; intro a hf
    refine s_v hf (x_bin (hf.eval rfl) (hf.eval rfl) (r_ne _ _ _ _)) ?_; clear hf a; intro a hf
    refine s_m hf rfl ?_; clear hf a; intro a hf
    refine s_bool hf (k := 34) rfl (fun hg5_2 hf' => ?_) (fun hg5_2 hf' => ?_)
    · clear hf
      have hf := hf'
      clear hf'
      first | simp only [decide_eq_true_eq, decide_eq_false_iff_not, Bool.not_eq_true', Bool.not_eq_false'] at hg5_2 | skip
      refine s_pass hf rfl rfl ?_; clear hf a; intro a hf
      refine s_pass hf rfl rfl ?_; clear hf a; intro a hf
      refine s_pass hf rfl rfl ?_; clear hf a; intro a hf
      refine s_pass hf rfl rfl ?_; clear hf a; intro a hf
      refine s_v hf (x_pick_t (hf.eval rfl) (hf.eval rfl)) ?_; clear hf a; intro a hf
      refine s_nil ?_
      refine then_n ?_
      refine c_cond_t hf rfl rfl ?_
      have hno : decOk data = false := by
        unfold decOk
        by_cases h8 : data.length = 512
        · cases h9 : slOk (dsF data) with
          | false => simp
          | true =>
            obtain ⟨he1, he2⟩ := enc_ok h9
            first
            | exact absurd he1 hg5_2
            | (rw [he2] at hi1; rw [decide_eq_false hi1]; simp)
        · simp [h8]
      refine wp_seq ?_
      refine wp_region_lit ?_
      refine s_r hf (x_build (v := .agg (slF zSl).toArray) (hf.parts rfl) (fun w => by kernel_rfl) _) ?_; clear hf a; intro a hf
      replace hs := hs.take (A := cb b2 24 (slF zSl)) (by first | exact .k0 | exact .k1 | exact .k2 | exact .k3 | exact .k4 | exact .k5 | exact .k6 | exact .k7 | exact .k8 | exact .k9 | exact .k10 | exact .k11)
      refine s_do0 hf rfl (y_storeAgg (cs := slF zSl) hs (n := 7) (by kernel_rfl) (hf.eval rfl) (hf.eval rfl) (by simp [Value.oneCell', slF]) rfl rfl .k0 ?_); clear hf hs a; intro w hs a hf
      refine s_a hf rfl ?_; clear hf a; intro a hf
      refine s_nil ?_
      refine then_n ?_
      refine wp_ret ?_
      refine then_r ?_
      refine r_2c hf Tryd.results17 rfl rfl hs ag24 rfl .k0 ?_
      rw [(dec_no hno).1, (dec_no hno).2]
      exact ⟨rfl, hs.kept⟩
    · clear hf
      have hf := hf'
      clear hf'
      first | simp only [decide_eq_true_eq, decide_eq_false_iff_not, Bool.not_eq_true', Bool.not_eq_false'] at hg5_2 | skip
      refine s_do hf (wanted_of hf rfl rfl rfl) (.value (x_move (hf.eval rfl) _) ?_); clear hf a; intro a hf
      refine s_do hf (wanted_of hf rfl rfl rfl) (.value (x_move (hf.eval rfl) _) ?_); clear hf a; intro a hf
      replace hs := hs.take (A := slB 5 (.slice g (encV (dsF data : Sl)).length cg) (encV (dsF data : Sl))) (by first | exact .k0 | exact .k1 | exact .k2 | exact .k3 | exact .k4 | exact .k5 | exact .k6 | exact .k7 | exact .k8 | exact .k9 | exact .k10 | exact .k11)
      have hel := encV_len (dsF data)
      refine s_do hf (wanted_of hf rfl rfl rfl) (y_call (hf.eval rfl) (hf.evals rfl) Tryd.call54 ((rsame_spec _ _ _ (encV (dsF data : Sl)) (hs.rdB .k0 fun h => slB_rd) _ _ data (hs.oldB hr1) (by omega)).mono ?_))
      rintro e w1 ⟨rfl, hk⟩
      replace hs := hs.ext hk
      refine ⟨_, rfl, ?_⟩; clear hf a; intro a hf
      refine s_do hf (wanted_of hf rfl rfl rfl) (.value (x_not (hf.eval rfl) _) ?_); clear hf a; intro a hf
      refine s_v hf (x_pick_f (hf.eval rfl) (hf.eval rfl)) ?_; clear hf a; intro a hf
      refine s_nil ?_
      refine then_n ?_
      refine c_cond hf rfl (fun hi1 => ?_) (fun hi1 => ?_)
      · first | simp only [decide_eq_true_eq, decide_eq_false_iff_not, Bool.not_eq_true', Bool.not_eq_false'] at hi1 | skip
        have hno : decOk data = false := by
          unfold decOk
          by_cases h8 : data.length = 512
          · cases h9 : slOk (dsF data) with
            | false => simp
            | true =>
              obtain ⟨he1, he2⟩ := enc_ok h9
              first
              | exact absurd he1 hg5_2
              | (rw [he2] at hi1; rw [decide_eq_false hi1]; simp)
          · simp [h8]
        refine wp_seq ?_
        refine wp_region_lit ?_
        refine s_r hf (x_build (v := .agg (slF zSl).toArray) (hf.parts rfl) (fun w => by kernel_rfl) _) ?_; clear hf a; intro a hf
        replace hs := hs.take (A := cb b2 24 (slF zSl)) (by first | exact .k0 | exact .k1 | exact .k2 | exact .k3 | exact .k4 | exact .k5 | exact .k6 | exact .k7 | exact .k8 | exact .k9 | exact .k10 | exact .k11)
        refine s_do0 hf rfl (y_storeAgg (cs := slF zSl) hs (n := 7) (by kernel_rfl) (hf.eval rfl) (hf.eval rfl) (by simp [Value.oneCell', slF]) rfl rfl .k0 ?_); clear hf hs a; intro w hs a hf
        refine s_a hf rfl ?_; clear hf a; intro a hf
        refine s_nil ?_
        refine then_n ?_
        refine wp_ret ?_
        refine then_r ?_
        refine r_2c hf Tryd.results17 rfl rfl hs ag24 rfl .k0 ?_
        rw [(dec_no hno).1, (dec_no hno).2]
        exact ⟨rfl, hs.kept⟩
      · first | simp only [decide_eq_true_eq, decide_eq_false_iff_not, Bool.not_eq_true', Bool.not_eq_false'] at hi1 | skip
        have hsk : slOk (dsF data) = true := by
          cases h9 : slOk (dsF data) with
          | true => rfl
          | false => exact absurd (enc_no h9).1 (by rw [hg5_2]; decide)
        have hse : secS (dsF data) = data := by rw [← (enc_ok hsk).2]; exact hi1
        have hyes : decOk data = true := by unfold decOk; rw [hsk, decide_eq_true hl5, decide_eq_true hse]; rfl
        refine wp_skip ?_
        refine then_n ?_
        refine wp_seq ?_
        refine wp_region_lit ?_
        replace hs := hs.take (A := cb b4 24 (slF (dsF data : Sl))) (by first | exact .k0 | exact .k1 | exact .k2 | exact .k3 | exact .k4 | exact .k5 | exact .k6 | exact .k7 | exact .k8 | exact .k9 | exact .k10 | exact .k11)
        refine s_r hf (x_loadBlk hs ag24 (hf.eval rfl) rfl (by first | exact .k0 | exact .k1 | exact .k2 | exact .k3 | exact .k4 | exact .k5 | exact .k6 | exact .k7 | exact .k8 | exact .k9)) ?_; clear hf a; intro a hf
        replace hs := hs.take (A := cb b2 24 (slF zSl)) (by first | exact .k0 | exact .k1 | exact .k2 | exact .k3 | exact .k4 | exact .k5 | exact .k6 | exact .k7 | exact .k8 | exact .k9 | exact .k10 | exact .k11)
        refine s_do0 hf rfl (y_storeAgg (cs := slF (dsF data : Sl)) hs (n := 7) (by kernel_rfl) (hf.eval rfl) (hf.eval rfl) (by simp [Value.oneCell', slF]) rfl rfl .k0 ?_); clear hf hs a; intro w hs a hf
        refine s_a hf rfl ?_; clear hf a; intro a hf
        refine s_nil ?_
        refine then_n ?_
        refine wp_ret ?_
        refine r_2c hf Tryd.results17 rfl rfl hs ag24 rfl .k0 ?_
        rw [(dec_yes hyes).1, (dec_yes hyes).2]
        exact ⟨rfl, hs.kept⟩
end Go.Proofs.YtehakfbfjpolfaaDoor

namespace Go.Proofs.YtehakfbfjpolfaaDoor
open Go Vw
theorem pre_rd {h : Heaplet} {a : Option Addr} {c n : Nat} {l : List UInt8} (hr : RdB h (.slice a l.length c) l) (hn : n ≤ l.length) : RdB h (.slice a n c) (l.take n) := by
  have hc := RdB.cap hr
  have hlen : (l.take n).length = n := by rw [List.length_take]; omega
  have h0 : RdB h (.slice (subA a c 0 1) (l.take n).length c) (l.take n) := by
    have h1 := RdB.sub (i := 0) (j := n) hr rfl (by omega) (by omega)
    rw [hlen]
    simpa using h1
  rw [hlen] at h0
  have e : subA a c 0 1 = a := by unfold subA; split <;> (cases a <;> simp [Addr.add])
  rwa [e] at h0
theorem trimByte_spec (w0 : World) (a1 : Option Addr) (c1 : Nat) (l : List UInt8) (hr1 : RdB (hp w0) (.slice a1 l.length c1) l) (hl1 : l.length ≤ 140737488351232) : Calls Tryd.prog 110 #[.slice a1 l.length c1, u8v 0] w0 fun e w' => e = .returned (.slice a1 (l.length - zt l) c1) ∧ Kept w0 w' None_ := by
  have hs := St.start w0 None_
  have hcp := RdB.cap hr1
  refine c_enter (N := 24) Tryd.func110 rfl Tryd.ntmps110 (by simp) ?_
  intro a hf
  refine wp_seq ?_
  refine wp_region_lit ?_
  refine s_a hf rfl ?_; clear hf a; intro a hf
  refine s_nil ?_
  refine then_n ?_
  refine wp_seq ?_
  refine wp_block ?_
  refine c_loop (L0 := [(1, _), (4, _)]) (fun M w m => ∃ n : Nat, M = [(0, .slice a1 n c1)] ∧ n = m ∧ n ≤ l.length ∧ zt l = (l.length - n) + zt (l.take n) ∧ St ⟨w0, None_⟩ w []) (M0 := _) (⟨l.length, rfl, rfl, Nat.le_refl _, by rw [List.take_length]; omega, hs⟩) (hf.sub ⟨rfl, rfl, rfl, trivial⟩) ?_
  clear hf hs a
  rintro M m a w ⟨n, rfl, rfl, hn, hz, hs⟩ hf
  refine wp_seq ?_
  refine wp_seq ?_
  refine wp_region_lit ?_
  refine s_m hf rfl ?_; clear hf a; intro a hf
  refine s_v hf (x_len Tryd.underlying25 (hf.eval rfl)) ?_; clear hf a; intro a hf
  refine s_v hf (x_bin (hf.eval rfl) (hf.eval rfl) (r_gt _ _ _ _)) ?_; clear hf a; intro a hf
  refine s_m hf rfl ?_; clear hf a; intro a hf
  refine s_bool hf (k := 8) rfl (fun hg1_3 hf' => ?_) (fun hg1_3 hf' => ?_)
  · clear hf
    have hf := hf'
    clear hf'
    first | simp only [decide_eq_true_eq, decide_eq_false_iff_not, Bool.not_eq_true', Bool.not_eq_false'] at hg1_3 | skip
    obtain ⟨n, rfl⟩ : ∃ k, n = k + 1 := ⟨n - 1, by omega⟩
    have hlt : n < l.length := by omega
    obtain ⟨a1, rfl⟩ := hr1.some (by omega)
    refine s_do hf (wanted_of hf rfl rfl rfl) (.value (x_move (hf.eval rfl) _) ?_); clear hf a; intro a hf
    refine s_do hf (wanted_of hf rfl rfl rfl) (.value (x_move (hf.eval rfl) _) ?_); clear hf a; intro a hf
    refine s_do hf (wanted_of hf rfl rfl rfl) (.value (x_len Tryd.underlying25 (hf.eval rfl) _) ?_); clear hf a; intro a hf
    refine s_do hf (wanted_of hf rfl rfl rfl) (.value (x_bin (hf.eval rfl) (hf.eval rfl) (r_subi _ (by omega) (by omega)) _) ?_); clear hf a; intro a hf
    replace hf := hf.now (k := 12) (v' := .int .i64 (n : Int)) rfl (by congr 1 <;> omega)
    refine s_do hf (wanted_of hf rfl rfl rfl) (.value (x_indexAddr sl25 (hf.eval rfl) (hf.eval rfl) (by omega) (by omega) _) ?_); clear hf a; intro a hf
    refine s_do hf (wanted_of hf rfl rfl rfl) (.value (x_loadB (i := (n : Int)) sc5 (hs.oldB hr1) (hf.eval rfl) (by rw [Int.toNat_natCast]; exact hlt)) ?_); clear hf a; intro a hf
    replace hf := hf.now (k := 14) (v' := u8v l[n]) rfl (rfl)
    refine s_do hf (wanted_of hf rfl rfl rfl) (.value (x_move (hf.eval rfl) _) ?_); clear hf a; intro a hf
    refine s_do hf (wanted_of hf rfl rfl rfl) (.value (x_bin (hf.eval rfl) (hf.eval rfl) (r_eq _ _ _ _) _) ?_); clear hf a; intro a hf
    refine s_v hf (x_pick_t (hf.eval rfl) (hf.eval rfl)) ?_; clear hf a; intro a hf
    refine s_nil ?_
    refine then_n ?_
    refine c_cond hf rfl (fun hi0 => ?_) (fun hi0 => ?_)
    · first | simp only [decide_eq_true_eq, decide_eq_false_iff_not, Bool.not_eq_true', Bool.not_eq_false'] at hi0 | skip
      have h0 : l[n] = 0 := UInt8.toNat_inj.1 (by omega)
      have hz9 : zt l = (l.length - n) + zt (l.take n) := by rw [hz, zt_take0 hlt h0]; omega
      refine wp_skip ?_
      refine then_n ?_
      refine wp_block ?_
      refine wp_region_lit ?_
      refine s_m hf rfl ?_; clear hf a; intro a hf
      refine s_m hf rfl ?_; clear hf a; intro a hf
      refine s_v hf (x_len Tryd.underlying25 (hf.eval rfl)) ?_; clear hf a; intro a hf
      refine s_v hf (x_bin (hf.eval rfl) (hf.eval rfl) (r_subi _ (by omega) (by omega))) ?_; clear hf a; intro a hf
      replace hf := hf.now (k := 21) (v' := .int .i64 (n : Int)) rfl (by congr 1 <;> omega)
      refine s_v hf (x_slice_hi sl25 (hf.eval rfl) (hf.eval rfl)  (by omega) (by omega)) ?_; clear hf a; intro a hf
      replace hf := hf.now (k := 22) (v' := .slice (some a1) n c1) rfl (rfl)
      refine s_a hf rfl ?_; clear hf a; intro a hf
      refine s_nil ?_
      refine blk_n ?_
      exact ⟨_, _, ⟨n, rfl, rfl, by omega, hz9, hs⟩, by omega, hf.sub ⟨rfl, rfl, rfl, trivial⟩⟩
    · first | simp only [decide_eq_true_eq, decide_eq_false_iff_not, Bool.not_eq_true', Bool.not_eq_false'] at hi0 | skip
      refine wp_exit ?_
      refine then_x ?_
      refine then_x ?_
      refine blk_x ?_
      refine then_n ?_
      refine wp_seq ?_
      refine wp_region_lit ?_
      refine s_m hf rfl ?_; clear hf a; intro a hf
      refine s_a hf rfl ?_; clear hf a; intro a hf
      refine s_nil ?_
      refine then_n ?_
      refine wp_ret ?_
      refine r_1 hf Tryd.results110 rfl ?_
      first | (rw [show l.length - zt l = n by rw [hz, show n = 0 by omega, List.take_zero, zt_nil] <;> omega]; exact ⟨rfl, hs.kept⟩) | (rw [show l.length - zt l = n + 1 by rw [hz, zt_take1 hlt (fun h9 => hi0 (by rw [h9]))]; omega]; exact ⟨rfl, hs.kept⟩)
  · clear hf
    have hf := hf'
    clear hf'
    first | simp only [decide_eq_true_eq, decide_eq_false_iff_not, Bool.not_eq_true', Bool.not_eq_false'] at hg1_3 | skip
    refine s_pass hf rfl rfl ?_; clear hf a; intro a hf
    refine s_pass hf rfl rfl ?_; clear hf a; intro a hf
    refine s_pass hf rfl rfl ?_; clear hf a; intro a hf
    refine s_pass hf rfl rfl ?_; clear hf a; intro a hf
    refine s_pass hf rfl rfl ?_; clear hf a; intro a hf
    refine s_pass hf rfl rfl ?_; clear hf a; intro a hf
    refine s_pass hf rfl rfl ?_; clear hf a; intro a hf
    refine s_pass hf rfl rfl ?_; clear hf a; intro a hf
    refine s_v hf (x_pick_f (hf.eval rfl) (hf.eval rfl)) ?_; clear hf a; intro a hf
    refine s_nil ?_
    refine then_n ?_
    refine c_cond_f hf rfl rfl ?_
    refine wp_exit ?_
    refine then_x ?_
    refine then_x ?_
    refine blk_x ?_
    refine then_n ?_
    refine wp_seq ?_
    refine wp_region_lit ?_
    refine s_m hf rfl ?_; clear hf a; intro a hf
    refine s_a hf rfl ?_; clear hf a; intro a hf
    refine s_nil ?_
    refine then_n ?_
    refine wp_ret ?_
    refine r_1 hf Tryd.results110 rfl ?_
    first | (rw [show l.length - zt l = n by rw [hz, show n = 0 by omega, List.take_zero, zt_nil] <;> omega]; exact ⟨rfl, hs.kept⟩) | (rw [show l.length - zt l = n + 1 by rw [hz, zt_take1 hlt (fun h9 => hi0 (by rw [h9]))]; omega]; exact ⟨rfl, hs.kept⟩)
theorem trim_spec (w0 : World) (a1 : Option Addr) (c1 : Nat) (l : List UInt8) (hr1 : RdB (hp w0) (.slice a1 l.length c1) l) (hl1 : l.length ≤ 140737488351232) : Calls Tryd.prog 98 #[.slice a1 l.length c1, .string ⟨#[0]⟩] w0 fun e w' => e = .returned (.slice a1 (l.length - zt l) c1) ∧ Kept w0 w' None_ := by
  have hs := St.start w0 None_
  refine c_enter (N := 38) Tryd.func98 rfl Tryd.ntmps98 (by simp) ?_
  intro a hf
  refine wp_seq ?_
  refine wp_region_lit ?_
  refine s_a hf rfl ?_; clear hf a; intro a hf
  refine s_nil ?_
  refine then_n ?_
  refine wp_seq ?_
  refine wp_seq ?_
  refine wp_region_lit ?_
  refine s_m hf rfl ?_; clear hf a; intro a hf
  refine s_v hf (x_len Tryd.underlying25 (hf.eval rfl)) ?_; clear hf a; intro a hf
  refine s_v hf (x_bin (hf.eval rfl) (hf.eval rfl) (r_eq _ _ _ _)) ?_; clear hf a; intro a hf
  refine s_m hf rfl ?_; clear hf a; intro a hf
  refine s_bool hf (k := 10) rfl (fun hg1_3 hf' => ?_) (fun hg1_3 hf' => ?_)
  · clear hf
    have hf := hf'
    clear hf'
    first | simp only [decide_eq_true_eq, decide_eq_false_iff_not, Bool.not_eq_true', Bool.not_eq_false'] at hg1_3 | skip
    refine s_pass hf rfl rfl ?_; clear hf a; intro a hf
    refine s_pass hf rfl rfl ?_; clear hf a; intro a hf
    refine s_v hf (x_pick_t (hf.eval rfl) (hf.eval rfl)) ?_; clear hf a; intro a hf
    refine s_nil ?_
    refine then_n ?_
    refine c_cond_t hf rfl rfl ?_
    refine wp_seq ?_
    refine wp_region_lit ?_
    refine s_m hf rfl ?_; clear hf a; intro a hf
    refine s_a hf rfl ?_; clear hf a; intro a hf
    refine s_nil ?_
    refine then_n ?_
    refine wp_ret ?_
    refine then_r ?_
    refine r_1 hf Tryd.results98 rfl ?_
    first | exact absurd hi0 (by simp) | (have hz := zt_le l; exact ⟨by rw [show l.length - zt l = l.length by omega], hs.kept⟩)
  · clear hf
    have hf := hf'
    clear hf'
    first | simp only [decide_eq_true_eq, decide_eq_false_iff_not, Bool.not_eq_true', Bool.not_eq_false'] at hg1_3 | skip
    refine s_do hf (wanted_of hf rfl rfl rfl) (.value (x_move (hf.eval rfl) _) ?_); clear hf a; intro a hf
    refine s_do hf (wanted_of hf rfl rfl rfl) (.value (x_strEq (hf.eval rfl) (hf.eval rfl) _) ?_); clear hf a; intro a hf
    replace hf := hf.now (k := 12) (v' := .bool false) rfl (by rw [show (⟨#[0]⟩ : ByteArray).toList = [0] from bytes_toList [0], show (⟨#[]⟩ : ByteArray).toList = [] from bytes_toList []]; rfl)
    refine s_v hf (x_pick_f (hf.eval rfl) (hf.eval rfl)) ?_; clear hf a; intro a hf
    refine s_nil ?_
    refine then_n ?_
    refine c_cond hf rfl (fun hi0 => ?_) (fun hi0 => ?_)
    · skip
      refine wp_seq ?_
      refine wp_region_lit ?_
      refine s_m hf rfl ?_; clear hf a; intro a hf
      refine s_a hf rfl ?_; clear hf a; intro a hf
      refine s_nil ?_
      refine then_n ?_
      refine wp_ret ?_
      refine then_r ?_
      refine r_1 hf Tryd.results98 rfl ?_
      first | exact absurd hi0 (by simp) | (have hz := zt_le l; exact ⟨by rw [show l.length - zt l = l.length by omega], hs.kept⟩)
    · skip
      refine wp_skip ?_
      refine then_n ?_
      refine wp_seq ?_
      refine wp_seq ?_
      refine wp_region_lit ?_
      refine s_m hf rfl ?_; clear hf a; intro a hf
      refine s_v hf (x_lenS Tryd.underlying9 (hf.eval rfl)) ?_; clear hf a; intro a hf
      replace hf := hf.now (k := 16) (v' := .int .i64 1) rfl (rfl)
      refine s_v hf (x_bin (hf.eval rfl) (hf.eval rfl) (r_eq _ _ _ _)) ?_; clear hf a; intro a hf
      refine s_m hf rfl ?_; clear hf a; intro a hf
      replace hf := hf.now (k := 18) (v' := .bool true) rfl (congrArg Value.bool rfl)
      refine s_do hf (wanted_of hf rfl rfl rfl) (.value (x_move (hf.eval rfl) _) ?_); clear hf a; intro a hf
      refine s_do hf (wanted_of hf rfl rfl rfl) (.value (x_indexStr (l := [0]) (i := 0) Tryd.underlying9 (hf.eval rfl) rfl (by decide) _) ?_); clear hf a; intro a hf
      replace hf := hf.now (k := 20) (v' := u8v 0) rfl (rfl)
      refine s_do hf (wanted_of hf rfl rfl rfl) (.value (x_bin (hf.eval rfl) (hf.eval rfl) (r_lt _ _ _ _) _) ?_); clear hf a; intro a hf
      refine s_v hf (x_pick_t (hf.eval rfl) (hf.eval rfl)) ?_; clear hf a; intro a hf
      refine s_nil ?_
      refine then_n ?_
      refine c_cond_t hf rfl rfl ?_
      refine wp_seq ?_
      refine wp_region_lit ?_
      refine s_m hf rfl ?_; clear hf a; intro a hf
      refine s_m hf rfl ?_; clear hf a; intro a hf
      refine s_r hf (x_indexStr (l := [0]) (i := 0) Tryd.underlying9 (hf.eval rfl) rfl (by decide) _) ?_; clear hf a; intro a hf
      replace hf := hf.now (k := 25) (v' := u8v 0) rfl (rfl)
      refine s_do hf rfl (y_call (hf.eval rfl) (hf.evals rfl) Tryd.call110 ((trimByte_spec _ _ _ l (hs.oldB hr1) hl1).mono ?_))
      rintro e w1 ⟨rfl, hk⟩
      replace hs := hs.ext hk
      refine ⟨_, rfl, ?_⟩; clear hf a; intro a hf
      refine s_a hf rfl ?_; clear hf a; intro a hf
      refine s_nil ?_
      refine then_n ?_
      refine wp_ret ?_
      refine then_r ?_
      refine r_1 hf Tryd.results98 rfl ?_
      exact ⟨rfl, hs.kept⟩
theorem tail_spec (w0 : World) (a1 : Option Addr) (c1 : Nat) (l : List UInt8) (hr1 : RdB (hp w0) (.slice a1 l.length c1) l) (hl1 : l.length ≤ 140737488351232) : Calls Tryd.prog 80 #[.slice a1 l.length c1] w0 fun e w' => e = .returned (.int .i64 (zt l : Int)) ∧ Kept w0 w' None_ := by
  have hs := St.start w0 None_
  refine c_enter (N := 9) Tryd.func80 rfl Tryd.ntmps80 (by simp) ?_
  intro a hf
  refine wp_seq ?_
  refine wp_region_lit ?_
  refine s_a hf rfl ?_; clear hf a; intro a hf
  refine s_nil ?_
  refine then_n ?_
  refine wp_seq ?_
  refine wp_region_lit ?_
  refine s_m hf rfl ?_; clear hf a; intro a hf
  refine s_v hf (x_len Tryd.underlying25 (hf.eval rfl)) ?_; clear hf a; intro a hf
  refine s_m hf rfl ?_; clear hf a; intro a hf
  refine s_do hf rfl (y_call (hf.eval rfl) (hf.evals rfl) Tryd.call98 ((trim_spec _ _ _ l (hs.oldB hr1) hl1).mono ?_))
  rintro e w1 ⟨rfl, hk⟩
  replace hs := hs.ext hk
  refine ⟨_, rfl, ?_⟩; clear hf a; intro a hf
  refine s_v hf (x_len Tryd.underlying25 (hf.eval rfl)) ?_; clear hf a; intro a hf
  refine s_v hf (x_bin (hf.eval rfl) (hf.eval rfl) (r_subi _ (by omega) (by omega))) ?_; clear hf a; intro a hf
  refine s_a hf rfl ?_; clear hf a; intro a hf
  refine s_nil ?_
  refine then_n ?_
  refine wp_ret ?_
  refine r_1 hf Tryd.results80 rfl ?_
  have hz := zt_le l
  exact ⟨by congr 2; omega, hs.kept⟩
theorem rtail_spec (w0 : World) (a1 : Option Addr) (c1 : Nat) (l : List UInt8) (hr1 : RdB (hp w0) (.slice a1 l.length c1) l) (hl1 : l.length ≤ 140737488351232) : Calls Tryd.prog 33 #[.slice a1 l.length c1] w0 fun e w' => e = .returned (.int .i64 (zt l : Int)) ∧ Kept w0 w' None_ := by
  have hs := St.start w0 None_
  refine c_enter (N := 22) Tryd.func33 rfl Tryd.ntmps33 (by simp) ?_
  intro a hf
  refine wp_seq ?_
  refine wp_region_lit ?_
  refine s_a hf rfl ?_; clear hf a; intro a hf
  refine s_nil ?_
  refine then_n ?_
  refine wp_seq ?_
  refine wp_region_lit ?_
  refine s_a hf rfl ?_; clear hf a; intro a hf
  refine s_nil ?_
  refine then_n ?_
  refine wp_seq ?_
  refine wp_block ?_
  refine c_loop (L0 := [(0, _), (2, _)]) (fun M w m => ∃ n : Nat, M = [(3, .int .i64 ((l.length - n : Nat) : Int))] ∧ n = m ∧ n ≤ l.length ∧ zt l = (l.length - n) + zt (l.take n) ∧ St ⟨w0, None_⟩ w []) (M0 := [(3, .int .i64 0)]) (⟨l.length, by rw [Nat.sub_self]; rfl, rfl, Nat.le_refl _, by rw [List.take_length]; omega, hs⟩) (hf.sub ⟨rfl, rfl, rfl, trivial⟩) ?_
  clear hf hs a
  rintro M m a w ⟨n, rfl, rfl, hn, hz, hs⟩ hf
  refine wp_seq ?_
  refine wp_seq ?_
  refine wp_region_lit ?_
  refine s_m hf rfl ?_; clear hf a; intro a hf
  refine s_m hf rfl ?_; clear hf a; intro a hf
  refine s_v hf (x_len Tryd.underlying25 (hf.eval rfl)) ?_; clear hf a; intro a hf
  refine s_v hf (x_bin (hf.eval rfl) (hf.eval rfl) (r_lt _ _ _ _)) ?_; clear hf a; intro a hf
  refine s_m hf rfl ?_; clear hf a; intro a hf
  refine s_bool hf (k := 8) rfl (fun hg2_4 hf' => ?_) (fun hg2_4 hf' => ?_)
  · clear hf
    have hf := hf'
    clear hf'
    first | simp only [decide_eq_true_eq, decide_eq_false_iff_not, Bool.not_eq_true', Bool.not_eq_false'] at hg2_4 | skip
    obtain ⟨n, rfl⟩ : ∃ k, n = k + 1 := ⟨n - 1, by omega⟩
    have hlt : n < l.length := by omega
    obtain ⟨a1, rfl⟩ := hr1.some (by omega)
    refine s_do hf (wanted_of hf rfl rfl rfl) (.value (x_move (hf.eval rfl) _) ?_); clear hf a; intro a hf
    refine s_do hf (wanted_of hf rfl rfl rfl) (.value (x_move (hf.eval rfl) _) ?_); clear hf a; intro a hf
    refine s_do hf (wanted_of hf rfl rfl rfl) (.value (x_len Tryd.underlying25 (hf.eval rfl) _) ?_); clear hf a; intro a hf
    refine s_do hf (wanted_of hf rfl rfl rfl) (.value (x_bin (hf.eval rfl) (hf.eval rfl) (r_subi _ (by omega) (by omega)) _) ?_); clear hf a; intro a hf
    refine s_do hf (wanted_of hf rfl rfl rfl) (.value (x_move (hf.eval rfl) _) ?_); clear hf a; intro a hf
    refine s_do hf (wanted_of hf rfl rfl rfl) (.value (x_bin (hf.eval rfl) (hf.eval rfl) (r_subi _ (by omega) (by omega)) _) ?_); clear hf a; intro a hf
    replace hf := hf.now (k := 14) (v' := .int .i64 (n : Int)) rfl (by congr 1 <;> omega)
    refine s_do hf (wanted_of hf rfl rfl rfl) (.value (x_indexAddr sl25 (hf.eval rfl) (hf.eval rfl) (by omega) (by omega) _) ?_); clear hf a; intro a hf
    refine s_do hf (wanted_of hf rfl rfl rfl) (.value (x_loadB (i := (n : Int)) sc5 (hs.oldB hr1) (hf.eval rfl) (by rw [Int.toNat_natCast]; exact hlt)) ?_); clear hf a; intro a hf
    replace hf := hf.now (k := 16) (v' := u8v l[n]) rfl (rfl)
    refine s_do hf (wanted_of hf rfl rfl rfl) (.value (x_bin (hf.eval rfl) (hf.eval rfl) (r_eq _ _ _ _) _) ?_); clear hf a; intro a hf
    refine s_v hf (x_pick_t (hf.eval rfl) (hf.eval rfl)) ?_; clear hf a; intro a hf
    refine s_nil ?_
    refine then_n ?_
    refine c_cond hf rfl (fun hi0 => ?_) (fun hi0 => ?_)
    · first | simp only [decide_eq_true_eq, decide_eq_false_iff_not, Bool.not_eq_true', Bool.not_eq_false'] at hi0 | skip
      have h0 : l[n] = 0 := UInt8.toNat_inj.1 (by show l[n].toNat = 0; omega)
      have hz9 : zt l = (l.length - n) + zt (l.take n) := by rw [hz, zt_take0 hlt h0]; omega
      refine wp_skip ?_
      refine then_n ?_
      refine wp_block ?_
      refine wp_region_lit ?_
      refine s_m hf rfl ?_; clear hf a; intro a hf
      refine s_v hf (x_bin (hf.eval rfl) (hf.eval rfl) (r_addi _ (by omega) (by omega))) ?_; clear hf a; intro a hf
      replace hf := hf.now (k := 20) (v' := .int .i64 ((l.length - n : Nat) : Int)) rfl (by congr 1 <;> omega)
      refine s_a hf rfl ?_; clear hf a; intro a hf
      refine s_nil ?_
      refine blk_n ?_
      exact ⟨_, _, ⟨n, rfl, rfl, by omega, hz9, hs⟩, by omega, hf.sub ⟨rfl, rfl, rfl, trivial⟩⟩
    · first | simp only [decide_eq_true_eq, decide_eq_false_iff_not, Bool.not_eq_true', Bool.not_eq_false'] at hi0 | skip
      refine wp_exit ?_
      refine then_x ?_
      refine then_x ?_
      refine blk_x ?_
      refine then_n ?_
      refine wp_seq ?_
      refine wp_region_lit ?_
      refine s_m hf rfl ?_; clear hf a; intro a hf
      refine s_a hf rfl ?_; clear hf a; intro a hf
      refine s_nil ?_
      refine then_n ?_
      refine wp_ret ?_
      refine r_1 hf Tryd.results33 rfl ?_
      first | (rw [show zt l = l.length - n by rw [hz, show n = 0 by omega, List.take_zero, zt_nil] <;> omega]; exact ⟨rfl, hs.kept⟩) | (rw [show zt l = l.length - (n + 1) by rw [hz, zt_take1 hlt (fun h9 => hi0 (by rw [h9]; rfl))]; omega]; exact ⟨rfl, hs.kept⟩)
  · clear hf
    have hf := hf'
    clear hf'
    first | simp only [decide_eq_true_eq, decide_eq_false_iff_not, Bool.not_eq_true', Bool.not_eq_false'] at hg2_4 | skip
    refine s_pass hf rfl rfl ?_; clear hf a; intro a hf
    refine s_pass hf rfl rfl ?_; clear hf a; intro a hf
    refine s_pass hf rfl rfl ?_; clear hf a; intro a hf
    refine s_pass hf rfl rfl ?_; clear hf a; intro a hf
    refine s_pass hf rfl rfl ?_; clear hf a; intro a hf
    refine s_pass hf rfl rfl ?_; clear hf a; intro a hf
    refine s_pass hf rfl rfl ?_; clear hf a; intro a hf
    refine s_pass hf rfl rfl ?_; clear hf a; intro a hf
    refine s_pass hf rfl rfl ?_; clear hf a; intro a hf
    refine s_v hf (x_pick_f (hf.eval rfl) (hf.eval rfl)) ?_; clear hf a; intro a hf
    refine s_nil ?_
    refine then_n ?_
    refine c_cond_f hf rfl rfl ?_
    refine wp_exit ?_
    refine then_x ?_
    refine then_x ?_
    refine blk_x ?_
    refine then_n ?_
    refine wp_seq ?_
    refine wp_region_lit ?_
    refine s_m hf rfl ?_; clear hf a; intro a hf
    refine s_a hf rfl ?_; clear hf a; intro a hf
    refine s_nil ?_
    refine then_n ?_
    refine wp_ret ?_
    refine r_1 hf Tryd.results33 rfl ?_
    first | (rw [show zt l = l.length - n by rw [hz, show n = 0 by omega, List.take_zero, zt_nil] <;> omega]; exact ⟨rfl, hs.kept⟩) | (rw [show zt l = l.length - (n + 1) by rw [hz, zt_take1 hlt (fun h9 => hi0 (by rw [h9]; rfl))]; omega]; exact ⟨rfl, hs.kept⟩)
end Go.Proofs.YtehakfbfjpolfaaDoor

namespace Go.Proofs.YtehakfbfjpolfaaDoor
open Go Vw
theorem back_spec (w0 : World) (s : Sl) (hsu : s.2.2.2.2.2.2 < 4294967296) (hso : 0 ≤ s.2.2.1 ∧ s.2.2.1 ≤ 16777216) (hsc : 0 ≤ s.2.2.2.2.1 ∧ s.2.2.2.2.1 ≤ 4294967295) (a1 : Option Addr) (c1 : Nat) (body : List UInt8) (hr1 : RdB (hp w0) (.slice a1 body.length c1) body) (hl1 : body.length ≤ 16777216) : Calls Tryd.prog 59 #[.agg (slF s).toArray, .slice a1 body.length c1] w0 fun e w' => ∃ (v : Value) (k : Nat), e = .returned (.tuple #[v, .bool (bkOk s body)]) ∧ (bkOk s body = true → k = s.2.2.2.2.1.toNat) ∧ St ⟨w0, None_⟩ w' [sl 91 2 v (spL body k).length ((spL body k).flatMap spF)] := by
  have hs := St.start w0 None_
  obtain ⟨N, hN⟩ : ∃ N : Nat, s.2.2.2.2.1 = (N : Int) := ⟨s.2.2.2.2.1.toNat, by omega⟩
  have hNt : s.2.2.2.2.1.toNat = N := by omega
  refine c_enter (N := 76) Tryd.func59 rfl Tryd.ntmps59 (by simp) ?_
  intro a hf
  refine wp_seq ?_
  refine wp_region_lit ?_
  refine s_do hf rfl (y_box hs (hf.eval rfl) ?_); clear hf hs a; intro b2 w hs a hf
  replace hs : St _ w (cb b2 24 (slF s) :: _) := hs
  refine s_a hf rfl ?_; clear hf a; intro a hf
  refine s_a hf rfl ?_; clear hf a; intro a hf
  refine s_nil ?_
  refine then_n ?_
  refine wp_seq ?_
  refine wp_seq ?_
  refine c_draw hs (fun w' => w'.cell? ⟨b2, 6, none⟩ = some (.int .u32 (s.2.2.2.2.2.2 : Int))) [.held, .eff, .held, .held, .held, .held, .held, .read, .held, .held, .held, .held, .held] (by kernel_rfl) (by kernel_rfl) (fun _ _ hs => hs.cell (k := 6) .k0 rfl) ?_
  clear hs; intro w hs hC hw
  refine m_held hf rfl (fun w' _ => x_move (hf.eval rfl) w') ?_; clear hf a; intro a hf
  refine m_eff hf rfl (y_call (hf.eval rfl) (hf.evals rfl) Tryd.call46 ((refSum_spec _ _ _ body (hs.oldB hr1) (by omega)).mono ?_))
  rintro e w1 ⟨rfl, hk⟩
  replace hs := hs.ext hk
  refine ⟨_, rfl, ⟨hs.cell (k := 6) .k0 rfl, ?_⟩⟩; clear hf a; intro a hf
  refine m_held hf rfl (fun w' _ => x_fieldAddr fo24_6 (hf.eval rfl) w') ?_; clear hf a; intro a hf
  refine m_held hf rfl (fun w' hc => x_load sc22 (hf.eval rfl) hc) ?_; clear hf a; intro a hf
  refine m_held hf rfl (fun w' _ => x_bin (hf.eval rfl) (hf.eval rfl) (r_ne _ _ _ _) w') ?_; clear hf a; intro a hf
  refine m_held hf rfl (fun w' _ => x_move (hf.eval rfl) w') ?_; clear hf a; intro a hf
  refine s_bool hf (k := 17) rfl (fun hg1_5 hf' => ?_) (fun hg1_5 hf' => ?_)
  · clear hf
    have hf := hf'
    clear hf'
    first | simp only [decide_eq_true_eq, decide_eq_false_iff_not, Bool.not_eq_true', Bool.not_eq_false'] at hg1_5 | skip
    refine m_pass hf rfl rfl ?_; clear hf a; intro a hf
    refine m_pass hf rfl rfl ?_; clear hf a; intro a hf
    refine m_pass hf rfl rfl ?_; clear hf a; intro a hf
    refine m_pass hf rfl rfl ?_; clear hf a; intro a hf
    refine m_pass hf rfl rfl ?_; clear hf a; intro a hf
    refine m_pass hf rfl rfl ?_; clear hf a; intro a hf
    refine m_held hf rfl (fun w' _ => x_pick_t (hf.eval rfl) (hf.eval rfl) w') ?_; clear hf a; intro a hf
    refine m_nil ?_
    refine then_n ?_
    refine c_cond_t hf rfl rfl ?_
    refine wp_seq ?_
    refine wp_region_lit ?_
    refine s_a hf rfl ?_; clear hf a; intro a hf
    refine s_a hf rfl ?_; clear hf a; intro a hf
    refine s_nil ?_
    refine then_n ?_
    refine wp_ret ?_
    refine then_r ?_
    refine r_2 hf Tryd.results59 rfl rfl ?_
    have hno : bkOk s body = false := by unfold bkOk; first | (rw [decide_eq_false (show ¬ crcU 0 body = s.2.2.2.2.2.2 by omega)]; simp; done) | (rw [decide_eq_false (show ¬ 8 * s.2.2.2.2.1 ≤ (body.length : Int) by omega)]; simp; done)
    rw [hno]
    exact ⟨.slice none 0 0, 0, rfl, fun h => (by cases h), (St.keep [] _ hs).emp (fun _ => ⟨rfl, .inl ⟨rfl, rfl⟩⟩)⟩
  · clear hf
    have hf := hf'
    clear hf'
    first | simp only [decide_eq_true_eq, decide_eq_false_iff_not, Bool.not_eq_true', Bool.not_eq_false'] at hg1_5 | skip
    refine m_held hf (wanted_of hf rfl rfl rfl) (fun w' _ => x_fieldAddr fo24_4 (hf.eval rfl) w') ?_; clear hf a; intro a hf
    refine m_read hf (wanted_of hf rfl rfl rfl) (x_load sc3 (hf.eval rfl) (by first | exact hs.cell .k0 rfl | exact hs.cell .k1 rfl | exact hs.cell .k2 rfl | exact hs.cell .k3 rfl | exact hs.cell .k4 rfl | exact hs.cell .k5 rfl | exact hs.cell .k6 rfl | exact hs.cell .k7 rfl)) ?_; clear hf a; intro a hf
    refine m_held hf (wanted_of hf rfl rfl rfl) (fun w' _ => x_bin (hf.eval rfl) (hf.eval rfl) (r_muli _ (by omega) (by omega)) w') ?_; clear hf a; intro a hf
    refine m_held hf (wanted_of hf rfl rfl rfl) (fun w' _ => x_move (hf.eval rfl) w') ?_; clear hf a; intro a hf
    refine m_held hf (wanted_of hf rfl rfl rfl) (fun w' _ => x_len Tryd.underlying25 (hf.eval rfl) w') ?_; clear hf a; intro a hf
    refine m_held hf (wanted_of hf rfl rfl rfl) (fun w' _ => x_bin (hf.eval rfl) (hf.eval rfl) (r_gt _ _ _ _) w') ?_; clear hf a; intro a hf
    refine m_held hf rfl (fun w' _ => x_pick_f (hf.eval rfl) (hf.eval rfl) w') ?_; clear hf a; intro a hf
    refine m_nil ?_
    refine then_n ?_
    refine c_cond hf rfl (fun hi0 => ?_) (fun hi0 => ?_)
    · first | simp only [decide_eq_true_eq, decide_eq_false_iff_not, Bool.not_eq_true', Bool.not_eq_false'] at hi0 | skip
      refine wp_seq ?_
      refine wp_region_lit ?_
      refine s_a hf rfl ?_; clear hf a; intro a hf
      refine s_a hf rfl ?_; clear hf a; intro a hf
      refine s_nil ?_
      refine then_n ?_
      refine wp_ret ?_
      refine then_r ?_
      refine r_2 hf Tryd.results59 rfl rfl ?_
      have hno : bkOk s body = false := by unfold bkOk; first | (rw [decide_eq_false (show ¬ crcU 0 body = s.2.2.2.2.2.2 by omega)]; simp; done) | (rw [decide_eq_false (show ¬ 8 * s.2.2.2.2.1 ≤ (body.length : Int) by omega)]; simp; done)
      rw [hno]
      exact ⟨.slice none 0 0, 0, rfl, fun h => (by cases h), (St.keep [] _ hs).emp (fun _ => ⟨rfl, .inl ⟨rfl, rfl⟩⟩)⟩
    · first | simp only [decide_eq_true_eq, decide_eq_false_iff_not, Bool.not_eq_true', Bool.not_eq_false'] at hi0 | skip
      refine wp_skip ?_
      refine then_n ?_
      refine wp_seq ?_
      refine wp_region_lit ?_
      refine s_a hf rfl ?_; clear hf a; intro a hf
      refine s_nil ?_
      refine then_n ?_
      refine wp_seq ?_
      refine wp_region_lit ?_
      refine s_a hf rfl ?_; clear hf a; intro a hf
      refine s_nil ?_
      refine then_n ?_
      refine wp_seq ?_
      refine wp_region_lit ?_
      refine s_a hf rfl ?_; clear hf a; intro a hf
      refine s_nil ?_
      refine then_n ?_
      refine wp_seq ?_
      refine wp_seq ?_
      refine wp_region_lit ?_
      refine s_a hf rfl ?_; clear hf a; intro a hf
      refine s_nil ?_
      refine then_n ?_
      refine wp_block ?_
      have hc1 : crcU 0 body = s.2.2.2.2.2.2 := by omega
      have hc2 : 8 * N ≤ body.length := by omega
      replace hs := hs.emp (A := sl 91 2 (.slice none 0 0) (spL body 0).length ((spL body 0).flatMap spF)) (fun _ => ⟨rfl, .inl ⟨rfl, rfl⟩⟩)
      refine c_loop (L0 := [(1, _), (2, _)]) (fun M w m => ∃ (i en t : Nat) (v : Value), M = [(6, v), (7, .int .i64 (en : Int)), (8, .int .i64 (t : Int)), (9, .int .i64 (i : Int))] ∧ N - i = m ∧ i ≤ N ∧ wlk s.2.2.1 body i = some (en, t) ∧ St ⟨w0, None_⟩ w [sl 91 2 v (spL body i).length ((spL body i).flatMap spF), cb b2 24 (slF s)]) (M0 := _) (⟨0, 0, 0, _, rfl, rfl, Nat.zero_le _, rfl, hs⟩) (hf.sub ⟨rfl, rfl, rfl, rfl, rfl, rfl, trivial⟩) ?_
      clear hf hs a
      rintro M m a w ⟨i, en, t, v, rfl, rfl, hi, hwk, hs⟩ hf
      have hle := wlk_le hso.1 hwk
      have hsl : (spL body i).length = i := by unfold spL; simp
      refine wp_seq ?_
      refine wp_seq ?_
      refine wp_region_lit ?_
      refine s_m hf rfl ?_; clear hf a; intro a hf
      refine s_v hf (x_fieldAddr fo24_4 (hf.eval rfl)) ?_; clear hf a; intro a hf
      refine s_r hf (x_load sc3 (hf.eval rfl) (by first | exact hs.cell .k0 rfl | exact hs.cell .k1 rfl | exact hs.cell .k2 rfl | exact hs.cell .k3 rfl | exact hs.cell .k4 rfl | exact hs.cell .k5 rfl | exact hs.cell .k6 rfl | exact hs.cell .k7 rfl)) ?_; clear hf a; intro a hf
      replace hf := hf.now (k := 27) (v' := .int .i64 (N : Int)) rfl (by rw [← hN])
      refine s_v hf (x_bin (hf.eval rfl) (hf.eval rfl) (r_lt _ _ _ _)) ?_; clear hf a; intro a hf
      refine s_nil ?_
      refine then_n ?_
      refine c_cond hf rfl (fun hi1 => ?_) (fun hi1 => ?_)
      · simp only [decide_eq_true_eq, decide_eq_false_iff_not, Bool.not_eq_true', Bool.not_eq_false', Bool.not_eq_true, Int.not_lt, Int.not_le] at hi1
        have hlt : i < N := by omega
        have ha1 := rd32_lt body (8 * i)
        have ha2 := rd32_lt body (8 * i + 4)
        have hA : spA body i = rd32 body (8 * i) := rfl
        have hB : spN body i = rd32 body (8 * i + 4) := rfl
        refine wp_skip ?_
        refine then_n ?_
        refine wp_seq ?_
        refine wp_block ?_
        refine wp_seq ?_
        refine wp_region_lit ?_
        refine s_m hf rfl ?_; clear hf a; intro a hf
        refine s_m hf rfl ?_; clear hf a; intro a hf
        refine s_v hf (x_bin (hf.eval rfl) (hf.eval rfl) (r_muli _ (by omega) (by omega))) ?_; clear hf a; intro a hf
        replace hf := hf.now (k := 33) (v' := .int .i64 ((8 * i : Nat) : Int)) rfl (by congr 1 <;> omega)
        refine s_do hf rfl (y_call (hf.eval rfl) (hf.evals rfl) Tryd.call53 ((at32_spec _ _ _ body (hs.oldB hr1) (8 * i) (by omega) (by omega)).mono ?_))
        rintro e w1 ⟨rfl, hk⟩
        replace hs := hs.ext hk
        refine ⟨_, rfl, ?_⟩; clear hf a; intro a hf
        refine s_a hf rfl ?_; clear hf a; intro a hf
        replace hf := hf.now (k := 10) (v' := .int .i64 ((spA body i : Nat) : Int)) rfl (rfl)
        refine s_nil ?_
        refine then_n ?_
        refine wp_seq ?_
        refine wp_region_lit ?_
        refine s_m hf rfl ?_; clear hf a; intro a hf
        refine s_m hf rfl ?_; clear hf a; intro a hf
        refine s_v hf (x_bin (hf.eval rfl) (hf.eval rfl) (r_muli _ (by omega) (by omega))) ?_; clear hf a; intro a hf
        replace hf := hf.now (k := 37) (v' := .int .i64 ((8 * i : Nat) : Int)) rfl (by congr 1 <;> omega)
        refine s_v hf (x_bin (hf.eval rfl) (hf.eval rfl) (r_addi _ (by omega) (by omega))) ?_; clear hf a; intro a hf
        replace hf := hf.now (k := 38) (v' := .int .i64 ((8 * i + 4 : Nat) : Int)) rfl (by congr 1 <;> omega)
        refine s_do hf rfl (y_call (hf.eval rfl) (hf.evals rfl) Tryd.call53 ((at32_spec _ _ _ body (hs.oldB hr1) (8 * i + 4) (by omega) (by omega)).mono ?_))
        rintro e w1 ⟨rfl, hk⟩
        replace hs := hs.ext hk
        refine ⟨_, rfl, ?_⟩; clear hf a; intro a hf
        refine s_a hf rfl ?_; clear hf a; intro a hf
        replace hf := hf.now (k := 11) (v' := .int .i64 ((spN body i : Nat) : Int)) rfl (rfl)
        refine s_nil ?_
        refine then_n ?_
        refine wp_seq ?_
        refine wp_seq ?_
        refine wp_region_lit ?_
        refine s_m hf rfl ?_; clear hf a; intro a hf
        refine s_v hf (x_bin (hf.eval rfl) (hf.eval rfl) (r_lt _ _ _ _)) ?_; clear hf a; intro a hf
        refine s_m hf rfl ?_; clear hf a; intro a hf
        refine s_bool hf (k := 42) rfl (fun hg11_2 hf' => ?_) (fun hg11_2 hf' => ?_)
        · clear hf
          have hf := hf'
          clear hf'
          first | simp only [decide_eq_true_eq, decide_eq_false_iff_not, Bool.not_eq_true', Bool.not_eq_false'] at hg11_2 | skip
          refine s_pass hf rfl rfl ?_; clear hf a; intro a hf
          refine s_pass hf rfl rfl ?_; clear hf a; intro a hf
          refine s_pass hf rfl rfl ?_; clear hf a; intro a hf
          refine s_v hf (x_pick_t (hf.eval rfl) (hf.eval rfl)) ?_; clear hf a; intro a hf
          refine s_m hf rfl ?_; clear hf a; intro a hf
          refine s_pass hf rfl rfl ?_; clear hf a; intro a hf
          refine s_pass hf rfl rfl ?_; clear hf a; intro a hf
          refine s_pass hf rfl rfl ?_; clear hf a; intro a hf
          refine s_pass hf rfl rfl ?_; clear hf a; intro a hf
          refine s_pass hf rfl rfl ?_; clear hf a; intro a hf
          refine s_pass hf rfl rfl ?_; clear hf a; intro a hf
          refine s_v hf (x_pick_t (hf.eval rfl) (hf.eval rfl)) ?_; clear hf a; intro a hf
          refine s_nil ?_
          refine then_n ?_
          refine c_cond_t hf rfl rfl ?_
          refine wp_seq ?_
          refine wp_region_lit ?_
          refine s_a hf rfl ?_; clear hf a; intro a hf
          refine s_a hf rfl ?_; clear hf a; intro a hf
          refine s_nil ?_
          refine then_n ?_
          refine wp_ret ?_
          refine then_r (blk_r (then_r (then_r (blk_r (then_r ?_)))))
          refine r_2 hf Tryd.results59 rfl rfl ?_
          have hw := wlk_none (wlk_bad hwk (show spN body i < 1 ∨ spA body i < en ∨ s.2.2.1 < ((spA body i + spN body i : Nat) : Int) by omega)) (N - (i + 1))
          rw [show i + 1 + (N - (i + 1)) = N by omega] at hw
          have hno : bkOk s body = false := by unfold bkOk; rw [hNt, hw]; simp
          rw [hno]
          exact ⟨.slice none 0 0, 0, rfl, fun h => (by cases h), (St.keep [] _ hs).emp (fun _ => ⟨rfl, .inl ⟨rfl, rfl⟩⟩)⟩
        · clear hf
          have hf := hf'
          clear hf'
          first | simp only [decide_eq_true_eq, decide_eq_false_iff_not, Bool.not_eq_true', Bool.not_eq_false'] at hg11_2 | skip
          refine s_do hf (wanted_of hf rfl rfl rfl) (.value (x_move (hf.eval rfl) _) ?_); clear hf a; intro a hf
          refine s_do hf (wanted_of hf rfl rfl rfl) (.value (x_move (hf.eval rfl) _) ?_); clear hf a; intro a hf
          refine s_do hf (wanted_of hf rfl rfl rfl) (.value (x_bin (hf.eval rfl) (hf.eval rfl) (r_lt _ _ _ _) _) ?_); clear hf a; intro a hf
          refine s_v hf (x_pick_f (hf.eval rfl) (hf.eval rfl)) ?_; clear hf a; intro a hf
          refine s_m hf rfl ?_; clear hf a; intro a hf
          refine s_bool hf (k := 47) rfl (fun hg11_7 hf' => ?_) (fun hg11_7 hf' => ?_)
          · clear hf
            have hf := hf'
            clear hf'
            first | simp only [decide_eq_true_eq, decide_eq_false_iff_not, Bool.not_eq_true', Bool.not_eq_false'] at hg11_7 | skip
            refine s_pass hf rfl rfl ?_; clear hf a; intro a hf
            refine s_pass hf rfl rfl ?_; clear hf a; intro a hf
            refine s_pass hf rfl rfl ?_; clear hf a; intro a hf
            refine s_pass hf rfl rfl ?_; clear hf a; intro a hf
            refine s_pass hf rfl rfl ?_; clear hf a; intro a hf
            refine s_pass hf rfl rfl ?_; clear hf a; intro a hf
            refine s_v hf (x_pick_t (hf.eval rfl) (hf.eval rfl)) ?_; clear hf a; intro a hf
            refine s_nil ?_
            refine then_n ?_
            refine c_cond_t hf rfl rfl ?_
            refine wp_seq ?_
            refine wp_region_lit ?_
            refine s_a hf rfl ?_; clear hf a; intro a hf
            refine s_a hf rfl ?_; clear hf a; intro a hf
            refine s_nil ?_
            refine then_n ?_
            refine wp_ret ?_
            refine then_r (blk_r (then_r (then_r (blk_r (then_r ?_)))))
            refine r_2 hf Tryd.results59 rfl rfl ?_
            have hw := wlk_none (wlk_bad hwk (show spN body i < 1 ∨ spA body i < en ∨ s.2.2.1 < ((spA body i + spN body i : Nat) : Int) by omega)) (N - (i + 1))
            rw [show i + 1 + (N - (i + 1)) = N by omega] at hw
            have hno : bkOk s body = false := by unfold bkOk; rw [hNt, hw]; simp
            rw [hno]
            exact ⟨.slice none 0 0, 0, rfl, fun h => (by cases h), (St.keep [] _ hs).emp (fun _ => ⟨rfl, .inl ⟨rfl, rfl⟩⟩)⟩
          · clear hf
            have hf := hf'
            clear hf'
            first | simp only [decide_eq_true_eq, decide_eq_false_iff_not, Bool.not_eq_true', Bool.not_eq_false'] at hg11_7 | skip
            refine s_do hf (wanted_of hf rfl rfl rfl) (.value (x_move (hf.eval rfl) _) ?_); clear hf a; intro a hf
            refine s_do hf (wanted_of hf rfl rfl rfl) (.value (x_move (hf.eval rfl) _) ?_); clear hf a; intro a hf
            refine s_do hf (wanted_of hf rfl rfl rfl) (.value (x_bin (hf.eval rfl) (hf.eval rfl) (r_addi _ (by omega) (by omega)) _) ?_); clear hf a; intro a hf
            refine s_do hf (wanted_of hf rfl rfl rfl) (.value (x_fieldAddr fo24_2 (hf.eval rfl) _) ?_); clear hf a; intro a hf
            refine s_do hf (wanted_of hf rfl rfl rfl) (.value (x_load sc3 (hf.eval rfl) (by first | exact hs.cell .k0 rfl | exact hs.cell .k1 rfl | exact hs.cell .k2 rfl | exact hs.cell .k3 rfl | exact hs.cell .k4 rfl | exact hs.cell .k5 rfl | exact hs.cell .k6 rfl | exact hs.cell .k7 rfl)) ?_); clear hf a; intro a hf
            refine s_do hf (wanted_of hf rfl rfl rfl) (.value (x_bin (hf.eval rfl) (hf.eval rfl) (r_gt _ _ _ _) _) ?_); clear hf a; intro a hf
            refine s_v hf (x_pick_f (hf.eval rfl) (hf.eval rfl)) ?_; clear hf a; intro a hf
            refine s_nil ?_
            refine then_n ?_
            refine c_cond hf rfl (fun hi2 => ?_) (fun hi2 => ?_)
            · first | simp only [decide_eq_true_eq, decide_eq_false_iff_not, Bool.not_eq_true', Bool.not_eq_false'] at hi2 | skip
              refine wp_seq ?_
              refine wp_region_lit ?_
              refine s_a hf rfl ?_; clear hf a; intro a hf
              refine s_a hf rfl ?_; clear hf a; intro a hf
              refine s_nil ?_
              refine then_n ?_
              refine wp_ret ?_
              refine then_r (blk_r (then_r (then_r (blk_r (then_r ?_)))))
              refine r_2 hf Tryd.results59 rfl rfl ?_
              have hw := wlk_none (wlk_bad hwk (show spN body i < 1 ∨ spA body i < en ∨ s.2.2.1 < ((spA body i + spN body i : Nat) : Int) by omega)) (N - (i + 1))
              rw [show i + 1 + (N - (i + 1)) = N by omega] at hw
              have hno : bkOk s body = false := by unfold bkOk; rw [hNt, hw]; simp
              rw [hno]
              exact ⟨.slice none 0 0, 0, rfl, fun h => (by cases h), (St.keep [] _ hs).emp (fun _ => ⟨rfl, .inl ⟨rfl, rfl⟩⟩)⟩
            · first | simp only [decide_eq_true_eq, decide_eq_false_iff_not, Bool.not_eq_true', Bool.not_eq_false'] at hi2 | skip
              have hnb : ¬ (spN body i < 1 ∨ spA body i < en ∨ s.2.2.1 < ((spA body i + spN body i : Nat) : Int)) := by omega
              refine wp_skip ?_
              refine then_n ?_
              refine wp_seq ?_
              refine wp_region_lit ?_
              refine s_m hf rfl ?_; clear hf a; intro a hf
              refine s_m hf rfl ?_; clear hf a; intro a hf
              refine s_v hf (x_bin (hf.eval rfl) (hf.eval rfl) (r_addi _ (by omega) (by omega))) ?_; clear hf a; intro a hf
              replace hf := hf.now (k := 57) (v' := .int .i64 ((spA body i + spN body i : Nat) : Int)) rfl (by congr 1)
              refine s_a hf rfl ?_; clear hf a; intro a hf
              refine s_nil ?_
              refine then_n ?_
              refine wp_seq ?_
              refine wp_region_lit ?_
              refine s_m hf rfl ?_; clear hf a; intro a hf
              refine s_m hf rfl ?_; clear hf a; intro a hf
              refine s_v hf (x_bin (hf.eval rfl) (hf.eval rfl) (r_addi _ (by omega) (by omega))) ?_; clear hf a; intro a hf
              replace hf := hf.now (k := 60) (v' := .int .i64 ((t + spN body i : Nat) : Int)) rfl (by congr 1)
              refine s_a hf rfl ?_; clear hf a; intro a hf
              refine s_nil ?_
              refine then_n ?_
              refine wp_region_lit ?_
              refine s_m hf rfl ?_; clear hf a; intro a hf
              refine s_m hf rfl ?_; clear hf a; intro a hf
              refine s_m hf rfl ?_; clear hf a; intro a hf
              refine s_r hf (x_build (v := .agg #[.int .i64 ((spA body i : Nat) : Int), .int .i64 ((spA body i + spN body i : Nat) : Int)]) (hf.parts rfl) (fun w => by kernel_rfl) _) ?_; clear hf a; intro a hf
              refine s_do hf rfl (y_lit (xs := [.tmp 64]) hs sl87 (hf.evals rfl) rfl (by simp [Value.cells]) (by decide) ?_); clear hf hs a; intro b7 w hs a hf
              refine s_do hf rfl (y_append (n := (spL body i).length) (m := 1) (ys := [.int .i64 ((spA body i : Nat) : Int), .int .i64 ((spA body i + spN body i : Nat) : Int)]) hs sl87 (hf.eval rfl) (hf.eval rfl) .k1 (hs.rd .k0 fun h hb => rd_rows hb rfl) (by simp [Value.oneCell']) (by omega) (by rw [maxLen_eq]; omega) ?_); clear hf hs a; intro v2 w hs hv a hf
              replace hs := hs.lose .k1
              have hsp := spL_succ body i
              have hsq : (spL body (i + 1)).length = (spL body i).length + 1 := by rw [hsp]; simp
              replace hs : St ⟨w0, None_⟩ w [sl 91 2 v2 (spL body (i + 1)).length ((spL body (i + 1)).flatMap spF), cb b2 24 (slF s)] := by rw [hsq, hsp, List.flatMap_append]; exact hs
              refine s_a hf rfl ?_; clear hf a; intro a hf
              refine s_nil ?_
              refine blk_n ?_
              refine then_n ?_
              refine wp_region_lit ?_
              refine s_m hf rfl ?_; clear hf a; intro a hf
              refine s_v hf (x_bin (hf.eval rfl) (hf.eval rfl) (r_addi _ (by omega) (by omega))) ?_; clear hf a; intro a hf
              refine s_a hf rfl ?_; clear hf a; intro a hf
              refine s_nil ?_
              exact ⟨_, _, ⟨i + 1, spA body i + spN body i, t + spN body i, _, rfl, rfl, by omega, wlk_good hwk hnb, hs⟩, by omega, hf.sub ⟨rfl, rfl, rfl, rfl, rfl, rfl, trivial⟩⟩
      · simp only [decide_eq_true_eq, decide_eq_false_iff_not, Bool.not_eq_true', Bool.not_eq_false', Bool.not_eq_true, Int.not_lt, Int.not_le] at hi1
        refine wp_exit ?_
        refine then_x ?_
        refine then_x ?_
        refine blk_x ?_
        refine then_n ?_
        refine wp_seq ?_
        refine c_draw hs (fun _ => True) [.held, .held, .read, .held, .held, .held, .held, .held, .held, .held, .held] (by kernel_rfl) (by kernel_rfl) (fun _ _ _ => trivial) ?_
        clear hs; intro w hs hC hw
        refine m_held hf rfl (fun w' _ => x_move (hf.eval rfl) w') ?_; clear hf a; intro a hf
        refine m_held hf rfl (fun w' _ => x_fieldAddr fo24_4 (hf.eval rfl) w') ?_; clear hf a; intro a hf
        refine m_read hf rfl (x_load sc3 (hf.eval rfl) (by first | exact hs.cell .k0 rfl | exact hs.cell .k1 rfl | exact hs.cell .k2 rfl | exact hs.cell .k3 rfl | exact hs.cell .k4 rfl | exact hs.cell .k5 rfl | exact hs.cell .k6 rfl | exact hs.cell .k7 rfl)) ?_; clear hf a; intro a hf
        refine m_held hf rfl (fun w' _ => x_bin (hf.eval rfl) (hf.eval rfl) (r_muli _ (by omega) (by omega)) w') ?_; clear hf a; intro a hf
        refine m_held hf rfl (fun w' _ => x_move (hf.eval rfl) w') ?_; clear hf a; intro a hf
        refine m_held hf rfl (fun w' _ => x_bin (hf.eval rfl) (hf.eval rfl) (r_addi _ (by omega) (by omega)) w') ?_; clear hf a; intro a hf
        refine m_held hf rfl (fun w' _ => x_move (hf.eval rfl) w') ?_; clear hf a; intro a hf
        refine m_held hf rfl (fun w' _ => x_len Tryd.underlying25 (hf.eval rfl) w') ?_; clear hf a; intro a hf
        refine m_held hf rfl (fun w' _ => x_bin (hf.eval rfl) (hf.eval rfl) (r_eq _ _ _ _) w') ?_; clear hf a; intro a hf
        refine m_held hf rfl (fun w' _ => x_assign (hf.eval rfl) w') ?_; clear hf a; intro a hf
        refine m_held hf rfl (fun w' _ => x_assign (hf.eval rfl) w') ?_; clear hf a; intro a hf
        refine m_nil ?_
        refine then_n ?_
        refine wp_ret ?_
        refine r_2 hf Tryd.results59 rfl rfl ?_
        obtain rfl : i = N := by omega
        have hyes : bkOk s body = decide (8 * s.2.2.2.2.1 + (t : Int) = (body.length : Int)) := by unfold bkOk; rw [hNt, hwk, decide_eq_true hc1, decide_eq_true (show 8 * s.2.2.2.2.1 ≤ (body.length : Int) by omega)]; simp only [Bool.true_and]; exact decide_eq_decide.2 (by omega)
        rw [hyes]
        exact ⟨v, i, rfl, fun _ => hNt.symm, St.keep [_] _ hs⟩
end Go.Proofs.YtehakfbfjpolfaaDoor

namespace Go.Proofs.YtehakfbfjpolfaaDoor
open Go Vw
theorem restored_spec (w0 : World) (hT : Tab 0 (hp w0)) (s : Sl) (hsu : s.2.2.2.2.2.2 < 4294967296) (hso : 0 ≤ s.2.2.1 ∧ s.2.2.1 ≤ 16777216) (hsc : 0 ≤ s.2.2.2.2.1 ∧ s.2.2.2.2.1 ≤ 4294967295) (a1 : Option Addr) (c1 : Nat) (body : List UInt8) (hr1 : RdB (hp w0) (.slice a1 body.length c1) body) (hl1 : body.length ≤ 16777216) : Calls Tryd.prog 101 #[.agg (slF s).toArray, .slice a1 body.length c1] w0 fun e w' => ∃ (v : Value) (ps : List Pt), e = .returned (.tuple #[v, .bool (bkOk s body)]) ∧ (bkOk s body = true → ps.map pcOf = bkL s body s.2.2.2.2.1.toNat) ∧ St ⟨w0, None_⟩ w' [sl 110 2 v ps.length (ps.flatMap pcF), datR ps] := by
  have hs := St.start w0 None_
  obtain ⟨N, hN⟩ : ∃ N : Nat, s.2.2.2.2.1 = (N : Int) := ⟨s.2.2.2.2.1.toNat, by omega⟩
  have hNt : s.2.2.2.2.1.toNat = N := by omega
  refine c_enter (N := 78) Tryd.func101 rfl Tryd.ntmps101 (by simp) ?_
  intro a hf
  refine wp_seq ?_
  refine wp_region_lit ?_
  refine s_do hf rfl (y_box hs (hf.eval rfl) ?_); clear hf hs a; intro b2 w hs a hf
  replace hs : St _ w (cb b2 24 (slF s) :: _) := hs
  refine s_a hf rfl ?_; clear hf a; intro a hf
  refine s_a hf rfl ?_; clear hf a; intro a hf
  refine s_nil ?_
  refine then_n ?_
  refine wp_seq ?_
  refine wp_seq ?_
  refine c_draw hs (fun w' => w'.cell? ⟨b2, 6, none⟩ = some (.int .u32 (s.2.2.2.2.2.2 : Int))) [.held, .eff, .held, .held, .held, .held, .held, .read, .held, .held, .held, .held, .held] (by kernel_rfl) (by kernel_rfl) (fun _ _ hs => hs.cell (k := 6) .k0 rfl) ?_
  clear hs; intro w hs hC hw
  refine m_held hf rfl (fun w' _ => x_move (hf.eval rfl) w') ?_; clear hf a; intro a hf
  refine m_eff hf rfl (y_call (hf.eval rfl) (hf.evals rfl) Tryd.call42 ((sum_spec _ (hT.kept hs.kept) _ _ body (hs.oldB hr1) (by omega)).mono ?_))
  rintro e w1 ⟨rfl, hk⟩
  replace hs := hs.ext hk
  refine ⟨_, rfl, ⟨hs.cell (k := 6) .k0 rfl, ?_⟩⟩; clear hf a; intro a hf
  refine m_held hf rfl (fun w' _ => x_fieldAddr fo24_6 (hf.eval rfl) w') ?_; clear hf a; intro a hf
  refine m_held hf rfl (fun w' hc => x_load sc22 (hf.eval rfl) hc) ?_; clear hf a; intro a hf
  refine m_held hf rfl (fun w' _ => x_bin (hf.eval rfl) (hf.eval rfl) (r_ne _ _ _ _) w') ?_; clear hf a; intro a hf
  refine m_held hf rfl (fun w' _ => x_move (hf.eval rfl) w') ?_; clear hf a; intro a hf
  refine s_bool hf (k := 17) rfl (fun hg1_5 hf' => ?_) (fun hg1_5 hf' => ?_)
  · clear hf
    have hf := hf'
    clear hf'
    first | simp only [decide_eq_true_eq, decide_eq_false_iff_not, Bool.not_eq_true', Bool.not_eq_false'] at hg1_5 | skip
    refine m_pass hf rfl rfl ?_; clear hf a; intro a hf
    refine m_pass hf rfl rfl ?_; clear hf a; intro a hf
    refine m_pass hf rfl rfl ?_; clear hf a; intro a hf
    refine m_pass hf rfl rfl ?_; clear hf a; intro a hf
    refine m_pass hf rfl rfl ?_; clear hf a; intro a hf
    refine m_pass hf rfl rfl ?_; clear hf a; intro a hf
    refine m_held hf rfl (fun w' _ => x_pick_t (hf.eval rfl) (hf.eval rfl) w') ?_; clear hf a; intro a hf
    refine m_nil ?_
    refine then_n ?_
    refine c_cond_t hf rfl rfl ?_
    refine wp_seq ?_
    refine wp_region_lit ?_
    refine s_a hf rfl ?_; clear hf a; intro a hf
    refine s_a hf rfl ?_; clear hf a; intro a hf
    refine s_nil ?_
    refine then_n ?_
    refine wp_ret ?_
    refine then_r ?_
    refine r_2 hf Tryd.results101 rfl rfl ?_
    have hno : bkOk s body = false := by unfold bkOk; first | (rw [decide_eq_false (show ¬ crcU 0 body = s.2.2.2.2.2.2 by omega)]; simp; done) | (rw [decide_eq_false (show ¬ 8 * s.2.2.2.2.1 ≤ (body.length : Int) by omega)]; simp; done)
    rw [hno]
    exact ⟨.slice none 0 0, [], rfl, fun h => (by cases h), ((St.keep [] _ hs).emp (A := datR []) (fun _ => trivial)).emp (fun _ => ⟨rfl, .inl ⟨rfl, rfl⟩⟩)⟩
  · clear hf
    have hf := hf'
    clear hf'
    first | simp only [decide_eq_true_eq, decide_eq_false_iff_not, Bool.not_eq_true', Bool.not_eq_false'] at hg1_5 | skip
    refine m_held hf (wanted_of hf rfl rfl rfl) (fun w' _ => x_fieldAddr fo24_4 (hf.eval rfl) w') ?_; clear hf a; intro a hf
    refine m_read hf (wanted_of hf rfl rfl rfl) (x_load sc3 (hf.eval rfl) (by first | exact hs.cell .k0 rfl | exact hs.cell .k1 rfl | exact hs.cell .k2 rfl | exact hs.cell .k3 rfl | exact hs.cell .k4 rfl | exact hs.cell .k5 rfl | exact hs.cell .k6 rfl | exact hs.cell .k7 rfl)) ?_; clear hf a; intro a hf
    refine m_held hf (wanted_of hf rfl rfl rfl) (fun w' _ => x_move (hf.eval rfl) w') ?_; clear hf a; intro a hf
    refine m_held hf (wanted_of hf rfl rfl rfl) (fun w' _ => x_len Tryd.underlying25 (hf.eval rfl) w') ?_; clear hf a; intro a hf
    refine m_held hf (wanted_of hf rfl rfl rfl) (fun w' _ => x_bin (hf.eval rfl) (hf.eval rfl) (r_quon _ (Int.natCast_nonneg _) (by decide) (by omega)) w') ?_; clear hf a; intro a hf
    refine m_held hf (wanted_of hf rfl rfl rfl) (fun w' _ => x_bin (hf.eval rfl) (hf.eval rfl) (r_gt _ _ _ _) w') ?_; clear hf a; intro a hf
    refine m_held hf rfl (fun w' _ => x_pick_f (hf.eval rfl) (hf.eval rfl) w') ?_; clear hf a; intro a hf
    refine m_nil ?_
    refine then_n ?_
    refine c_cond hf rfl (fun hi0 => ?_) (fun hi0 => ?_)
    · first | simp only [decide_eq_true_eq, decide_eq_false_iff_not, Bool.not_eq_true', Bool.not_eq_false'] at hi0 | skip
      refine wp_seq ?_
      refine wp_region_lit ?_
      refine s_a hf rfl ?_; clear hf a; intro a hf
      refine s_a hf rfl ?_; clear hf a; intro a hf
      refine s_nil ?_
      refine then_n ?_
      refine wp_ret ?_
      refine then_r ?_
      refine r_2 hf Tryd.results101 rfl rfl ?_
      have hno : bkOk s body = false := by unfold bkOk; first | (rw [decide_eq_false (show ¬ crcU 0 body = s.2.2.2.2.2.2 by omega)]; simp; done) | (rw [decide_eq_false (show ¬ 8 * s.2.2.2.2.1 ≤ (body.length : Int) by omega)]; simp; done)
      rw [hno]
      exact ⟨.slice none 0 0, [], rfl, fun h => (by cases h), ((St.keep [] _ hs).emp (A := datR []) (fun _ => trivial)).emp (fun _ => ⟨rfl, .inl ⟨rfl, rfl⟩⟩)⟩
    · first | simp only [decide_eq_true_eq, decide_eq_false_iff_not, Bool.not_eq_true', Bool.not_eq_false'] at hi0 | skip
      refine wp_skip ?_
      refine then_n ?_
      refine wp_seq ?_
      refine wp_region_lit ?_
      refine s_m hf rfl ?_; clear hf a; intro a hf
      refine s_do hf rfl (y_call (hf.eval rfl) (hf.evals rfl) Tryd.call48 ((newCursor_spec _ _ _ body (hs.oldB hr1) (by omega)).mono ?_))
      rintro e w1 ⟨p, rfl, hj⟩
      replace hs := hs.join hj
      simp only [List.cons_append, List.nil_append] at hs
      refine ⟨_, rfl, ?_⟩; clear hf a; intro a hf
      refine s_a hf rfl ?_; clear hf a; intro a hf
      refine s_nil ?_
      refine then_n ?_
      refine wp_seq ?_
      refine wp_region_lit ?_
      refine s_a hf rfl ?_; clear hf a; intro a hf
      refine s_nil ?_
      refine then_n ?_
      refine wp_seq ?_
      refine wp_region_lit ?_
      refine s_a hf rfl ?_; clear hf a; intro a hf
      refine s_nil ?_
      refine then_n ?_
      refine wp_seq ?_
      refine wp_region_lit ?_
      refine s_m hf rfl ?_; clear hf a; intro a hf
      refine s_v hf (x_fieldAddr fo24_4 (hf.eval rfl)) ?_; clear hf a; intro a hf
      refine s_r hf (x_load sc3 (hf.eval rfl) (by first | exact hs.cell .k0 rfl | exact hs.cell .k1 rfl | exact hs.cell .k2 rfl | exact hs.cell .k3 rfl | exact hs.cell .k4 rfl | exact hs.cell .k5 rfl | exact hs.cell .k6 rfl | exact hs.cell .k7 rfl)) ?_; clear hf a; intro a hf
      have hc1 : crcU 0 body = s.2.2.2.2.2.2 := by omega
      have hc2 : 8 * N ≤ body.length := by omega
      have hrl : (body.drop (8 * N)).length = body.length - 8 * N := by rw [List.length_drop]
      refine s_v hf (x_bin (hf.eval rfl) (hf.eval rfl) (r_muli _ (by omega) (by omega))) ?_; clear hf a; intro a hf
      replace hf := hf.now (k := 30) (v' := .int .i64 ((8 * N : Nat) : Int)) rfl (by rw [hN]; congr 1 <;> omega)
      refine s_v hf (x_slice_lo sl25 (hf.eval rfl) (hf.eval rfl)  (by omega) (by omega)) ?_; clear hf a; intro a hf
      have hrr : RdB (hp w0) (.slice (subA a1 c1 (8 * N) 1) (body.length - 8 * N) (c1 - 8 * N)) (body.drop (8 * N)) := by
        have h9 := RdB.sub (i := 8 * N) (j := body.length) hr1 rfl hc2 (Nat.le_refl _)
        rwa [List.take_of_length_le (by rw [hrl]; exact Nat.le_refl _)] at h9
      replace hf := hf.now (k := 31) (v' := .slice (subA a1 c1 (8 * N) 1) (body.drop (8 * N)).length (c1 - 8 * N)) rfl (by rw [hrl, Int.toNat_natCast])
      refine s_do hf rfl (y_call (hf.eval rfl) (hf.evals rfl) Tryd.call48 ((newCursor_spec _ _ _ (body.drop (8 * N)) (hs.oldB (by rw [hrl]; exact hrr)) (by omega)).mono ?_))
      rintro e w1 ⟨q, rfl, hj⟩
      replace hs := hs.join hj
      simp only [List.cons_append, List.nil_append] at hs
      refine ⟨_, rfl, ?_⟩; clear hf a; intro a hf
      refine s_a hf rfl ?_; clear hf a; intro a hf
      refine s_nil ?_
      refine then_n ?_
      refine wp_seq ?_
      refine wp_seq ?_
      refine wp_region_lit ?_
      refine s_v hf (x_fieldAddr fo24_4 (hf.eval rfl)) ?_; clear hf a; intro a hf
      refine s_r hf (x_load sc3 (hf.eval rfl) (by first | exact hs.cell .k0 rfl | exact hs.cell .k1 rfl | exact hs.cell .k2 rfl | exact hs.cell .k3 rfl | exact hs.cell .k4 rfl | exact hs.cell .k5 rfl | exact hs.cell .k6 rfl | exact hs.cell .k7 rfl)) ?_; clear hf a; intro a hf
      replace hf := hf.now (k := 34) (v' := .int .i64 (N : Int)) rfl (by rw [← hN])
      refine s_m hf rfl ?_; clear hf a; intro a hf
      refine s_nil ?_
      refine then_n ?_
      refine wp_block ?_
      replace hs := hs.take (A := cb b2 24 (slF s)) (by first | exact .k0 | exact .k1 | exact .k2 | exact .k3 | exact .k4 | exact .k5 | exact .k6 | exact .k7 | exact .k8 | exact .k9 | exact .k10 | exact .k11)
      replace hs := hs.emp (A := datR []) (fun _ => trivial)
      replace hs := hs.emp (A := sl 110 2 (.slice none 0 0) ([] : List Pt).length (([] : List Pt).flatMap pcF)) (fun _ => ⟨rfl, .inl ⟨rfl, rfl⟩⟩)
      replace hs := hs.take (A := curA 119 5 q (body.drop (8 * N)) 0 0) (by first | exact .k0 | exact .k1 | exact .k2 | exact .k3 | exact .k4 | exact .k5 | exact .k6 | exact .k7 | exact .k8 | exact .k9 | exact .k10 | exact .k11)
      replace hs := hs.take (A := curA 119 5 p body (8 * 0) 0) (by first | exact .k0 | exact .k1 | exact .k2 | exact .k3 | exact .k4 | exact .k5 | exact .k6 | exact .k7 | exact .k8 | exact .k9 | exact .k10 | exact .k11)
      refine c_loop (L0 := [(2, _), (6, _), (9, _), (34, _)]) (fun M w m => ∃ (i en t tat : Nat) (tb : Int) (v : Value) (ps : List Pt), M = [(7, v), (8, .int .i64 (en : Int)), (35, .int .i64 (i : Int))] ∧ N - i = m ∧ i ≤ N ∧ wlk s.2.2.1 body i = some (en, t) ∧ (tb = 0 → tat = t) ∧ (tb ≠ 0 → (body.drop (8 * N)).length < t) ∧ tat ≤ (body.drop (8 * N)).length ∧ ps.length = i ∧ (tb = 0 → ps.map pcOf = bkL s body i) ∧ St ⟨w0, None_⟩ w [curA 119 5 p body (8 * i) 0, curA 119 5 q (body.drop (8 * N)) tat tb, sl 110 2 v ps.length (ps.flatMap pcF), datR ps, cb b2 24 (slF s)]) (M0 := _) (⟨0, 0, 0, 0, 0, _, [], rfl, rfl, Nat.zero_le _, rfl, fun _ => rfl, fun h => absurd rfl h, Nat.zero_le _, rfl, fun _ => rfl, hs⟩) (hf.sub ⟨rfl, rfl, rfl, rfl, rfl, rfl, rfl, trivial⟩) ?_
      clear hf hs a
      rintro M m a w ⟨i, en, t, tat, tb, v, ps, rfl, rfl, hi, hwk, hx1, hx2, hx3, hpl, hpm, hs⟩ hf
      have hle := wlk_le hso.1 hwk
      refine wp_seq ?_
      refine wp_region_lit ?_
      refine s_v hf (x_bin (hf.eval rfl) (hf.eval rfl) (r_lt _ _ _ _)) ?_; clear hf a; intro a hf
      refine s_nil ?_
      refine then_n ?_
      refine wp_seq ?_
      refine c_cond hf rfl (fun hi1 => ?_) (fun hi1 => ?_)
      · simp only [decide_eq_true_eq, decide_eq_false_iff_not, Bool.not_eq_true', Bool.not_eq_false', Bool.not_eq_true, Int.not_lt, Int.not_le] at hi1
        have hlt : i < N := by omega
        have ha1 := rd32_lt body (8 * i)
        have ha2 := rd32_lt body (8 * i + 4)
        have hA : spA body i = rd32 body (8 * i) := rfl
        have hB : spN body i = rd32 body (8 * i + 4) := rfl
        refine wp_skip ?_
        refine then_n ?_
        refine wp_seq ?_
        refine wp_block ?_
        refine wp_seq ?_
        refine wp_region_lit ?_
        refine s_m hf rfl ?_; clear hf a; intro a hf
        refine s_do hf rfl (y_call (hf.eval rfl) (hf.evals rfl) Tryd.call50 ((u32_spec _ _ _ p body (8 * i) 0 hs (by omega) (by omega)).mono ?_))
        rintro e w1 ⟨rfl, hs⟩
        rw [nx4 (by omega)] at hs ⊢
        simp only [] at hs ⊢
        change St _ _ (curA 119 5 p body (8 * i + 4) 0 :: _) at hs
        refine ⟨_, rfl, ?_⟩; clear hf a; intro a hf
        refine s_m hf rfl ?_; clear hf a; intro a hf
        refine s_do hf rfl (y_call (hf.eval rfl) (hf.evals rfl) Tryd.call50 ((u32_spec _ _ _ p body (8 * i + 4) 0 hs (by omega) (by omega)).mono ?_))
        rintro e w1 ⟨rfl, hs⟩
        rw [nx4 (by omega)] at hs ⊢
        simp only [] at hs ⊢
        change St _ _ (curA 119 5 p body (8 * (i + 1)) 0 :: _) at hs
        refine ⟨_, rfl, ?_⟩; clear hf a; intro a hf
        refine s_a hf rfl ?_; clear hf a; intro a hf
        replace hf := hf.now (k := 10) (v' := .int .i64 ((spA body i : Nat) : Int)) rfl (rfl)
        refine s_a hf rfl ?_; clear hf a; intro a hf
        replace hf := hf.now (k := 11) (v' := .int .i64 ((spN body i : Nat) : Int)) rfl (rfl)
        refine s_nil ?_
        refine then_n ?_
        refine wp_seq ?_
        refine wp_seq ?_
        refine wp_region_lit ?_
        refine s_m hf rfl ?_; clear hf a; intro a hf
        refine s_v hf (x_bin (hf.eval rfl) (hf.eval rfl) (r_lt _ _ _ _)) ?_; clear hf a; intro a hf
        refine s_m hf rfl ?_; clear hf a; intro a hf
        refine s_bool hf (k := 43) rfl (fun hg10_2 hf' => ?_) (fun hg10_2 hf' => ?_)
        · clear hf
          have hf := hf'
          clear hf'
          first | simp only [decide_eq_true_eq, decide_eq_false_iff_not, Bool.not_eq_true', Bool.not_eq_false'] at hg10_2 | skip
          refine s_pass hf rfl rfl ?_; clear hf a; intro a hf
          refine s_pass hf rfl rfl ?_; clear hf a; intro a hf
          refine s_pass hf rfl rfl ?_; clear hf a; intro a hf
          refine s_v hf (x_pick_t (hf.eval rfl) (hf.eval rfl)) ?_; clear hf a; intro a hf
          refine s_m hf rfl ?_; clear hf a; intro a hf
          refine s_pass hf rfl rfl ?_; clear hf a; intro a hf
          refine s_pass hf rfl rfl ?_; clear hf a; intro a hf
          refine s_pass hf rfl rfl ?_; clear hf a; intro a hf
          refine s_pass hf rfl rfl ?_; clear hf a; intro a hf
          refine s_pass hf rfl rfl ?_; clear hf a; intro a hf
          refine s_pass hf rfl rfl ?_; clear hf a; intro a hf
          refine s_v hf (x_pick_t (hf.eval rfl) (hf.eval rfl)) ?_; clear hf a; intro a hf
          refine s_nil ?_
          refine then_n ?_
          refine c_cond_t hf rfl rfl ?_
          refine wp_seq ?_
          refine wp_region_lit ?_
          refine s_a hf rfl ?_; clear hf a; intro a hf
          refine s_a hf rfl ?_; clear hf a; intro a hf
          refine s_nil ?_
          refine then_n ?_
          refine wp_ret ?_
          refine then_r (blk_r (then_r (then_r (blk_r (then_r ?_)))))
          refine r_2 hf Tryd.results101 rfl rfl ?_
          have hw := wlk_none (wlk_bad hwk (show spN body i < 1 ∨ spA body i < en ∨ s.2.2.1 < ((spA body i + spN body i : Nat) : Int) by omega)) (N - (i + 1))
          rw [show i + 1 + (N - (i + 1)) = N by omega] at hw
          have hno : bkOk s body = false := by unfold bkOk; rw [hNt, hw]; simp
          rw [hno]
          exact ⟨.slice none 0 0, [], rfl, fun h => (by cases h), ((St.keep [] _ hs).emp (A := datR []) (fun _ => trivial)).emp (fun _ => ⟨rfl, .inl ⟨rfl, rfl⟩⟩)⟩
        · clear hf
          have hf := hf'
          clear hf'
          first | simp only [decide_eq_true_eq, decide_eq_false_iff_not, Bool.not_eq_true', Bool.not_eq_false'] at hg10_2 | skip
          refine s_do hf (wanted_of hf rfl rfl rfl) (.value (x_move (hf.eval rfl) _) ?_); clear hf a; intro a hf
          refine s_do hf (wanted_of hf rfl rfl rfl) (.value (x_move (hf.eval rfl) _) ?_); clear hf a; intro a hf
          refine s_do hf (wanted_of hf rfl rfl rfl) (.value (x_bin (hf.eval rfl) (hf.eval rfl) (r_lt _ _ _ _) _) ?_); clear hf a; intro a hf
          refine s_v hf (x_pick_f (hf.eval rfl) (hf.eval rfl)) ?_; clear hf a; intro a hf
          refine s_m hf rfl ?_; clear hf a; intro a hf
          refine s_bool hf (k := 48) rfl (fun hg10_7 hf' => ?_) (fun hg10_7 hf' => ?_)
          · clear hf
            have hf := hf'
            clear hf'
            first | simp only [decide_eq_true_eq, decide_eq_false_iff_not, Bool.not_eq_true', Bool.not_eq_false'] at hg10_7 | skip
            refine s_pass hf rfl rfl ?_; clear hf a; intro a hf
            refine s_pass hf rfl rfl ?_; clear hf a; intro a hf
            refine s_pass hf rfl rfl ?_; clear hf a; intro a hf
            refine s_pass hf rfl rfl ?_; clear hf a; intro a hf
            refine s_pass hf rfl rfl ?_; clear hf a; intro a hf
            refine s_pass hf rfl rfl ?_; clear hf a; intro a hf
            refine s_v hf (x_pick_t (hf.eval rfl) (hf.eval rfl)) ?_; clear hf a; intro a hf
            refine s_nil ?_
            refine then_n ?_
            refine c_cond_t hf rfl rfl ?_
            refine wp_seq ?_
            refine wp_region_lit ?_
            refine s_a hf rfl ?_; clear hf a; intro a hf
            refine s_a hf rfl ?_; clear hf a; intro a hf
            refine s_nil ?_
            refine then_n ?_
            refine wp_ret ?_
            refine then_r (blk_r (then_r (then_r (blk_r (then_r ?_)))))
            refine r_2 hf Tryd.results101 rfl rfl ?_
            have hw := wlk_none (wlk_bad hwk (show spN body i < 1 ∨ spA body i < en ∨ s.2.2.1 < ((spA body i + spN body i : Nat) : Int) by omega)) (N - (i + 1))
            rw [show i + 1 + (N - (i + 1)) = N by omega] at hw
            have hno : bkOk s body = false := by unfold bkOk; rw [hNt, hw]; simp
            rw [hno]
            exact ⟨.slice none 0 0, [], rfl, fun h => (by cases h), ((St.keep [] _ hs).emp (A := datR []) (fun _ => trivial)).emp (fun _ => ⟨rfl, .inl ⟨rfl, rfl⟩⟩)⟩
          · clear hf
            have hf := hf'
            clear hf'
            first | simp only [decide_eq_true_eq, decide_eq_false_iff_not, Bool.not_eq_true', Bool.not_eq_false'] at hg10_7 | skip
            refine s_do hf (wanted_of hf rfl rfl rfl) (.value (x_move (hf.eval rfl) _) ?_); clear hf a; intro a hf
            refine s_do hf (wanted_of hf rfl rfl rfl) (.value (x_move (hf.eval rfl) _) ?_); clear hf a; intro a hf
            refine s_do hf (wanted_of hf rfl rfl rfl) (.value (x_bin (hf.eval rfl) (hf.eval rfl) (r_addi _ (by omega) (by omega)) _) ?_); clear hf a; intro a hf
            refine s_do hf (wanted_of hf rfl rfl rfl) (.value (x_fieldAddr fo24_2 (hf.eval rfl) _) ?_); clear hf a; intro a hf
            refine s_do hf (wanted_of hf rfl rfl rfl) (.value (x_load sc3 (hf.eval rfl) (by first | exact hs.cell .k0 rfl | exact hs.cell .k1 rfl | exact hs.cell .k2 rfl | exact hs.cell .k3 rfl | exact hs.cell .k4 rfl | exact hs.cell .k5 rfl | exact hs.cell .k6 rfl | exact hs.cell .k7 rfl)) ?_); clear hf a; intro a hf
            refine s_do hf (wanted_of hf rfl rfl rfl) (.value (x_bin (hf.eval rfl) (hf.eval rfl) (r_gt _ _ _ _) _) ?_); clear hf a; intro a hf
            refine s_v hf (x_pick_f (hf.eval rfl) (hf.eval rfl)) ?_; clear hf a; intro a hf
            refine s_nil ?_
            refine then_n ?_
            refine c_cond hf rfl (fun hi2 => ?_) (fun hi2 => ?_)
            · first | simp only [decide_eq_true_eq, decide_eq_false_iff_not, Bool.not_eq_true', Bool.not_eq_false'] at hi2 | skip
              refine wp_seq ?_
              refine wp_region_lit ?_
              refine s_a hf rfl ?_; clear hf a; intro a hf
              refine s_a hf rfl ?_; clear hf a; intro a hf
              refine s_nil ?_
              refine then_n ?_
              refine wp_ret ?_
              refine then_r (blk_r (then_r (then_r (blk_r (then_r ?_)))))
              refine r_2 hf Tryd.results101 rfl rfl ?_
              have hw := wlk_none (wlk_bad hwk (show spN body i < 1 ∨ spA body i < en ∨ s.2.2.1 < ((spA body i + spN body i : Nat) : Int) by omega)) (N - (i + 1))
              rw [show i + 1 + (N - (i + 1)) = N by omega] at hw
              have hno : bkOk s body = false := by unfold bkOk; rw [hNt, hw]; simp
              rw [hno]
              exact ⟨.slice none 0 0, [], rfl, fun h => (by cases h), ((St.keep [] _ hs).emp (A := datR []) (fun _ => trivial)).emp (fun _ => ⟨rfl, .inl ⟨rfl, rfl⟩⟩)⟩
            · first | simp only [decide_eq_true_eq, decide_eq_false_iff_not, Bool.not_eq_true', Bool.not_eq_false'] at hi2 | skip
              have hnb : ¬ (spN body i < 1 ∨ spA body i < en ∨ s.2.2.1 < ((spA body i + spN body i : Nat) : Int)) := by omega
              refine wp_skip ?_
              refine then_n ?_
              refine wp_seq ?_
              refine wp_region_lit ?_
              refine s_m hf rfl ?_; clear hf a; intro a hf
              refine s_m hf rfl ?_; clear hf a; intro a hf
              refine s_v hf (x_bin (hf.eval rfl) (hf.eval rfl) (r_addi _ (by omega) (by omega))) ?_; clear hf a; intro a hf
              replace hf := hf.now (k := 58) (v' := .int .i64 ((spA body i + spN body i : Nat) : Int)) rfl (by congr 1)
              refine s_a hf rfl ?_; clear hf a; intro a hf
              refine s_nil ?_
              refine then_n ?_
              refine wp_region_lit ?_
              refine s_m hf rfl ?_; clear hf a; intro a hf
              refine s_m hf rfl ?_; clear hf a; intro a hf
              refine s_m hf rfl ?_; clear hf a; intro a hf
              refine s_m hf rfl ?_; clear hf a; intro a hf
              replace hs := hs.take (A := curA 119 5 q (body.drop (8 * N)) tat tb) (by first | exact .k0 | exact .k1 | exact .k2 | exact .k3 | exact .k4 | exact .k5 | exact .k6 | exact .k7 | exact .k8 | exact .k9 | exact .k10 | exact .k11)
              refine s_do hf rfl (y_call (hf.eval rfl) (hf.evals rfl) Tryd.call115 ((text_spec _ _ _ q (body.drop (8 * N)) tat tb ((spN body i : Nat) : Int) hs hx3 (by omega) (by omega)).mono ?_))
              rintro e w1 ⟨rfl, hs⟩
              obtain ⟨hy1, hy2, hy3⟩ := tx_step (rest := (body.drop (8 * N))) (tat := tat) (t := t) (n := spN body i) (tb := tb) hx1 hx2 hx3
              obtain ⟨TX, hTX⟩ : ∃ TX, TX = (((body.drop (8 * N)).drop tat).take (nextC (body.drop (8 * N)).length tat tb (spN body i : Nat)).2.2) := ⟨_, rfl⟩
              rw [← hTX] at hy1 ⊢
              have htl : TX.length ≤ body.length := by rw [hTX, List.length_take, List.length_drop, List.length_drop]; omega
              generalize (nextC (body.drop (8 * N)).length tat tb (spN body i : Nat)).1 = tat2 at hs hy1 hy2 hy3
              generalize (nextC (body.drop (8 * N)).length tat tb (spN body i : Nat)).2.1 = tb2 at hs hy1 hy2 hy3
              refine ⟨_, rfl, ?_⟩; clear hf a; intro a hf
              refine s_do hf rfl (y_strBytes (l := TX) hs Tryd.underlying9 Tryd.underlying25 Tryd.underlying5 (hf.eval rfl) ?_); clear hf hs a; intro v8 w hs hv a hf
              obtain ⟨a8, c8, hv8⟩ := hv
              replace hs := hs.take (A := datR ps) (by first | exact .k0 | exact .k1 | exact .k2 | exact .k3 | exact .k4 | exact .k5 | exact .k6 | exact .k7 | exact .k8 | exact .k9 | exact .k10 | exact .k11)
              replace hs := datR_push (p := ((spA body i, v8, TX) : Pt)) (hs.take .k1 |>.take .k1)
              refine s_r hf (x_build (v := .agg #[.int .i64 ((spA body i : Nat) : Int), v8]) (hf.parts rfl) (fun w => by rw [hv8]; kernel_rfl) _) ?_; clear hf a; intro a hf
              refine s_do hf rfl (y_lit (xs := [.tmp 65]) hs sl80 (hf.evals rfl) rfl (by simp [Value.cells]) (by decide) ?_); clear hf hs a; intro b7 w hs a hf
              refine s_do hf rfl (y_append (n := ps.length) (m := 1) (ys := [.int .i64 ((spA body i : Nat) : Int), v8]) hs sl80 (hf.eval rfl) (hf.eval rfl) (by first | exact .k0 | exact .k1 | exact .k2 | exact .k3 | exact .k4 | exact .k5 | exact .k6 | exact .k7) (hs.rd .k0 fun h hb => rd_rows hb rfl) (by rw [hv8]; simp [Value.oneCell']) (by omega) (by rw [maxLen_eq]; omega) ?_); clear hf hs a; intro v9 w hs hv a hf
              have hsq : (ps ++ [((spA body i, v8, TX) : Pt)]).length = ps.length + 1 := by simp
              have hsf : (ps ++ [((spA body i, v8, TX) : Pt)]).flatMap pcF = ps.flatMap pcF ++ [.int .i64 ((spA body i : Nat) : Int), v8] := by simp [pcF]
              rw [← hsq, ← hsf] at hs
              replace hs := hs.take (A := cb b2 24 (slF s)) (by first | exact .k0 | exact .k1 | exact .k2 | exact .k3 | exact .k4 | exact .k5 | exact .k6 | exact .k7 | exact .k8 | exact .k9 | exact .k10 | exact .k11)
              replace hs := hs.take (A := datR (ps ++ [((spA body i, v8, TX) : Pt)])) (by first | exact .k0 | exact .k1 | exact .k2 | exact .k3 | exact .k4 | exact .k5 | exact .k6 | exact .k7 | exact .k8 | exact .k9 | exact .k10 | exact .k11)
              replace hs := hs.take (A := sl 110 2 v9 (ps ++ [((spA body i, v8, TX) : Pt)]).length ((ps ++ [((spA body i, v8, TX) : Pt)]).flatMap pcF)) (by first | exact .k0 | exact .k1 | exact .k2 | exact .k3 | exact .k4 | exact .k5 | exact .k6 | exact .k7 | exact .k8 | exact .k9 | exact .k10 | exact .k11)
              replace hs := hs.take (A := curA 119 5 q (body.drop (8 * N)) tat2 tb2) (by first | exact .k0 | exact .k1 | exact .k2 | exact .k3 | exact .k4 | exact .k5 | exact .k6 | exact .k7 | exact .k8 | exact .k9 | exact .k10 | exact .k11)
              replace hs := hs.take (A := curA 119 5 p body (8 * (i + 1)) 0) (by first | exact .k0 | exact .k1 | exact .k2 | exact .k3 | exact .k4 | exact .k5 | exact .k6 | exact .k7 | exact .k8 | exact .k9 | exact .k10 | exact .k11)
              replace hs := St.keep [curA 119 5 p body (8 * (i + 1)) 0, curA 119 5 q (body.drop (8 * N)) tat2 tb2, sl 110 2 v9 (ps ++ [((spA body i, v8, TX) : Pt)]).length ((ps ++ [((spA body i, v8, TX) : Pt)]).flatMap pcF), datR (ps ++ [((spA body i, v8, TX) : Pt)]), cb b2 24 (slF s)] _ hs
              have hpm9 : tb2 = 0 → (ps ++ [((spA body i, v8, TX) : Pt)]).map pcOf = bkL s body (i + 1) := fun h => by
                obtain ⟨_, hz2, hz3⟩ := hy1 h
                rw [List.map_append, hpm hz3, bkL_succ, hNt]
                have htt : totB s.2.2.1 body i = t := by unfold totB; rw [hwk]
                rw [htt]
                show bkL s body i ++ [(spA body i, TX)] = _
                rw [hz2, List.drop_drop]
              refine s_a hf rfl ?_; clear hf a; intro a hf
              refine s_nil ?_
              refine blk_n ?_
              refine then_n ?_
              refine wp_region_lit ?_
              refine s_v hf (x_bin (hf.eval rfl) (hf.eval rfl) (r_addi _ (by omega) (by omega))) ?_; clear hf a; intro a hf
              refine s_m hf rfl ?_; clear hf a; intro a hf
              refine s_nil ?_
              exact ⟨_, _, ⟨i + 1, spA body i + spN body i, t + spN body i, tat2, tb2, _, (ps ++ [((spA body i, v8, TX) : Pt)]), rfl, rfl, by omega, wlk_good hwk hnb, fun h => (hy1 h).1, hy2, hy3, by simp [hpl], hpm9, hs⟩, by omega, hf.sub ⟨rfl, rfl, rfl, rfl, rfl, rfl, rfl, trivial⟩⟩
      · simp only [decide_eq_true_eq, decide_eq_false_iff_not, Bool.not_eq_true', Bool.not_eq_false', Bool.not_eq_true, Int.not_lt, Int.not_le] at hi1
        refine wp_exit ?_
        refine then_x ?_
        refine then_x ?_
        refine blk_x ?_
        refine then_n ?_
        refine wp_seq ?_
        refine wp_region_lit ?_
        refine s_m hf rfl ?_; clear hf a; intro a hf
        refine s_m hf rfl ?_; clear hf a; intro a hf
        obtain rfl : i = N := by omega
        have hyes : bkOk s body = decide (8 * i + t = body.length) := by unfold bkOk; rw [hNt, hwk, decide_eq_true hc1, decide_eq_true (show 8 * s.2.2.2.2.1 ≤ (body.length : Int) by omega)]; simp only [Bool.true_and]
        replace hs := hs.take (A := curA 119 5 q (body.drop (8 * i)) tat tb) (by first | exact .k0 | exact .k1 | exact .k2 | exact .k3 | exact .k4 | exact .k5 | exact .k6 | exact .k7 | exact .k8 | exact .k9 | exact .k10 | exact .k11)
        refine s_do hf rfl (y_call (hf.eval rfl) (hf.evals rfl) Tryd.call51 ((err_spec _ _ _ q (body.drop (8 * i)) tat tb hs hx3 (by omega)).mono ?_))
        rintro e w1 ⟨rfl, hs⟩
        refine ⟨_, rfl, ?_⟩; clear hf a; intro a hf
        refine s_v hf (x_bin (hf.eval rfl) (hf.eval rfl) (r_eq _ _ _ _)) ?_; clear hf a; intro a hf
        refine s_m hf rfl ?_; clear hf a; intro a hf
        refine s_bool hf (k := 73) rfl (fun hg15_4 hf' => ?_) (fun hg15_4 hf' => ?_)
        · clear hf
          have hf := hf'
          clear hf'
          first | simp only [decide_eq_true_eq, decide_eq_false_iff_not, Bool.not_eq_true', Bool.not_eq_false'] at hg15_4 | skip
          refine s_do hf (wanted_of hf rfl rfl rfl) (.value (x_move (hf.eval rfl) _) ?_); clear hf a; intro a hf
          refine s_do hf (wanted_of hf rfl rfl rfl) (y_call (hf.eval rfl) (hf.evals rfl) Tryd.call116 ((left_spec _ _ _ q (body.drop (8 * i)) tat tb hs hx3 (by omega)).mono ?_))
          rintro e w1 ⟨rfl, hs⟩
          refine ⟨_, rfl, ?_⟩; clear hf a; intro a hf
          refine s_do hf (wanted_of hf rfl rfl rfl) (.value (x_bin (hf.eval rfl) (hf.eval rfl) (r_eq _ _ _ _) _) ?_); clear hf a; intro a hf
          refine s_v hf (x_pick_t (hf.eval rfl) (hf.eval rfl)) ?_; clear hf a; intro a hf
          refine s_a hf rfl ?_; clear hf a; intro a hf
          refine s_a hf rfl ?_; clear hf a; intro a hf
          refine s_nil ?_
          refine then_n ?_
          refine wp_ret ?_
          refine r_2 hf Tryd.results101 rfl rfl ?_
          replace hs := hs.take (A := datR ps) (by first | exact .k0 | exact .k1 | exact .k2 | exact .k3 | exact .k4 | exact .k5 | exact .k6 | exact .k7 | exact .k8 | exact .k9 | exact .k10 | exact .k11)
          replace hs := hs.take (A := sl 110 2 v ps.length (ps.flatMap pcF)) (by first | exact .k0 | exact .k1 | exact .k2 | exact .k3 | exact .k4 | exact .k5 | exact .k6 | exact .k7 | exact .k8 | exact .k9 | exact .k10 | exact .k11)
          first | (have ht0 := hx1 hg15_4; have hq : bkOk s body = decide ((((body.drop (8 * i)).length : Int) - tat) = 0) := by rw [hyes]; exact decide_eq_decide.2 (by omega)) | (have hq : bkOk s body = false := by rw [hyes]; exact decide_eq_false (by have := hx2 hg15_4; omega))
          rw [hq]
          refine ⟨v, ps, rfl, fun h => ?_, St.keep [_, _] _ hs⟩
          first | (rw [hNt]; exact hpm hg15_4) | cases h
        · clear hf
          have hf := hf'
          clear hf'
          first | simp only [decide_eq_true_eq, decide_eq_false_iff_not, Bool.not_eq_true', Bool.not_eq_false'] at hg15_4 | skip
          refine s_pass hf rfl rfl ?_; clear hf a; intro a hf
          refine s_pass hf rfl rfl ?_; clear hf a; intro a hf
          refine s_pass hf rfl rfl ?_; clear hf a; intro a hf
          refine s_v hf (x_pick_f (hf.eval rfl) (hf.eval rfl)) ?_; clear hf a; intro a hf
          refine s_a hf rfl ?_; clear hf a; intro a hf
          refine s_a hf rfl ?_; clear hf a; intro a hf
          refine s_nil ?_
          refine then_n ?_
          refine wp_ret ?_
          refine r_2 hf Tryd.results101 rfl rfl ?_
          replace hs := hs.take (A := datR ps) (by first | exact .k0 | exact .k1 | exact .k2 | exact .k3 | exact .k4 | exact .k5 | exact .k6 | exact .k7 | exact .k8 | exact .k9 | exact .k10 | exact .k11)
          replace hs := hs.take (A := sl 110 2 v ps.length (ps.flatMap pcF)) (by first | exact .k0 | exact .k1 | exact .k2 | exact .k3 | exact .k4 | exact .k5 | exact .k6 | exact .k7 | exact .k8 | exact .k9 | exact .k10 | exact .k11)
          first | (have ht0 := hx1 hg15_4; have hq : bkOk s body = decide ((((body.drop (8 * i)).length : Int) - tat) = 0) := by rw [hyes]; exact decide_eq_decide.2 (by omega)) | (have hq : bkOk s body = false := by rw [hyes]; exact decide_eq_false (by have := hx2 hg15_4; omega))
          rw [hq]
          refine ⟨v, ps, rfl, fun h => ?_, St.keep [_, _] _ hs⟩
          first | (rw [hNt]; exact hpm hg15_4) | cases h
end Go.Proofs.YtehakfbfjpolfaaDoor
