/- The seal: EncodeSeal of both. -/
import Derived.Test.YtehakfbfjpolfaaDoorVU
import Derived.Test.YtehakfbfjpolfaaDoorHlp
import Derived.Test.YtehakfbfjpolfaaDoorSum
import Derived.Test.YtehakfbfjpolfaaDoorBuf
import Derived.Test.YtehakfbfjpolfaaDoorAp
import Derived.Test.YtehakfbfjpolfaaDoorProg
import Derived.Test.YtehakfbfjpolfaaDoorFacts
set_option maxRecDepth 100000
set_option linter.all false
namespace Go.Proofs.YtehakfbfjpolfaaDoor
open Go Vw
theorem iF_at {l : List Int} {i : Nat} (h : i < l.length) : (l.flatMap iF)[i]? = some (.int .i64 l[i]) := by
  have h1 := flatMap_get (f := iF) (sz := 1) (fun _ => rfl) l i 0 h (by decide)
  rw [Nat.mul_one, Nat.add_zero] at h1
  rw [h1]; rfl
theorem puts_len : ∀ (l : List Int) (d : List UInt8 × Int), (puts l d).1.length ≤ d.1.length + 4 * l.length
  | [], d => by show d.1.length ≤ _; omega
  | v :: l, d => by
    have h1 := puts_len l (numB d.1 512 d.2 v 4)
    have h2 := numB_len d.1 512 d.2 v 4
    show (puts l (numB d.1 512 d.2 v 4)).1.length ≤ _
    rw [List.length_cons]; omega
theorem hc_num (s : Sl) : numB (hdS s) 512 0 ((crcU 0 (hdS s) : Nat) : Int) 4 = (hcS s, 0) := by
  have h := crcU_lt (s := 0) (by decide) (hdS s)
  unfold numB
  rw [if_neg (by simp), if_neg (by omega), if_neg (by rw [hdS_len]; decide), Int.toNat_natCast]
  rfl
theorem sec_spl (s : Sl) : secS s = spl (List.replicate 512 (0 : UInt8)) 0 ((hcS s).take (min (hcS s).length 512)) := by
  have h1 : (hcS s).take (min (hcS s).length 512) = hcS s := List.take_of_length_le (by rw [hcS_len]; decide)
  unfold spl secS
  rw [h1, hcS_len, List.drop_replicate]
  rfl
theorem enc_no {s : Sl} (h : slOk s = false) : encE s = 1 ∧ encV s = [] := by unfold encE encV; rw [h]; exact ⟨rfl, rfl⟩
theorem enc_ok {s : Sl} (h : slOk s = true) : encE s = 0 ∧ encV s = secS s := by unfold encE encV; rw [h]; exact ⟨rfl, rfl⟩
theorem no_st {s : Sl} (h : ¬ (2 ≤ s.1 ∧ s.1 ≤ 4)) : slOk s = false := by
  cases e : slOk s with
  | false => rfl
  | true => exact absurd (slOk_st e) h
theorem hd_app (s : Sl) : ((((((MAG ++ leB 4 s.1.toNat) ++ leB 4 s.2.1.toNat) ++ leB 4 s.2.2.1.toNat) ++ leB 4 s.2.2.2.1.toNat) ++ leB 4 s.2.2.2.2.1.toNat) ++ leB 4 s.2.2.2.2.2.1.toNat) ++ leB 4 ((s.2.2.2.2.2.2 : Nat) : Int).toNat = hdS s := by
  simp [hdS, fb, fldL]
theorem slOk_in {s : Sl} (h : slOk s = true) : (0 ≤ s.2.1 ∧ s.2.1 ≤ 4294967295) ∧ (0 ≤ s.2.2.1 ∧ s.2.2.1 ≤ 4294967295) ∧ (0 ≤ s.2.2.2.1 ∧ s.2.2.2.1 ≤ 4294967295) ∧ (0 ≤ s.2.2.2.2.1 ∧ s.2.2.2.2.1 ≤ 4294967295) ∧ (0 ≤ s.2.2.2.2.2.1 ∧ s.2.2.2.2.2.1 ≤ 4294967295) := by
  unfold slOk inF at h
  simp only [Bool.and_eq_true, decide_eq_true_eq] at h
  exact ⟨h.1.1.1.1.2, h.1.1.1.2, h.1.1.2, h.1.2, h.2⟩

theorem encode_spec (w0 : World) (hT : Tab 0 (hp w0)) (s : Sl) (hsu : s.2.2.2.2.2.2 < 4294967296) : Calls Tryd.prog 10 #[.agg (slF s).toArray] w0 fun e w' => ∃ a c, e = .returned (.tuple #[.slice a (encV s).length c, .int .i64 (encE s)]) ∧ St ⟨w0, None_⟩ w' [slB 5 (.slice a (encV s).length c) (encV s)] := by
  have hs := St.start w0 None_
  refine c_enter (N := 59) Tryd.func10 rfl Tryd.ntmps10 (by simp) ?_
  intro a hf
  refine wp_seq ?_
  refine wp_region_lit ?_
  refine s_do hf rfl (y_box hs (hf.eval rfl) ?_); clear hf hs a; intro bx w hs a hf
  replace hs : St _ w (cb bx 24 (slF s) :: _) := hs
  refine s_a hf rfl ?_; clear hf a; intro a hf
  refine s_a hf rfl ?_; clear hf a; intro a hf
  refine s_nil ?_
  refine then_n ?_
  refine wp_seq ?_
  refine wp_seq ?_
  refine wp_region_lit ?_
  refine s_v hf (x_fieldAddr fo24_0 (hf.eval rfl)) ?_; clear hf a; intro a hf
  refine s_r hf (x_load sc3 (hf.eval rfl) (by first | exact hs.cell (.here _) rfl | exact hs.cell (.there _ (.here _)) rfl | exact hs.cell (.there _ (.there _ (.here _))) rfl | exact hs.cell (.there _ (.there _ (.there _ (.here _)))) rfl | exact hs.cell (.there _ (.there _ (.there _ (.there _ (.here _))))) rfl | exact hs.cell (.there _ (.there _ (.there _ (.there _ (.there _ (.here _)))))) rfl)) ?_; clear hf a; intro a hf
  refine s_v hf (x_bin (hf.eval rfl) (hf.eval rfl) (r_lt _ _ _ _)) ?_; clear hf a; intro a hf
  refine s_m hf rfl ?_; clear hf a; intro a hf
  refine s_bool hf (k := 11) rfl (fun hg1_3 hf' => ?_) (fun hg1_3 hf' => ?_)
  · clear hf
    have hf := hf'
    clear hf'
    first | simp only [decide_eq_true_eq, decide_eq_false_iff_not, Bool.not_eq_true', Bool.not_eq_false'] at hg1_3 | skip
    refine s_pass hf rfl rfl ?_; clear hf a; intro a hf
    refine s_pass hf rfl rfl ?_; clear hf a; intro a hf
    refine s_pass hf rfl rfl ?_; clear hf a; intro a hf
    refine s_v hf (x_pick_t (hf.eval rfl) (hf.eval rfl)) ?_; clear hf a; intro a hf
    refine s_nil ?_
    refine then_n ?_
    refine c_cond_t hf rfl rfl ?_
    refine wp_seq ?_
    refine wp_region_lit ?_
    refine s_a hf rfl ?_; clear hf a; intro a hf
    refine s_a hf rfl ?_; clear hf a; intro a hf
    refine s_nil ?_
    refine then_n ?_
    refine wp_ret ?_
    refine then_r ?_
    refine r_2 hf Tryd.results10 rfl rfl ?_
    obtain ⟨hE, hV⟩ := enc_no (no_st (s := s) (by omega))
    rw [hE, hV]
    exact ⟨none, 0, rfl, (St.keep [] _ hs).emp (slB_nil _)⟩
  · clear hf
    have hf := hf'
    clear hf'
    first | simp only [decide_eq_true_eq, decide_eq_false_iff_not, Bool.not_eq_true', Bool.not_eq_false'] at hg1_3 | skip
    refine s_do hf (wanted_of hf rfl rfl rfl) (.value (x_fieldAddr fo24_0 (hf.eval rfl) _) ?_); clear hf a; intro a hf
    refine s_do hf (wanted_of hf rfl rfl rfl) (.value (x_load sc3 (hf.eval rfl) (by first | exact hs.cell (.here _) rfl | exact hs.cell (.there _ (.here _)) rfl | exact hs.cell (.there _ (.there _ (.here _))) rfl | exact hs.cell (.there _ (.there _ (.there _ (.here _)))) rfl | exact hs.cell (.there _ (.there _ (.there _ (.there _ (.here _))))) rfl | exact hs.cell (.there _ (.there _ (.there _ (.there _ (.there _ (.here _)))))) rfl)) ?_); clear hf a; intro a hf
    refine s_do hf (wanted_of hf rfl rfl rfl) (.value (x_bin (hf.eval rfl) (hf.eval rfl) (r_gt _ _ _ _) _) ?_); clear hf a; intro a hf
    refine s_v hf (x_pick_f (hf.eval rfl) (hf.eval rfl)) ?_; clear hf a; intro a hf
    refine s_nil ?_
    refine then_n ?_
    refine c_cond hf rfl (fun hi0 => ?_) (fun hi0 => ?_)
    · first | simp only [decide_eq_true_eq, decide_eq_false_iff_not, Bool.not_eq_true', Bool.not_eq_false'] at hi0 | skip
      refine wp_seq ?_
      refine wp_region_lit ?_
      refine s_a hf rfl ?_; clear hf a; intro a hf
      refine s_a hf rfl ?_; clear hf a; intro a hf
      refine s_nil ?_
      refine then_n ?_
      refine wp_ret ?_
      refine then_r ?_
      refine r_2 hf Tryd.results10 rfl rfl ?_
      obtain ⟨hE, hV⟩ := enc_no (no_st (s := s) (by omega))
      rw [hE, hV]
      exact ⟨none, 0, rfl, (St.keep [] _ hs).emp (slB_nil _)⟩
    · first | simp only [decide_eq_true_eq, decide_eq_false_iff_not, Bool.not_eq_true', Bool.not_eq_false'] at hi0 | skip
      refine wp_skip ?_
      refine then_n ?_
      refine wp_seq ?_
      refine wp_region_lit ?_
      refine s_do hf rfl (y_call (hf.eval rfl) (hf.evals rfl) Tryd.call38 ((newBuf_spec _ 512).mono ?_))
      rintro e w1 ⟨p, rfl, hj⟩
      replace hs := hs.join hj
      simp only [List.cons_append, List.nil_append] at hs
      rw [if_neg (show ¬ ((512 : Int) < 0) by decide)] at hs
      refine ⟨_, rfl, ?_⟩; clear hf a; intro a hf
      refine s_a hf rfl ?_; clear hf a; intro a hf
      refine s_nil ?_
      refine then_n ?_
      refine wp_seq ?_
      refine wp_region_lit ?_
      refine s_m hf rfl ?_; clear hf a; intro a hf
      replace hs := hs.take (A := bufA 115 5 p [] 512 0) (by first | exact .here _ | exact .there _ (.here _) | exact .there _ (.there _ (.here _)) | exact .there _ (.there _ (.there _ (.here _))) | exact .there _ (.there _ (.there _ (.there _ (.here _)))) | exact .there _ (.there _ (.there _ (.there _ (.there _ (.here _))))) | exact .there _ (.there _ (.there _ (.there _ (.there _ (.there _ (.here _)))))) | exact .there _ (.there _ (.there _ (.there _ (.there _ (.there _ (.there _ (.here _))))))) | exact .there _ (.there _ (.there _ (.there _ (.there _ (.there _ (.there _ (.there _ (.here _)))))))) | exact .there _ (.there _ (.there _ (.there _ (.there _ (.there _ (.there _ (.there _ (.there _ (.here _))))))))) | exact .there _ (.there _ (.there _ (.there _ (.there _ (.there _ (.there _ (.there _ (.there _ (.there _ (.here _)))))))))) | exact .there _ (.there _ (.there _ (.there _ (.there _ (.there _ (.there _ (.there _ (.there _ (.there _ (.there _ (.here _))))))))))))
      refine s_do hf rfl (y_call (hf.eval rfl) (hf.evals rfl) Tryd.call39 ((bText_spec _ _ _ p [] 512 0 hs (fun _ => by decide) (by decide) (by simp) MAG (by decide)).mono ?_))
      rintro e w1 ⟨rfl, hs⟩
      rw [show txtB [] 512 0 MAG = (MAG, 0) by unfold txtB; rw [if_neg (by simp), if_neg (by decide)]; rfl] at hs
      refine ⟨_, rfl, ?_⟩; clear hf a; intro a hf
      refine s_nil ?_
      refine then_n ?_
      refine wp_seq ?_
      refine wp_seq ?_
      refine wp_region_lit ?_
      refine s_v hf (x_fieldAddr fo24_0 (hf.eval rfl)) ?_; clear hf a; intro a hf
      refine s_r hf (x_load sc3 (hf.eval rfl) (by first | exact hs.cell (.here _) rfl | exact hs.cell (.there _ (.here _)) rfl | exact hs.cell (.there _ (.there _ (.here _))) rfl | exact hs.cell (.there _ (.there _ (.there _ (.here _)))) rfl | exact hs.cell (.there _ (.there _ (.there _ (.there _ (.here _))))) rfl | exact hs.cell (.there _ (.there _ (.there _ (.there _ (.there _ (.here _)))))) rfl)) ?_; clear hf a; intro a hf
      refine s_v hf (x_fieldAddr fo24_1 (hf.eval rfl)) ?_; clear hf a; intro a hf
      refine s_r hf (x_load sc3 (hf.eval rfl) (by first | exact hs.cell (.here _) rfl | exact hs.cell (.there _ (.here _)) rfl | exact hs.cell (.there _ (.there _ (.here _))) rfl | exact hs.cell (.there _ (.there _ (.there _ (.here _)))) rfl | exact hs.cell (.there _ (.there _ (.there _ (.there _ (.here _))))) rfl | exact hs.cell (.there _ (.there _ (.there _ (.there _ (.there _ (.here _)))))) rfl)) ?_; clear hf a; intro a hf
      refine s_v hf (x_fieldAddr fo24_2 (hf.eval rfl)) ?_; clear hf a; intro a hf
      refine s_r hf (x_load sc3 (hf.eval rfl) (by first | exact hs.cell (.here _) rfl | exact hs.cell (.there _ (.here _)) rfl | exact hs.cell (.there _ (.there _ (.here _))) rfl | exact hs.cell (.there _ (.there _ (.there _ (.here _)))) rfl | exact hs.cell (.there _ (.there _ (.there _ (.there _ (.here _))))) rfl | exact hs.cell (.there _ (.there _ (.there _ (.there _ (.there _ (.here _)))))) rfl)) ?_; clear hf a; intro a hf
      refine s_v hf (x_fieldAddr fo24_3 (hf.eval rfl)) ?_; clear hf a; intro a hf
      refine s_r hf (x_load sc3 (hf.eval rfl) (by first | exact hs.cell (.here _) rfl | exact hs.cell (.there _ (.here _)) rfl | exact hs.cell (.there _ (.there _ (.here _))) rfl | exact hs.cell (.there _ (.there _ (.there _ (.here _)))) rfl | exact hs.cell (.there _ (.there _ (.there _ (.there _ (.here _))))) rfl | exact hs.cell (.there _ (.there _ (.there _ (.there _ (.there _ (.here _)))))) rfl)) ?_; clear hf a; intro a hf
      refine s_v hf (x_fieldAddr fo24_4 (hf.eval rfl)) ?_; clear hf a; intro a hf
      refine s_r hf (x_load sc3 (hf.eval rfl) (by first | exact hs.cell (.here _) rfl | exact hs.cell (.there _ (.here _)) rfl | exact hs.cell (.there _ (.there _ (.here _))) rfl | exact hs.cell (.there _ (.there _ (.there _ (.here _)))) rfl | exact hs.cell (.there _ (.there _ (.there _ (.there _ (.here _))))) rfl | exact hs.cell (.there _ (.there _ (.there _ (.there _ (.there _ (.here _)))))) rfl)) ?_; clear hf a; intro a hf
      refine s_v hf (x_fieldAddr fo24_5 (hf.eval rfl)) ?_; clear hf a; intro a hf
      refine s_r hf (x_load sc3 (hf.eval rfl) (by first | exact hs.cell (.here _) rfl | exact hs.cell (.there _ (.here _)) rfl | exact hs.cell (.there _ (.there _ (.here _))) rfl | exact hs.cell (.there _ (.there _ (.there _ (.here _)))) rfl | exact hs.cell (.there _ (.there _ (.there _ (.there _ (.here _))))) rfl | exact hs.cell (.there _ (.there _ (.there _ (.there _ (.there _ (.here _)))))) rfl)) ?_; clear hf a; intro a hf
      refine s_v hf (x_fieldAddr fo24_6 (hf.eval rfl)) ?_; clear hf a; intro a hf
      refine s_r hf (x_load sc22 (hf.eval rfl) (by first | exact hs.cell (.here _) rfl | exact hs.cell (.there _ (.here _)) rfl | exact hs.cell (.there _ (.there _ (.here _))) rfl | exact hs.cell (.there _ (.there _ (.there _ (.here _)))) rfl | exact hs.cell (.there _ (.there _ (.there _ (.there _ (.here _))))) rfl | exact hs.cell (.there _ (.there _ (.there _ (.there _ (.there _ (.here _)))))) rfl)) ?_; clear hf a; intro a hf
      refine s_v hf (x_conv Tryd.underlying22 Tryd.underlying3 (hf.eval rfl)) ?_; clear hf a; intro a hf
      replace hf := hf.now (k := 33) (v' := .int .i64 ((s.2.2.2.2.2.2 : Nat) : Int)) rfl (by rw [wrap_i64 (by omega) (by omega)])
      refine s_do hf rfl (y_lit (xs := [.tmp 20, .tmp 22, .tmp 24, .tmp 26, .tmp 28, .tmp 30, .tmp 33]) hs sl67 (hf.evals rfl) rfl (by simp [Value.cells]) (by decide) ?_); clear hf hs a; intro b9 w hs a hf
      replace hs := hs.ofCb (sz := 1) (n := 7) rfl (by rw [maxLen_eq]; omega)
      replace hs : St _ _ (sl 3 1 (.slice (some ⟨b9, 0, none⟩) 7 7) 7 ((fldL s).flatMap iF) :: _) := hs
      replace hs := hs.take (A := bufA 115 5 p MAG 512 0) (by first | exact .here _ | exact .there _ (.here _) | exact .there _ (.there _ (.here _)) | exact .there _ (.there _ (.there _ (.here _))) | exact .there _ (.there _ (.there _ (.there _ (.here _)))) | exact .there _ (.there _ (.there _ (.there _ (.there _ (.here _))))) | exact .there _ (.there _ (.there _ (.there _ (.there _ (.there _ (.here _)))))) | exact .there _ (.there _ (.there _ (.there _ (.there _ (.there _ (.there _ (.here _))))))) | exact .there _ (.there _ (.there _ (.there _ (.there _ (.there _ (.there _ (.there _ (.here _)))))))) | exact .there _ (.there _ (.there _ (.there _ (.there _ (.there _ (.there _ (.there _ (.there _ (.here _))))))))) | exact .there _ (.there _ (.there _ (.there _ (.there _ (.there _ (.there _ (.there _ (.there _ (.there _ (.here _)))))))))) | exact .there _ (.there _ (.there _ (.there _ (.there _ (.there _ (.there _ (.there _ (.there _ (.there _ (.there _ (.here _))))))))))))
      refine s_v hf (x_len Tryd.underlying67 (hf.eval rfl)) ?_; clear hf a; intro a hf
      refine s_m hf rfl ?_; clear hf a; intro a hf
      refine s_nil ?_
      refine then_n ?_
      refine wp_block ?_
      refine c_loop (L0 := [(2, _), (3, _), (4, _), (34, _), (35, _)]) (fun M w m => ∃ i : Nat, M = [(36, .int .i64 (i : Int))] ∧ 7 - i = m ∧ i ≤ 7 ∧ St ⟨w0, None_⟩ w [bufA 115 5 p (puts ((fldL s).take i) (MAG, 0)).1 512 (puts ((fldL s).take i) (MAG, 0)).2, sl 3 1 (.slice (some ⟨b9, 0, none⟩) 7 7) 7 ((fldL s).flatMap iF), cb bx 24 (slF s)]) (M0 := _) (⟨0, rfl, rfl, Nat.zero_le _, hs⟩) (hf.sub ⟨rfl, rfl, rfl, rfl, rfl, rfl, trivial⟩) ?_
      clear hf hs a
      rintro M m a w ⟨i, rfl, rfl, hi, hs⟩ hf
      refine wp_seq ?_
      refine wp_region_lit ?_
      refine s_v hf (x_bin (hf.eval rfl) (hf.eval rfl) (r_lt _ _ _ _)) ?_; clear hf a; intro a hf
      refine s_nil ?_
      refine then_n ?_
      refine wp_seq ?_
      refine c_cond hf rfl (fun hi1 => ?_) (fun hi1 => ?_)
      · simp only [decide_eq_true_eq, decide_eq_false_iff_not, Bool.not_eq_true', Bool.not_eq_false', Bool.not_eq_true, Int.not_lt, Int.not_le] at hi1
        have hlt : i < (fldL s).length := by show i < 7; omega
        have hpl := puts_len ((fldL s).take i) (MAG, 0)
        rw [List.length_take] at hpl
        have hmg : MAG.length = 8 := rfl
        have hps := puts_succ hlt (MAG, 0)
        generalize (puts ((fldL s).take i) (MAG, 0)) = D at hs hpl hps
        refine wp_skip ?_
        refine then_n ?_
        refine wp_seq ?_
        refine wp_block ?_
        refine wp_seq ?_
        refine wp_region_lit ?_
        refine s_v hf (x_indexAddr sl67 (hf.eval rfl) (hf.eval rfl) (by omega) (by omega)) ?_; clear hf a; intro a hf
        refine s_r hf (x_loadC (i := (i : Int)) hs sc3 (.there _ (.here _)) (hf.eval rfl) (by rw [Int.toNat_natCast]; exact iF_at hlt)) ?_; clear hf a; intro a hf
        replace hf := hf.now (k := 39) (v' := .int .i64 (fldL s)[i]) rfl (rfl)
        refine s_a hf rfl ?_; clear hf a; intro a hf
        refine s_nil ?_
        refine then_n ?_
        refine wp_region_lit ?_
        refine s_m hf rfl ?_; clear hf a; intro a hf
        refine s_m hf rfl ?_; clear hf a; intro a hf
        refine s_do hf rfl (y_call (hf.eval rfl) (hf.evals rfl) Tryd.call40 ((bU32_spec _ _ _ p D.1 512 D.2 hs (fun _ => by decide) (by decide) (by simp only [] at hpl; omega) (fldL s)[i]).mono ?_))
        rintro e w1 ⟨rfl, hs⟩
        rw [← hps] at hs
        refine ⟨_, rfl, ?_⟩; clear hf a; intro a hf
        refine s_nil ?_
        refine blk_n ?_
        refine then_n ?_
        refine wp_region_lit ?_
        refine s_v hf (x_bin (hf.eval rfl) (hf.eval rfl) (r_addi _ (by omega) (by omega))) ?_; clear hf a; intro a hf
        refine s_m hf rfl ?_; clear hf a; intro a hf
        refine s_nil ?_
        exact ⟨_, _, ⟨i + 1, rfl, rfl, by omega, hs⟩, by omega, hf.sub ⟨rfl, rfl, rfl, rfl, rfl, rfl, trivial⟩⟩
      · simp only [decide_eq_true_eq, decide_eq_false_iff_not, Bool.not_eq_true', Bool.not_eq_false', Bool.not_eq_true, Int.not_lt, Int.not_le] at hi1
        obtain rfl : i = 7 := by omega
        rw [show (fldL s).take 7 = fldL s from rfl] at hs
        have hdl := puts_len (fldL s) (MAG, 0)
        have hfl : (fldL s).length = 7 := rfl
        have hmg : MAG.length = 8 := rfl
        obtain ⟨d, b, hdb⟩ : ∃ d b, puts (fldL s) (MAG, 0) = (d, b) := ⟨_, _, rfl⟩
        rw [hdb] at hs hdl
        simp only [] at hs hdl
        refine wp_exit ?_
        refine then_x ?_
        refine then_x ?_
        refine blk_x ?_
        refine then_n ?_
        refine wp_seq ?_
        refine wp_seq ?_
        refine wp_region_lit ?_
        refine s_m hf rfl ?_; clear hf a; intro a hf
        refine s_do hf rfl (y_call (hf.eval rfl) (hf.evals rfl) Tryd.call41 ((bErr_spec _ _ _ p d 512 b hs (fun _ => by decide) (by decide) (by omega)).mono ?_))
        rintro e w1 ⟨rfl, hs⟩
        refine ⟨_, rfl, ?_⟩; clear hf a; intro a hf
        refine s_v hf (x_bin (hf.eval rfl) (hf.eval rfl) (r_ne _ _ _ _)) ?_; clear hf a; intro a hf
        refine s_nil ?_
        refine then_n ?_
        refine c_cond hf rfl (fun hi2 => ?_) (fun hi2 => ?_)
        · first | simp only [decide_eq_true_eq, decide_eq_false_iff_not, Bool.not_eq_true', Bool.not_eq_false', ne_eq, Classical.not_not] at hi2 | skip
          refine wp_seq ?_
          refine wp_region_lit ?_
          refine s_a hf rfl ?_; clear hf a; intro a hf
          refine s_a hf rfl ?_; clear hf a; intro a hf
          refine s_nil ?_
          refine then_n ?_
          refine wp_ret ?_
          refine then_r ?_
          refine r_2 hf Tryd.results10 rfl rfl ?_
          obtain ⟨hE, hV⟩ := enc_no (by cases e9 : slOk s with | false => rfl | true => exact absurd (congrArg Prod.snd (hdb.symm.trans (puts_ok (fldL s) MAG ((slOk_flds hsu (by omega) (by omega)).1 e9) (by show 8 + 4 * 7 ≤ 512; omega)))) hi2)
          rw [hE, hV]
          exact ⟨none, 0, rfl, (St.keep [] _ hs).emp (slB_nil _)⟩
        · first | simp only [decide_eq_true_eq, decide_eq_false_iff_not, Bool.not_eq_true', Bool.not_eq_false', ne_eq, Classical.not_not] at hi2 | skip
          obtain rfl : b = 0 := by omega
          have hall := puts_good (fldL s) MAG (by show 8 + 4 * 7 ≤ 512; omega) (by rw [hdb])
          have hok : slOk s = true := (slOk_flds hsu (by omega) (by omega)).2 hall
          have hd9 := puts_ok (fldL s) MAG hall (by show 8 + 4 * 7 ≤ 512; omega)
          rw [hdb] at hd9
          obtain rfl : d = hdS s := congrArg Prod.fst hd9
          obtain ⟨hE, hV⟩ := enc_ok hok
          have hhl := hdS_len s
          have hcl := hcS_len s
          refine wp_skip ?_
          refine then_n ?_
          refine wp_seq ?_
          refine wp_region_lit ?_
          refine s_m hf rfl ?_; clear hf a; intro a hf
          refine s_m hf rfl ?_; clear hf a; intro a hf
          replace hs := hs.take (A := bufA 115 5 p (hdS s) 512 0) (by first | exact .here _ | exact .there _ (.here _) | exact .there _ (.there _ (.here _)) | exact .there _ (.there _ (.there _ (.here _))) | exact .there _ (.there _ (.there _ (.there _ (.here _)))) | exact .there _ (.there _ (.there _ (.there _ (.there _ (.here _))))) | exact .there _ (.there _ (.there _ (.there _ (.there _ (.there _ (.here _)))))) | exact .there _ (.there _ (.there _ (.there _ (.there _ (.there _ (.there _ (.here _))))))) | exact .there _ (.there _ (.there _ (.there _ (.there _ (.there _ (.there _ (.there _ (.here _)))))))) | exact .there _ (.there _ (.there _ (.there _ (.there _ (.there _ (.there _ (.there _ (.there _ (.here _))))))))) | exact .there _ (.there _ (.there _ (.there _ (.there _ (.there _ (.there _ (.there _ (.there _ (.there _ (.here _)))))))))) | exact .there _ (.there _ (.there _ (.there _ (.there _ (.there _ (.there _ (.there _ (.there _ (.there _ (.there _ (.here _))))))))))))
          refine s_do hf rfl (y_call (hf.eval rfl) (hf.evals rfl) Tryd.call43 ((bTake_spec _ _ _ p (hdS s) 512 0 hs (fun _ => by decide) (by decide) (by omega)).mono ?_))
          rintro e w1 ⟨g1, fg1, rfl, hs⟩
          rw [show takeB (hdS s) 0 = hdS s by unfold takeB; rw [if_neg (by simp)]] at hs ⊢
          refine ⟨_, rfl, ?_⟩; clear hf a; intro a hf
          refine s_do hf rfl (y_call (hf.eval rfl) (hf.evals rfl) Tryd.call42 ((sum_spec _ (hT.kept hs.kept) _ _ (hdS s) (hs.rdB (.here _) fun h => slB_rd) (by omega)).mono ?_))
          rintro e w1 ⟨rfl, hk⟩
          replace hs := hs.ext hk
          refine ⟨_, rfl, ?_⟩; clear hf a; intro a hf
          have hcr := crcU_lt (s := 0) (by decide) (hdS s)
          refine s_v hf (x_conv Tryd.underlying22 Tryd.underlying3 (hf.eval rfl)) ?_; clear hf a; intro a hf
          replace hf := hf.now (k := 51) (v' := .int .i64 ((crcU 0 (hdS s) : Nat) : Int)) rfl (by rw [wrap_i64 (by omega) (by omega)])
          replace hs := hs.take (A := bufA 115 5 p (hdS s) 512 0) (by first | exact .here _ | exact .there _ (.here _) | exact .there _ (.there _ (.here _)) | exact .there _ (.there _ (.there _ (.here _))) | exact .there _ (.there _ (.there _ (.there _ (.here _)))) | exact .there _ (.there _ (.there _ (.there _ (.there _ (.here _))))) | exact .there _ (.there _ (.there _ (.there _ (.there _ (.there _ (.here _)))))) | exact .there _ (.there _ (.there _ (.there _ (.there _ (.there _ (.there _ (.here _))))))) | exact .there _ (.there _ (.there _ (.there _ (.there _ (.there _ (.there _ (.there _ (.here _)))))))) | exact .there _ (.there _ (.there _ (.there _ (.there _ (.there _ (.there _ (.there _ (.there _ (.here _))))))))) | exact .there _ (.there _ (.there _ (.there _ (.there _ (.there _ (.there _ (.there _ (.there _ (.there _ (.here _)))))))))) | exact .there _ (.there _ (.there _ (.there _ (.there _ (.there _ (.there _ (.there _ (.there _ (.there _ (.there _ (.here _))))))))))))
          refine s_do hf rfl (y_call (hf.eval rfl) (hf.evals rfl) Tryd.call40 ((bU32_spec _ _ _ p (hdS s) 512 0 hs (fun _ => by decide) (by decide) (by omega) ((crcU 0 (hdS s) : Nat) : Int)).mono ?_))
          rintro e w1 ⟨rfl, hs⟩
          rw [hc_num] at hs
          simp only [] at hs
          refine ⟨_, rfl, ?_⟩; clear hf a; intro a hf
          refine s_nil ?_
          refine then_n ?_
          refine wp_seq ?_
          refine wp_region_lit ?_
          refine s_do hf rfl (y_makeB (m := 512) (c := 512) hs sl25 (hf.eval rfl) (hf.eval rfl) rfl rfl (by omega) (by omega) ?_); clear hf hs a; intro b w hs a hf
          refine s_a hf rfl ?_; clear hf a; intro a hf
          refine s_nil ?_
          refine then_n ?_
          refine wp_seq ?_
          refine wp_region_lit ?_
          refine s_m hf rfl ?_; clear hf a; intro a hf
          refine s_m hf rfl ?_; clear hf a; intro a hf
          replace hs := hs.take (A := bufA 115 5 p (hcS s) 512 0) (by first | exact .here _ | exact .there _ (.here _) | exact .there _ (.there _ (.here _)) | exact .there _ (.there _ (.there _ (.here _))) | exact .there _ (.there _ (.there _ (.there _ (.here _)))) | exact .there _ (.there _ (.there _ (.there _ (.there _ (.here _))))) | exact .there _ (.there _ (.there _ (.there _ (.there _ (.there _ (.here _)))))) | exact .there _ (.there _ (.there _ (.there _ (.there _ (.there _ (.there _ (.here _))))))) | exact .there _ (.there _ (.there _ (.there _ (.there _ (.there _ (.there _ (.there _ (.here _)))))))) | exact .there _ (.there _ (.there _ (.there _ (.there _ (.there _ (.there _ (.there _ (.there _ (.here _))))))))) | exact .there _ (.there _ (.there _ (.there _ (.there _ (.there _ (.there _ (.there _ (.there _ (.there _ (.here _)))))))))) | exact .there _ (.there _ (.there _ (.there _ (.there _ (.there _ (.there _ (.there _ (.there _ (.there _ (.there _ (.here _))))))))))))
          refine s_do hf rfl (y_call (hf.eval rfl) (hf.evals rfl) Tryd.call43 ((bTake_spec _ _ _ p (hcS s) 512 0 hs (fun _ => by decide) (by decide) (by omega)).mono ?_))
          rintro e w1 ⟨g2, fg2, rfl, hs⟩
          rw [show takeB (hcS s) 0 = hcS s by unfold takeB; rw [if_neg (by simp)]] at hs ⊢
          refine ⟨_, rfl, ?_⟩; clear hf a; intro a hf
          refine s_do hf rfl (y_copyB (o := 0) (cur' := secS s) hs sl25 (hf.eval rfl) (hf.eval rfl) (fun _ => rfl) (hs.rdB (.here _) fun h => slB_rd) rfl (.there _ (.there _ (.here _))) (sec_spl s) (by simp) ?_); clear hf hs a; intro w hs a hf
          refine s_nil ?_
          refine then_n ?_
          refine wp_seq ?_
          refine wp_region_lit ?_
          refine s_m hf rfl ?_; clear hf a; intro a hf
          refine s_a hf rfl ?_; clear hf a; intro a hf
          refine s_a hf rfl ?_; clear hf a; intro a hf
          refine s_nil ?_
          refine then_n ?_
          refine wp_ret ?_
          refine r_2 hf Tryd.results10 rfl rfl ?_
          rw [hE, hV]
          replace hs := hs.take (A := bb b 5 (secS s)) (by first | exact .here _ | exact .there _ (.here _) | exact .there _ (.there _ (.here _)) | exact .there _ (.there _ (.there _ (.here _))) | exact .there _ (.there _ (.there _ (.there _ (.here _)))) | exact .there _ (.there _ (.there _ (.there _ (.there _ (.here _))))) | exact .there _ (.there _ (.there _ (.there _ (.there _ (.there _ (.here _)))))) | exact .there _ (.there _ (.there _ (.there _ (.there _ (.there _ (.there _ (.here _))))))) | exact .there _ (.there _ (.there _ (.there _ (.there _ (.there _ (.there _ (.there _ (.here _)))))))) | exact .there _ (.there _ (.there _ (.there _ (.there _ (.there _ (.there _ (.there _ (.there _ (.here _))))))))) | exact .there _ (.there _ (.there _ (.there _ (.there _ (.there _ (.there _ (.there _ (.there _ (.there _ (.here _)))))))))) | exact .there _ (.there _ (.there _ (.there _ (.there _ (.there _ (.there _ (.there _ (.there _ (.there _ (.there _ (.here _))))))))))))
          rw [secS_len]
          exact ⟨_, _, rfl, St.keep [_] _ (St.ofBb hs (secS_len s) (by decide))⟩

theorem inField_spec (w : World) (v : Int) : Calls Tryd.prog 44 #[.int .i64 v] w fun e w' => e = .returned (.bool (inF v)) ∧ w' = w := by
  refine c_enter (N := 9) Tryd.func44 rfl Tryd.ntmps44 (by simp) ?_
  intro a hf
  refine wp_seq ?_
  refine wp_region_lit ?_
  refine s_a hf rfl ?_; clear hf a; intro a hf
  refine s_nil ?_
  refine then_n ?_
  refine wp_seq ?_
  refine wp_region_lit ?_
  refine s_m hf rfl ?_; clear hf a; intro a hf
  refine s_v hf (x_bin (hf.eval rfl) (hf.eval rfl) (r_ge _ _ _ _)) ?_; clear hf a; intro a hf
  refine s_m hf rfl ?_; clear hf a; intro a hf
  refine s_bool hf (k := 5) rfl (fun hg1_2 hf' => ?_) (fun hg1_2 hf' => ?_)
  · clear hf
    have hf := hf'
    clear hf'
    simp only [decide_eq_true_eq, decide_eq_false_iff_not, Bool.not_eq_true', Bool.not_eq_false', Bool.not_eq_true, Int.not_lt, Int.not_le] at hg1_2
    refine s_do hf (wanted_of hf rfl rfl rfl) (.value (x_move (hf.eval rfl) _) ?_); clear hf a; intro a hf
    refine s_do hf (wanted_of hf rfl rfl rfl) (.value (x_bin (hf.eval rfl) (hf.eval rfl) (r_le _ _ _ _) _) ?_); clear hf a; intro a hf
    refine s_v hf (x_pick_t (hf.eval rfl) (hf.eval rfl)) ?_; clear hf a; intro a hf
    refine s_a hf rfl ?_; clear hf a; intro a hf
    refine s_nil ?_
    refine then_n ?_
    refine wp_ret ?_
    refine r_1 hf Tryd.results44 rfl ?_
    exact ⟨by unfold inF; congr 2; simp; omega, rfl⟩
  · clear hf
    have hf := hf'
    clear hf'
    simp only [decide_eq_true_eq, decide_eq_false_iff_not, Bool.not_eq_true', Bool.not_eq_false', Bool.not_eq_true, Int.not_lt, Int.not_le] at hg1_2
    refine s_pass hf rfl rfl ?_; clear hf a; intro a hf
    refine s_pass hf rfl rfl ?_; clear hf a; intro a hf
    refine s_v hf (x_pick_f (hf.eval rfl) (hf.eval rfl)) ?_; clear hf a; intro a hf
    refine s_a hf rfl ?_; clear hf a; intro a hf
    refine s_nil ?_
    refine then_n ?_
    refine wp_ret ?_
    refine r_1 hf Tryd.results44 rfl ?_
    exact ⟨by unfold inF; congr 2; simp; omega, rfl⟩

theorem rnum_spec (σ : Sig) (w : World) (R : List Asrt) (ax : Option Addr) (cx : Nat) (l : List UInt8) (v : Int) (hv0 : 0 ≤ v) (hv1 : v ≤ 9223372036854775807) (hl : l.length ≤ 1048576) (hs : St σ w (slB 5 (.slice ax l.length cx) l :: R)) : Calls Tryd.prog 45 #[.slice ax l.length cx, .int .i64 v] w fun e w' => ∃ a2 c2, e = .returned (.slice a2 (l ++ leB 4 v.toNat).length c2) ∧ St σ w' (slB 5 (.slice a2 (l ++ leB 4 v.toNat).length c2) (l ++ leB 4 v.toNat) :: R) := by
  obtain ⟨V, rfl⟩ := Int.eq_ofNat_of_zero_le hv0
  rw [Int.toNat_natCast]
  refine c_enter (N := 19) Tryd.func45 rfl Tryd.ntmps45 (by simp) ?_
  intro a hf
  refine wp_seq ?_
  refine wp_region_lit ?_
  refine s_a hf rfl ?_; clear hf a; intro a hf
  refine s_nil ?_
  refine then_n ?_
  refine wp_seq ?_
  refine wp_seq ?_
  refine wp_region_lit ?_
  refine s_a hf rfl ?_; clear hf a; intro a hf
  refine s_nil ?_
  refine then_n ?_
  refine wp_block ?_
  refine c_loop (L0 := [(4, _)]) (fun M w m => ∃ (j : Nat) (v0 : Value), M = [(0, v0), (1, .int .i64 ((V / 256 ^ j : Nat) : Int)), (5, .int .i64 (j : Int))] ∧ 4 - j = m ∧ j ≤ 4 ∧ St σ w (slB 5 v0 (l ++ leB j V) :: R)) (M0 := [(0, .slice ax l.length cx), (1, .int .i64 (V : Int)), (5, .int .i64 0)]) (⟨0, _, by rw [Nat.pow_zero, Nat.div_one]; rfl, rfl, Nat.zero_le _, by simpa [leB] using hs⟩) (hf.sub ⟨rfl, rfl, rfl, rfl, trivial⟩) ?_
  clear hf hs a
  rintro M m a w ⟨j, v0, rfl, rfl, hj, hs⟩ hf
  refine wp_seq ?_
  refine wp_seq ?_
  refine wp_region_lit ?_
  refine s_m hf rfl ?_; clear hf a; intro a hf
  refine s_v hf (x_bin (hf.eval rfl) (hf.eval rfl) (r_lt _ _ _ _)) ?_; clear hf a; intro a hf
  refine s_nil ?_
  refine then_n ?_
  refine c_cond hf rfl (fun hi0 => ?_) (fun hi0 => ?_)
  · simp only [decide_eq_true_eq, decide_eq_false_iff_not, Bool.not_eq_true', Bool.not_eq_false', Bool.not_eq_true, Int.not_lt, Int.not_le] at hi0
    have hVj : V / 256 ^ j ≤ V := Nat.div_le_self _ _
    have hv1 : V ≤ 9223372036854775807 := by omega
    refine wp_skip ?_
    refine then_n ?_
    refine wp_seq ?_
    refine wp_block ?_
    refine wp_seq ?_
    refine wp_region_lit ?_
    refine s_m hf rfl ?_; clear hf a; intro a hf
    refine s_m hf rfl ?_; clear hf a; intro a hf
    refine s_v hf (x_bin (hf.eval rfl) (hf.eval rfl) (r_remn _ _ (Int.natCast_nonneg _) (by decide))) ?_; clear hf a; intro a hf
    replace hf := hf.now (k := 12) (v' := .int .i64 ((V / 256 ^ j % 256 : Nat) : Int)) rfl (by congr 1)
    refine s_v hf (x_convr Tryd.underlying3 Tryd.underlying5 (hf.eval rfl) (by rw [u8_of .i64 rfl, Nat.mod_mod] : IntKind.u8.wrap ((V / 256 ^ j % 256 : Nat) : Int) = ((UInt8.ofNat (V / 256 ^ j % 256)).toNat : Int))) ?_; clear hf a; intro a hf
    replace hf := hf.now (k := 13) (v' := u8v (UInt8.ofNat (V / 256 ^ j % 256))) rfl (rfl)
    refine s_do hf rfl (y_lit (xs := [.tmp 13]) hs sl25 (hf.evals rfl) rfl (by simp [Value.cells, u8v]) (by decide) ?_); clear hf hs a; intro b2 w hs a hf
    refine s_do hf rfl (y_appendB (s := [UInt8.ofNat (V / 256 ^ j % 256)]) hs sl25 rfl (hf.eval rfl) (hf.eval rfl) (.there _ (.here _)) (hs.rdB (.here _) fun h hb => rdB_of_bb (T := 5) (l := [UInt8.ofNat (V / 256 ^ j % 256)]) hb (by simp) (by simp)) (by simp [leB_len]; omega) ?_); clear hf hs a; intro v2 w hs hv a hf
    replace hs := hs.lose (.there _ (.here _))
    rw [List.append_assoc, ← leB_succ] at hs
    refine s_a hf rfl ?_; clear hf a; intro a hf
    refine s_nil ?_
    refine then_n ?_
    refine wp_region_lit ?_
    refine s_m hf rfl ?_; clear hf a; intro a hf
    refine s_v hf (x_bin (hf.eval rfl) (hf.eval rfl) (r_quon _ (Int.natCast_nonneg _) (by decide) (by omega))) ?_; clear hf a; intro a hf
    replace hf := hf.now (k := 17) (v' := .int .i64 ((V / 256 ^ (j + 1) : Nat) : Int)) rfl (by rw [Nat.pow_succ, ← Nat.div_div_eq_div_mul]; congr 1)
    refine s_a hf rfl ?_; clear hf a; intro a hf
    refine s_nil ?_
    refine blk_n ?_
    refine then_n ?_
    refine wp_region_lit ?_
    refine s_m hf rfl ?_; clear hf a; intro a hf
    refine s_v hf (x_bin (hf.eval rfl) (hf.eval rfl) (r_addi _ (by omega) (by omega))) ?_; clear hf a; intro a hf
    refine s_a hf rfl ?_; clear hf a; intro a hf
    refine s_nil ?_
    exact ⟨_, _, ⟨j + 1, _, rfl, rfl, by omega, hs⟩, by omega, hf.sub ⟨rfl, rfl, rfl, rfl, trivial⟩⟩
  · simp only [decide_eq_true_eq, decide_eq_false_iff_not, Bool.not_eq_true', Bool.not_eq_false', Bool.not_eq_true, Int.not_lt, Int.not_le] at hi0
    refine wp_exit ?_
    refine then_x ?_
    refine then_x ?_
    refine blk_x ?_
    refine then_n ?_
    refine wp_seq ?_
    refine wp_region_lit ?_
    refine s_m hf rfl ?_; clear hf a; intro a hf
    refine s_a hf rfl ?_; clear hf a; intro a hf
    refine s_nil ?_
    refine then_n ?_
    refine wp_ret ?_
    refine r_1 hf Tryd.results45 rfl ?_
    obtain rfl : j = 4 := by omega
    obtain ⟨a2, c2, rfl, hc2⟩ := slB_shape hs
    exact ⟨_, _, rfl, hs⟩

theorem rencode_spec (w0 : World) (s : Sl) (hsu : s.2.2.2.2.2.2 < 4294967296) : Calls Tryd.prog 11 #[.agg (slF s).toArray] w0 fun e w' => ∃ a c, e = .returned (.tuple #[.slice a (encV s).length c, .int .i64 (encE s)]) ∧ St ⟨w0, None_⟩ w' [slB 5 (.slice a (encV s).length c) (encV s)] := by
  have hs := St.start w0 None_
  refine c_enter (N := 92) Tryd.func11 rfl Tryd.ntmps11 (by simp) ?_
  intro a hf
  refine wp_seq ?_
  refine wp_region_lit ?_
  refine s_do hf rfl (y_box hs (hf.eval rfl) ?_); clear hf hs a; intro bx w hs a hf
  replace hs : St _ w (cb bx 24 (slF s) :: _) := hs
  refine s_a hf rfl ?_; clear hf a; intro a hf
  refine s_a hf rfl ?_; clear hf a; intro a hf
  refine s_nil ?_
  refine then_n ?_
  refine wp_seq ?_
  refine wp_seq ?_
  refine wp_region_lit ?_
  refine s_v hf (x_fieldAddr fo24_0 (hf.eval rfl)) ?_; clear hf a; intro a hf
  refine s_r hf (x_load sc3 (hf.eval rfl) (by first | exact hs.cell (.here _) rfl | exact hs.cell (.there _ (.here _)) rfl | exact hs.cell (.there _ (.there _ (.here _))) rfl | exact hs.cell (.there _ (.there _ (.there _ (.here _)))) rfl | exact hs.cell (.there _ (.there _ (.there _ (.there _ (.here _))))) rfl | exact hs.cell (.there _ (.there _ (.there _ (.there _ (.there _ (.here _)))))) rfl)) ?_; clear hf a; intro a hf
  refine s_v hf (x_bin (hf.eval rfl) (hf.eval rfl) (r_lt _ _ _ _)) ?_; clear hf a; intro a hf
  refine s_m hf rfl ?_; clear hf a; intro a hf
  refine s_bool hf (k := 9) rfl (fun hg1_3 hf' => ?_) (fun hg1_3 hf' => ?_)
  · clear hf
    have hf := hf'
    clear hf'
    first | simp only [decide_eq_true_eq, decide_eq_false_iff_not, Bool.not_eq_true', Bool.not_eq_false'] at hg1_3 | skip
    refine s_pass hf rfl rfl ?_; clear hf a; intro a hf
    refine s_pass hf rfl rfl ?_; clear hf a; intro a hf
    refine s_pass hf rfl rfl ?_; clear hf a; intro a hf
    refine s_v hf (x_pick_t (hf.eval rfl) (hf.eval rfl)) ?_; clear hf a; intro a hf
    refine s_nil ?_
    refine then_n ?_
    refine c_cond_t hf rfl rfl ?_
    refine wp_seq ?_
    refine wp_region_lit ?_
    refine s_a hf rfl ?_; clear hf a; intro a hf
    refine s_a hf rfl ?_; clear hf a; intro a hf
    refine s_nil ?_
    refine then_n ?_
    refine wp_ret ?_
    refine then_r ?_
    refine r_2 hf Tryd.results11 rfl rfl ?_
    obtain ⟨hE, hV⟩ := enc_no (no_st (s := s) (by omega))
    rw [hE, hV]
    exact ⟨none, 0, rfl, (St.keep [] _ hs).emp (slB_nil _)⟩
  · clear hf
    have hf := hf'
    clear hf'
    first | simp only [decide_eq_true_eq, decide_eq_false_iff_not, Bool.not_eq_true', Bool.not_eq_false'] at hg1_3 | skip
    refine s_do hf (wanted_of hf rfl rfl rfl) (.value (x_fieldAddr fo24_0 (hf.eval rfl) _) ?_); clear hf a; intro a hf
    refine s_do hf (wanted_of hf rfl rfl rfl) (.value (x_load sc3 (hf.eval rfl) (by first | exact hs.cell (.here _) rfl | exact hs.cell (.there _ (.here _)) rfl | exact hs.cell (.there _ (.there _ (.here _))) rfl | exact hs.cell (.there _ (.there _ (.there _ (.here _)))) rfl | exact hs.cell (.there _ (.there _ (.there _ (.there _ (.here _))))) rfl | exact hs.cell (.there _ (.there _ (.there _ (.there _ (.there _ (.here _)))))) rfl)) ?_); clear hf a; intro a hf
    refine s_do hf (wanted_of hf rfl rfl rfl) (.value (x_bin (hf.eval rfl) (hf.eval rfl) (r_gt _ _ _ _) _) ?_); clear hf a; intro a hf
    refine s_v hf (x_pick_f (hf.eval rfl) (hf.eval rfl)) ?_; clear hf a; intro a hf
    refine s_nil ?_
    refine then_n ?_
    refine c_cond hf rfl (fun hi0 => ?_) (fun hi0 => ?_)
    · first | simp only [decide_eq_true_eq, decide_eq_false_iff_not, Bool.not_eq_true', Bool.not_eq_false'] at hi0 | skip
      refine wp_seq ?_
      refine wp_region_lit ?_
      refine s_a hf rfl ?_; clear hf a; intro a hf
      refine s_a hf rfl ?_; clear hf a; intro a hf
      refine s_nil ?_
      refine then_n ?_
      refine wp_ret ?_
      refine then_r ?_
      refine r_2 hf Tryd.results11 rfl rfl ?_
      obtain ⟨hE, hV⟩ := enc_no (no_st (s := s) (by omega))
      rw [hE, hV]
      exact ⟨none, 0, rfl, (St.keep [] _ hs).emp (slB_nil _)⟩
    · first | simp only [decide_eq_true_eq, decide_eq_false_iff_not, Bool.not_eq_true', Bool.not_eq_false'] at hi0 | skip
      refine wp_skip ?_
      refine then_n ?_
      refine wp_seq ?_
      refine wp_seq ?_
      refine wp_region_lit ?_
      refine s_v hf (x_fieldAddr fo24_1 (hf.eval rfl)) ?_; clear hf a; intro a hf
      refine s_r hf (x_load sc3 (hf.eval rfl) (by first | exact hs.cell (.here _) rfl | exact hs.cell (.there _ (.here _)) rfl | exact hs.cell (.there _ (.there _ (.here _))) rfl | exact hs.cell (.there _ (.there _ (.there _ (.here _)))) rfl | exact hs.cell (.there _ (.there _ (.there _ (.there _ (.here _))))) rfl | exact hs.cell (.there _ (.there _ (.there _ (.there _ (.there _ (.here _)))))) rfl)) ?_; clear hf a; intro a hf
      refine s_do hf rfl (y_call (hf.eval rfl) (hf.evals rfl) Tryd.call44 ((inField_spec _ _).mono ?_))
      rintro e w1 ⟨rfl, hw9⟩
      rw [hw9]
      clear hw9 w1
      refine ⟨_, rfl, ?_⟩; clear hf a; intro a hf
      refine s_v hf (x_not (hf.eval rfl)) ?_; clear hf a; intro a hf
      refine s_m hf rfl ?_; clear hf a; intro a hf
      refine s_bool hf (k := 18) rfl (fun hg3_4 hf' => ?_) (fun hg3_4 hf' => ?_)
      · clear hf
        have hf := hf'
        clear hf'
        first | simp only [decide_eq_true_eq, decide_eq_false_iff_not, Bool.not_eq_true', Bool.not_eq_false'] at hg3_4 | skip
        refine s_pass hf rfl rfl ?_; clear hf a; intro a hf
        refine s_pass hf rfl rfl ?_; clear hf a; intro a hf
        refine s_pass hf rfl rfl ?_; clear hf a; intro a hf
        refine s_pass hf rfl rfl ?_; clear hf a; intro a hf
        refine s_v hf (x_pick_t (hf.eval rfl) (hf.eval rfl)) ?_; clear hf a; intro a hf
        refine s_m hf rfl ?_; clear hf a; intro a hf
        refine s_pass hf rfl rfl ?_; clear hf a; intro a hf
        refine s_pass hf rfl rfl ?_; clear hf a; intro a hf
        refine s_pass hf rfl rfl ?_; clear hf a; intro a hf
        refine s_pass hf rfl rfl ?_; clear hf a; intro a hf
        refine s_v hf (x_pick_t (hf.eval rfl) (hf.eval rfl)) ?_; clear hf a; intro a hf
        refine s_m hf rfl ?_; clear hf a; intro a hf
        refine s_pass hf rfl rfl ?_; clear hf a; intro a hf
        refine s_pass hf rfl rfl ?_; clear hf a; intro a hf
        refine s_pass hf rfl rfl ?_; clear hf a; intro a hf
        refine s_pass hf rfl rfl ?_; clear hf a; intro a hf
        refine s_v hf (x_pick_t (hf.eval rfl) (hf.eval rfl)) ?_; clear hf a; intro a hf
        refine s_m hf rfl ?_; clear hf a; intro a hf
        refine s_pass hf rfl rfl ?_; clear hf a; intro a hf
        refine s_pass hf rfl rfl ?_; clear hf a; intro a hf
        refine s_pass hf rfl rfl ?_; clear hf a; intro a hf
        refine s_pass hf rfl rfl ?_; clear hf a; intro a hf
        refine s_v hf (x_pick_t (hf.eval rfl) (hf.eval rfl)) ?_; clear hf a; intro a hf
        refine s_nil ?_
        refine then_n ?_
        refine c_cond_t hf rfl rfl ?_
        refine wp_seq ?_
        refine wp_region_lit ?_
        refine s_a hf rfl ?_; clear hf a; intro a hf
        refine s_a hf rfl ?_; clear hf a; intro a hf
        refine s_nil ?_
        refine then_n ?_
        refine wp_ret ?_
        refine then_r ?_
        refine r_2 hf Tryd.results11 rfl rfl ?_
        obtain ⟨hE, hV⟩ := enc_no (by unfold slOk; first | (rw [hg3_4]; simp; done) | (rw [hg3_10]; simp; done) | (rw [hg3_16]; simp; done) | (rw [hg3_22]; simp; done) | (rw [hi1]; simp; done))
        rw [hE, hV]
        exact ⟨none, 0, rfl, (St.keep [] _ hs).emp (slB_nil _)⟩
      · clear hf
        have hf := hf'
        clear hf'
        first | simp only [decide_eq_true_eq, decide_eq_false_iff_not, Bool.not_eq_true', Bool.not_eq_false'] at hg3_4 | skip
        refine s_do hf (wanted_of hf rfl rfl rfl) (.value (x_fieldAddr fo24_2 (hf.eval rfl) _) ?_); clear hf a; intro a hf
        refine s_do hf (wanted_of hf rfl rfl rfl) (.value (x_load sc3 (hf.eval rfl) (by first | exact hs.cell (.here _) rfl | exact hs.cell (.there _ (.here _)) rfl | exact hs.cell (.there _ (.there _ (.here _))) rfl | exact hs.cell (.there _ (.there _ (.there _ (.here _)))) rfl | exact hs.cell (.there _ (.there _ (.there _ (.there _ (.here _))))) rfl | exact hs.cell (.there _ (.there _ (.there _ (.there _ (.there _ (.here _)))))) rfl)) ?_); clear hf a; intro a hf
        refine s_do hf (wanted_of hf rfl rfl rfl) (y_call (hf.eval rfl) (hf.evals rfl) Tryd.call44 ((inField_spec _ _).mono ?_))
        rintro e w1 ⟨rfl, hw9⟩
        rw [hw9]
        clear hw9 w1
        refine ⟨_, rfl, ?_⟩; clear hf a; intro a hf
        refine s_do hf (wanted_of hf rfl rfl rfl) (.value (x_not (hf.eval rfl) _) ?_); clear hf a; intro a hf
        refine s_v hf (x_pick_f (hf.eval rfl) (hf.eval rfl)) ?_; clear hf a; intro a hf
        refine s_m hf rfl ?_; clear hf a; intro a hf
        refine s_bool hf (k := 24) rfl (fun hg3_10 hf' => ?_) (fun hg3_10 hf' => ?_)
        · clear hf
          have hf := hf'
          clear hf'
          first | simp only [decide_eq_true_eq, decide_eq_false_iff_not, Bool.not_eq_true', Bool.not_eq_false'] at hg3_10 | skip
          refine s_pass hf rfl rfl ?_; clear hf a; intro a hf
          refine s_pass hf rfl rfl ?_; clear hf a; intro a hf
          refine s_pass hf rfl rfl ?_; clear hf a; intro a hf
          refine s_pass hf rfl rfl ?_; clear hf a; intro a hf
          refine s_v hf (x_pick_t (hf.eval rfl) (hf.eval rfl)) ?_; clear hf a; intro a hf
          refine s_m hf rfl ?_; clear hf a; intro a hf
          refine s_pass hf rfl rfl ?_; clear hf a; intro a hf
          refine s_pass hf rfl rfl ?_; clear hf a; intro a hf
          refine s_pass hf rfl rfl ?_; clear hf a; intro a hf
          refine s_pass hf rfl rfl ?_; clear hf a; intro a hf
          refine s_v hf (x_pick_t (hf.eval rfl) (hf.eval rfl)) ?_; clear hf a; intro a hf
          refine s_m hf rfl ?_; clear hf a; intro a hf
          refine s_pass hf rfl rfl ?_; clear hf a; intro a hf
          refine s_pass hf rfl rfl ?_; clear hf a; intro a hf
          refine s_pass hf rfl rfl ?_; clear hf a; intro a hf
          refine s_pass hf rfl rfl ?_; clear hf a; intro a hf
          refine s_v hf (x_pick_t (hf.eval rfl) (hf.eval rfl)) ?_; clear hf a; intro a hf
          refine s_nil ?_
          refine then_n ?_
          refine c_cond_t hf rfl rfl ?_
          refine wp_seq ?_
          refine wp_region_lit ?_
          refine s_a hf rfl ?_; clear hf a; intro a hf
          refine s_a hf rfl ?_; clear hf a; intro a hf
          refine s_nil ?_
          refine then_n ?_
          refine wp_ret ?_
          refine then_r ?_
          refine r_2 hf Tryd.results11 rfl rfl ?_
          obtain ⟨hE, hV⟩ := enc_no (by unfold slOk; first | (rw [hg3_4]; simp; done) | (rw [hg3_10]; simp; done) | (rw [hg3_16]; simp; done) | (rw [hg3_22]; simp; done) | (rw [hi1]; simp; done))
          rw [hE, hV]
          exact ⟨none, 0, rfl, (St.keep [] _ hs).emp (slB_nil _)⟩
        · clear hf
          have hf := hf'
          clear hf'
          first | simp only [decide_eq_true_eq, decide_eq_false_iff_not, Bool.not_eq_true', Bool.not_eq_false'] at hg3_10 | skip
          refine s_do hf (wanted_of hf rfl rfl rfl) (.value (x_fieldAddr fo24_3 (hf.eval rfl) _) ?_); clear hf a; intro a hf
          refine s_do hf (wanted_of hf rfl rfl rfl) (.value (x_load sc3 (hf.eval rfl) (by first | exact hs.cell (.here _) rfl | exact hs.cell (.there _ (.here _)) rfl | exact hs.cell (.there _ (.there _ (.here _))) rfl | exact hs.cell (.there _ (.there _ (.there _ (.here _)))) rfl | exact hs.cell (.there _ (.there _ (.there _ (.there _ (.here _))))) rfl | exact hs.cell (.there _ (.there _ (.there _ (.there _ (.there _ (.here _)))))) rfl)) ?_); clear hf a; intro a hf
          refine s_do hf (wanted_of hf rfl rfl rfl) (y_call (hf.eval rfl) (hf.evals rfl) Tryd.call44 ((inField_spec _ _).mono ?_))
          rintro e w1 ⟨rfl, hw9⟩
          rw [hw9]
          clear hw9 w1
          refine ⟨_, rfl, ?_⟩; clear hf a; intro a hf
          refine s_do hf (wanted_of hf rfl rfl rfl) (.value (x_not (hf.eval rfl) _) ?_); clear hf a; intro a hf
          refine s_v hf (x_pick_f (hf.eval rfl) (hf.eval rfl)) ?_; clear hf a; intro a hf
          refine s_m hf rfl ?_; clear hf a; intro a hf
          refine s_bool hf (k := 30) rfl (fun hg3_16 hf' => ?_) (fun hg3_16 hf' => ?_)
          · clear hf
            have hf := hf'
            clear hf'
            first | simp only [decide_eq_true_eq, decide_eq_false_iff_not, Bool.not_eq_true', Bool.not_eq_false'] at hg3_16 | skip
            refine s_pass hf rfl rfl ?_; clear hf a; intro a hf
            refine s_pass hf rfl rfl ?_; clear hf a; intro a hf
            refine s_pass hf rfl rfl ?_; clear hf a; intro a hf
            refine s_pass hf rfl rfl ?_; clear hf a; intro a hf
            refine s_v hf (x_pick_t (hf.eval rfl) (hf.eval rfl)) ?_; clear hf a; intro a hf
            refine s_m hf rfl ?_; clear hf a; intro a hf
            refine s_pass hf rfl rfl ?_; clear hf a; intro a hf
            refine s_pass hf rfl rfl ?_; clear hf a; intro a hf
            refine s_pass hf rfl rfl ?_; clear hf a; intro a hf
            refine s_pass hf rfl rfl ?_; clear hf a; intro a hf
            refine s_v hf (x_pick_t (hf.eval rfl) (hf.eval rfl)) ?_; clear hf a; intro a hf
            refine s_nil ?_
            refine then_n ?_
            refine c_cond_t hf rfl rfl ?_
            refine wp_seq ?_
            refine wp_region_lit ?_
            refine s_a hf rfl ?_; clear hf a; intro a hf
            refine s_a hf rfl ?_; clear hf a; intro a hf
            refine s_nil ?_
            refine then_n ?_
            refine wp_ret ?_
            refine then_r ?_
            refine r_2 hf Tryd.results11 rfl rfl ?_
            obtain ⟨hE, hV⟩ := enc_no (by unfold slOk; first | (rw [hg3_4]; simp; done) | (rw [hg3_10]; simp; done) | (rw [hg3_16]; simp; done) | (rw [hg3_22]; simp; done) | (rw [hi1]; simp; done))
            rw [hE, hV]
            exact ⟨none, 0, rfl, (St.keep [] _ hs).emp (slB_nil _)⟩
          · clear hf
            have hf := hf'
            clear hf'
            first | simp only [decide_eq_true_eq, decide_eq_false_iff_not, Bool.not_eq_true', Bool.not_eq_false'] at hg3_16 | skip
            refine s_do hf (wanted_of hf rfl rfl rfl) (.value (x_fieldAddr fo24_4 (hf.eval rfl) _) ?_); clear hf a; intro a hf
            refine s_do hf (wanted_of hf rfl rfl rfl) (.value (x_load sc3 (hf.eval rfl) (by first | exact hs.cell (.here _) rfl | exact hs.cell (.there _ (.here _)) rfl | exact hs.cell (.there _ (.there _ (.here _))) rfl | exact hs.cell (.there _ (.there _ (.there _ (.here _)))) rfl | exact hs.cell (.there _ (.there _ (.there _ (.there _ (.here _))))) rfl | exact hs.cell (.there _ (.there _ (.there _ (.there _ (.there _ (.here _)))))) rfl)) ?_); clear hf a; intro a hf
            refine s_do hf (wanted_of hf rfl rfl rfl) (y_call (hf.eval rfl) (hf.evals rfl) Tryd.call44 ((inField_spec _ _).mono ?_))
            rintro e w1 ⟨rfl, hw9⟩
            rw [hw9]
            clear hw9 w1
            refine ⟨_, rfl, ?_⟩; clear hf a; intro a hf
            refine s_do hf (wanted_of hf rfl rfl rfl) (.value (x_not (hf.eval rfl) _) ?_); clear hf a; intro a hf
            refine s_v hf (x_pick_f (hf.eval rfl) (hf.eval rfl)) ?_; clear hf a; intro a hf
            refine s_m hf rfl ?_; clear hf a; intro a hf
            refine s_bool hf (k := 36) rfl (fun hg3_22 hf' => ?_) (fun hg3_22 hf' => ?_)
            · clear hf
              have hf := hf'
              clear hf'
              first | simp only [decide_eq_true_eq, decide_eq_false_iff_not, Bool.not_eq_true', Bool.not_eq_false'] at hg3_22 | skip
              refine s_pass hf rfl rfl ?_; clear hf a; intro a hf
              refine s_pass hf rfl rfl ?_; clear hf a; intro a hf
              refine s_pass hf rfl rfl ?_; clear hf a; intro a hf
              refine s_pass hf rfl rfl ?_; clear hf a; intro a hf
              refine s_v hf (x_pick_t (hf.eval rfl) (hf.eval rfl)) ?_; clear hf a; intro a hf
              refine s_nil ?_
              refine then_n ?_
              refine c_cond_t hf rfl rfl ?_
              refine wp_seq ?_
              refine wp_region_lit ?_
              refine s_a hf rfl ?_; clear hf a; intro a hf
              refine s_a hf rfl ?_; clear hf a; intro a hf
              refine s_nil ?_
              refine then_n ?_
              refine wp_ret ?_
              refine then_r ?_
              refine r_2 hf Tryd.results11 rfl rfl ?_
              obtain ⟨hE, hV⟩ := enc_no (by unfold slOk; first | (rw [hg3_4]; simp; done) | (rw [hg3_10]; simp; done) | (rw [hg3_16]; simp; done) | (rw [hg3_22]; simp; done) | (rw [hi1]; simp; done))
              rw [hE, hV]
              exact ⟨none, 0, rfl, (St.keep [] _ hs).emp (slB_nil _)⟩
            · clear hf
              have hf := hf'
              clear hf'
              first | simp only [decide_eq_true_eq, decide_eq_false_iff_not, Bool.not_eq_true', Bool.not_eq_false'] at hg3_22 | skip
              refine s_do hf (wanted_of hf rfl rfl rfl) (.value (x_fieldAddr fo24_5 (hf.eval rfl) _) ?_); clear hf a; intro a hf
              refine s_do hf (wanted_of hf rfl rfl rfl) (.value (x_load sc3 (hf.eval rfl) (by first | exact hs.cell (.here _) rfl | exact hs.cell (.there _ (.here _)) rfl | exact hs.cell (.there _ (.there _ (.here _))) rfl | exact hs.cell (.there _ (.there _ (.there _ (.here _)))) rfl | exact hs.cell (.there _ (.there _ (.there _ (.there _ (.here _))))) rfl | exact hs.cell (.there _ (.there _ (.there _ (.there _ (.there _ (.here _)))))) rfl)) ?_); clear hf a; intro a hf
              refine s_do hf (wanted_of hf rfl rfl rfl) (y_call (hf.eval rfl) (hf.evals rfl) Tryd.call44 ((inField_spec _ _).mono ?_))
              rintro e w1 ⟨rfl, hw9⟩
              rw [hw9]
              clear hw9 w1
              refine ⟨_, rfl, ?_⟩; clear hf a; intro a hf
              refine s_do hf (wanted_of hf rfl rfl rfl) (.value (x_not (hf.eval rfl) _) ?_); clear hf a; intro a hf
              refine s_v hf (x_pick_f (hf.eval rfl) (hf.eval rfl)) ?_; clear hf a; intro a hf
              refine s_nil ?_
              refine then_n ?_
              refine c_cond hf rfl (fun hi1 => ?_) (fun hi1 => ?_)
              · first | simp only [decide_eq_true_eq, decide_eq_false_iff_not, Bool.not_eq_true', Bool.not_eq_false'] at hi1 | skip
                refine wp_seq ?_
                refine wp_region_lit ?_
                refine s_a hf rfl ?_; clear hf a; intro a hf
                refine s_a hf rfl ?_; clear hf a; intro a hf
                refine s_nil ?_
                refine then_n ?_
                refine wp_ret ?_
                refine then_r ?_
                refine r_2 hf Tryd.results11 rfl rfl ?_
                obtain ⟨hE, hV⟩ := enc_no (by unfold slOk; first | (rw [hg3_4]; simp; done) | (rw [hg3_10]; simp; done) | (rw [hg3_16]; simp; done) | (rw [hg3_22]; simp; done) | (rw [hi1]; simp; done))
                rw [hE, hV]
                exact ⟨none, 0, rfl, (St.keep [] _ hs).emp (slB_nil _)⟩
              · first | simp only [decide_eq_true_eq, decide_eq_false_iff_not, Bool.not_eq_true', Bool.not_eq_false'] at hi1 | skip
                have hok : slOk s = true := by unfold slOk; rw [hg3_4, hg3_10, hg3_16, hg3_22, hi1, decide_eq_true (show 2 ≤ s.1 ∧ s.1 ≤ 4 by omega)]; rfl
                obtain ⟨hn1, hn2, hn3, hn4, hn5⟩ := slOk_in hok
                obtain ⟨hE, hV⟩ := enc_ok hok
                refine wp_skip ?_
                refine then_n ?_
                refine wp_seq ?_
                refine wp_region_lit ?_
                refine s_a hf rfl ?_; clear hf a; intro a hf
                refine s_nil ?_
                refine then_n ?_
                refine wp_seq ?_
                refine wp_seq ?_
                refine wp_region_lit ?_
                refine s_a hf rfl ?_; clear hf a; intro a hf
                refine s_nil ?_
                refine then_n ?_
                refine wp_block ?_
                replace hs := hs.emp (slB_nil 5)
                refine c_loop (L0 := [(1, _), (2, _), (3, _)]) (fun M w m => ∃ (i : Nat) (v0 : Value), M = [(4, v0), (5, .int .i64 (i : Int))] ∧ 8 - i = m ∧ i ≤ 8 ∧ St ⟨w0, None_⟩ w [slB 5 v0 (MAG.take i), cb bx 24 (slF s)]) (M0 := _) (⟨0, _, rfl, rfl, Nat.zero_le _, hs⟩) (hf.sub ⟨rfl, rfl, rfl, rfl, rfl, trivial⟩) ?_
                clear hf hs a
                rintro M m a w ⟨i, v0, rfl, rfl, hi, hs⟩ hf
                refine wp_seq ?_
                refine wp_seq ?_
                refine wp_region_lit ?_
                refine s_m hf rfl ?_; clear hf a; intro a hf
                refine s_v hf (x_bin (hf.eval rfl) (hf.eval rfl) (r_lt _ _ _ _)) ?_; clear hf a; intro a hf
                refine s_nil ?_
                refine then_n ?_
                refine c_cond hf rfl (fun hi2 => ?_) (fun hi2 => ?_)
                · simp only [decide_eq_true_eq, decide_eq_false_iff_not, Bool.not_eq_true', Bool.not_eq_false', Bool.not_eq_true, Int.not_lt, Int.not_le] at hi2
                  have hlt : i < MAG.length := by show i < 8; omega
                  refine wp_skip ?_
                  refine then_n ?_
                  refine wp_seq ?_
                  refine wp_block ?_
                  refine wp_region_lit ?_
                  refine s_m hf rfl ?_; clear hf a; intro a hf
                  refine s_m hf rfl ?_; clear hf a; intro a hf
                  refine s_r hf (x_indexStr (l := MAG) Tryd.underlying9 rfl (hf.eval rfl) hlt _) ?_; clear hf a; intro a hf
                  replace hf := hf.now (k := 48) (v' := u8v MAG[i]) rfl (rfl)
                  refine s_do hf rfl (y_lit (xs := [.tmp 48]) hs sl25 (hf.evals rfl) rfl (by simp [Value.cells, u8v]) (by decide) ?_); clear hf hs a; intro b2 w hs a hf
                  refine s_do hf rfl (y_appendB (s := [MAG[i]]) hs sl25 rfl (hf.eval rfl) (hf.eval rfl) (.there _ (.here _)) (hs.rdB (.here _) fun h hb => rdB_of_bb (T := 5) (l := [MAG[i]]) hb (by simp) (by simp)) (by simp; omega) ?_); clear hf hs a; intro v2 w hs hv a hf
                  replace hs := hs.lose (.there _ (.here _))
                  rw [← List.take_succ_eq_append_getElem hlt] at hs
                  refine s_a hf rfl ?_; clear hf a; intro a hf
                  refine s_nil ?_
                  refine blk_n ?_
                  refine then_n ?_
                  refine wp_region_lit ?_
                  refine s_m hf rfl ?_; clear hf a; intro a hf
                  refine s_v hf (x_bin (hf.eval rfl) (hf.eval rfl) (r_addi _ (by omega) (by omega))) ?_; clear hf a; intro a hf
                  refine s_a hf rfl ?_; clear hf a; intro a hf
                  refine s_nil ?_
                  exact ⟨_, _, ⟨i + 1, _, rfl, rfl, by omega, hs⟩, by omega, hf.sub ⟨rfl, rfl, rfl, rfl, rfl, trivial⟩⟩
                · simp only [decide_eq_true_eq, decide_eq_false_iff_not, Bool.not_eq_true', Bool.not_eq_false', Bool.not_eq_true, Int.not_lt, Int.not_le] at hi2
                  obtain rfl : i = 8 := by omega
                  rw [show MAG.take 8 = MAG from rfl] at hs
                  obtain ⟨a4, ca4, rfl, hc4⟩ := slB_shape hs
                  refine wp_exit ?_
                  refine then_x ?_
                  refine then_x ?_
                  refine blk_x ?_
                  refine then_n ?_
                  refine wp_seq ?_
                  refine wp_region_lit ?_
                  refine s_m hf rfl ?_; clear hf a; intro a hf
                  refine s_v hf (x_fieldAddr fo24_0 (hf.eval rfl)) ?_; clear hf a; intro a hf
                  refine s_r hf (x_load sc3 (hf.eval rfl) (by first | exact hs.cell (.here _) rfl | exact hs.cell (.there _ (.here _)) rfl | exact hs.cell (.there _ (.there _ (.here _))) rfl | exact hs.cell (.there _ (.there _ (.there _ (.here _)))) rfl | exact hs.cell (.there _ (.there _ (.there _ (.there _ (.here _))))) rfl | exact hs.cell (.there _ (.there _ (.there _ (.there _ (.there _ (.here _)))))) rfl)) ?_; clear hf a; intro a hf
                  replace hs := hs.take (A := slB 5 (.slice a4 (MAG).length ca4) (MAG)) (by first | exact .here _ | exact .there _ (.here _) | exact .there _ (.there _ (.here _)) | exact .there _ (.there _ (.there _ (.here _))) | exact .there _ (.there _ (.there _ (.there _ (.here _)))) | exact .there _ (.there _ (.there _ (.there _ (.there _ (.here _))))) | exact .there _ (.there _ (.there _ (.there _ (.there _ (.there _ (.here _)))))) | exact .there _ (.there _ (.there _ (.there _ (.there _ (.there _ (.there _ (.here _))))))) | exact .there _ (.there _ (.there _ (.there _ (.there _ (.there _ (.there _ (.there _ (.here _)))))))) | exact .there _ (.there _ (.there _ (.there _ (.there _ (.there _ (.there _ (.there _ (.there _ (.here _))))))))) | exact .there _ (.there _ (.there _ (.there _ (.there _ (.there _ (.there _ (.there _ (.there _ (.there _ (.here _)))))))))) | exact .there _ (.there _ (.there _ (.there _ (.there _ (.there _ (.there _ (.there _ (.there _ (.there _ (.there _ (.here _))))))))))))
                  refine s_do hf rfl (y_call (hf.eval rfl) (hf.evals rfl) Tryd.call45 ((rnum_spec _ _ _ _ _ (MAG) (s.1) (by omega) (by omega) (by simp [MAG, leB_len, hdS_len]) hs).mono ?_))
                  rintro e w1 ⟨e1, ce1, rfl, hs⟩
                  refine ⟨_, rfl, ?_⟩; clear hf a; intro a hf
                  refine s_a hf rfl ?_; clear hf a; intro a hf
                  refine s_nil ?_
                  refine then_n ?_
                  refine wp_seq ?_
                  refine wp_region_lit ?_
                  refine s_m hf rfl ?_; clear hf a; intro a hf
                  refine s_v hf (x_fieldAddr fo24_1 (hf.eval rfl)) ?_; clear hf a; intro a hf
                  refine s_r hf (x_load sc3 (hf.eval rfl) (by first | exact hs.cell (.here _) rfl | exact hs.cell (.there _ (.here _)) rfl | exact hs.cell (.there _ (.there _ (.here _))) rfl | exact hs.cell (.there _ (.there _ (.there _ (.here _)))) rfl | exact hs.cell (.there _ (.there _ (.there _ (.there _ (.here _))))) rfl | exact hs.cell (.there _ (.there _ (.there _ (.there _ (.there _ (.here _)))))) rfl)) ?_; clear hf a; intro a hf
                  replace hs := hs.take (A := slB 5 (.slice e1 (MAG ++ leB 4 (s.1).toNat).length ce1) (MAG ++ leB 4 (s.1).toNat)) (by first | exact .here _ | exact .there _ (.here _) | exact .there _ (.there _ (.here _)) | exact .there _ (.there _ (.there _ (.here _))) | exact .there _ (.there _ (.there _ (.there _ (.here _)))) | exact .there _ (.there _ (.there _ (.there _ (.there _ (.here _))))) | exact .there _ (.there _ (.there _ (.there _ (.there _ (.there _ (.here _)))))) | exact .there _ (.there _ (.there _ (.there _ (.there _ (.there _ (.there _ (.here _))))))) | exact .there _ (.there _ (.there _ (.there _ (.there _ (.there _ (.there _ (.there _ (.here _)))))))) | exact .there _ (.there _ (.there _ (.there _ (.there _ (.there _ (.there _ (.there _ (.there _ (.here _))))))))) | exact .there _ (.there _ (.there _ (.there _ (.there _ (.there _ (.there _ (.there _ (.there _ (.there _ (.here _)))))))))) | exact .there _ (.there _ (.there _ (.there _ (.there _ (.there _ (.there _ (.there _ (.there _ (.there _ (.there _ (.here _))))))))))))
                  refine s_do hf rfl (y_call (hf.eval rfl) (hf.evals rfl) Tryd.call45 ((rnum_spec _ _ _ _ _ (MAG ++ leB 4 (s.1).toNat) (s.2.1) (by omega) (by omega) (by simp [MAG, leB_len, hdS_len]) hs).mono ?_))
                  rintro e w1 ⟨e2, ce2, rfl, hs⟩
                  refine ⟨_, rfl, ?_⟩; clear hf a; intro a hf
                  refine s_a hf rfl ?_; clear hf a; intro a hf
                  refine s_nil ?_
                  refine then_n ?_
                  refine wp_seq ?_
                  refine wp_region_lit ?_
                  refine s_m hf rfl ?_; clear hf a; intro a hf
                  refine s_v hf (x_fieldAddr fo24_2 (hf.eval rfl)) ?_; clear hf a; intro a hf
                  refine s_r hf (x_load sc3 (hf.eval rfl) (by first | exact hs.cell (.here _) rfl | exact hs.cell (.there _ (.here _)) rfl | exact hs.cell (.there _ (.there _ (.here _))) rfl | exact hs.cell (.there _ (.there _ (.there _ (.here _)))) rfl | exact hs.cell (.there _ (.there _ (.there _ (.there _ (.here _))))) rfl | exact hs.cell (.there _ (.there _ (.there _ (.there _ (.there _ (.here _)))))) rfl)) ?_; clear hf a; intro a hf
                  replace hs := hs.take (A := slB 5 (.slice e2 ((MAG ++ leB 4 (s.1).toNat) ++ leB 4 (s.2.1).toNat).length ce2) ((MAG ++ leB 4 (s.1).toNat) ++ leB 4 (s.2.1).toNat)) (by first | exact .here _ | exact .there _ (.here _) | exact .there _ (.there _ (.here _)) | exact .there _ (.there _ (.there _ (.here _))) | exact .there _ (.there _ (.there _ (.there _ (.here _)))) | exact .there _ (.there _ (.there _ (.there _ (.there _ (.here _))))) | exact .there _ (.there _ (.there _ (.there _ (.there _ (.there _ (.here _)))))) | exact .there _ (.there _ (.there _ (.there _ (.there _ (.there _ (.there _ (.here _))))))) | exact .there _ (.there _ (.there _ (.there _ (.there _ (.there _ (.there _ (.there _ (.here _)))))))) | exact .there _ (.there _ (.there _ (.there _ (.there _ (.there _ (.there _ (.there _ (.there _ (.here _))))))))) | exact .there _ (.there _ (.there _ (.there _ (.there _ (.there _ (.there _ (.there _ (.there _ (.there _ (.here _)))))))))) | exact .there _ (.there _ (.there _ (.there _ (.there _ (.there _ (.there _ (.there _ (.there _ (.there _ (.there _ (.here _))))))))))))
                  refine s_do hf rfl (y_call (hf.eval rfl) (hf.evals rfl) Tryd.call45 ((rnum_spec _ _ _ _ _ ((MAG ++ leB 4 (s.1).toNat) ++ leB 4 (s.2.1).toNat) (s.2.2.1) (by omega) (by omega) (by simp [MAG, leB_len, hdS_len]) hs).mono ?_))
                  rintro e w1 ⟨e3, ce3, rfl, hs⟩
                  refine ⟨_, rfl, ?_⟩; clear hf a; intro a hf
                  refine s_a hf rfl ?_; clear hf a; intro a hf
                  refine s_nil ?_
                  refine then_n ?_
                  refine wp_seq ?_
                  refine wp_region_lit ?_
                  refine s_m hf rfl ?_; clear hf a; intro a hf
                  refine s_v hf (x_fieldAddr fo24_3 (hf.eval rfl)) ?_; clear hf a; intro a hf
                  refine s_r hf (x_load sc3 (hf.eval rfl) (by first | exact hs.cell (.here _) rfl | exact hs.cell (.there _ (.here _)) rfl | exact hs.cell (.there _ (.there _ (.here _))) rfl | exact hs.cell (.there _ (.there _ (.there _ (.here _)))) rfl | exact hs.cell (.there _ (.there _ (.there _ (.there _ (.here _))))) rfl | exact hs.cell (.there _ (.there _ (.there _ (.there _ (.there _ (.here _)))))) rfl)) ?_; clear hf a; intro a hf
                  replace hs := hs.take (A := slB 5 (.slice e3 (((MAG ++ leB 4 (s.1).toNat) ++ leB 4 (s.2.1).toNat) ++ leB 4 (s.2.2.1).toNat).length ce3) (((MAG ++ leB 4 (s.1).toNat) ++ leB 4 (s.2.1).toNat) ++ leB 4 (s.2.2.1).toNat)) (by first | exact .here _ | exact .there _ (.here _) | exact .there _ (.there _ (.here _)) | exact .there _ (.there _ (.there _ (.here _))) | exact .there _ (.there _ (.there _ (.there _ (.here _)))) | exact .there _ (.there _ (.there _ (.there _ (.there _ (.here _))))) | exact .there _ (.there _ (.there _ (.there _ (.there _ (.there _ (.here _)))))) | exact .there _ (.there _ (.there _ (.there _ (.there _ (.there _ (.there _ (.here _))))))) | exact .there _ (.there _ (.there _ (.there _ (.there _ (.there _ (.there _ (.there _ (.here _)))))))) | exact .there _ (.there _ (.there _ (.there _ (.there _ (.there _ (.there _ (.there _ (.there _ (.here _))))))))) | exact .there _ (.there _ (.there _ (.there _ (.there _ (.there _ (.there _ (.there _ (.there _ (.there _ (.here _)))))))))) | exact .there _ (.there _ (.there _ (.there _ (.there _ (.there _ (.there _ (.there _ (.there _ (.there _ (.there _ (.here _))))))))))))
                  refine s_do hf rfl (y_call (hf.eval rfl) (hf.evals rfl) Tryd.call45 ((rnum_spec _ _ _ _ _ (((MAG ++ leB 4 (s.1).toNat) ++ leB 4 (s.2.1).toNat) ++ leB 4 (s.2.2.1).toNat) (s.2.2.2.1) (by omega) (by omega) (by simp [MAG, leB_len, hdS_len]) hs).mono ?_))
                  rintro e w1 ⟨e4, ce4, rfl, hs⟩
                  refine ⟨_, rfl, ?_⟩; clear hf a; intro a hf
                  refine s_a hf rfl ?_; clear hf a; intro a hf
                  refine s_nil ?_
                  refine then_n ?_
                  refine wp_seq ?_
                  refine wp_region_lit ?_
                  refine s_m hf rfl ?_; clear hf a; intro a hf
                  refine s_v hf (x_fieldAddr fo24_4 (hf.eval rfl)) ?_; clear hf a; intro a hf
                  refine s_r hf (x_load sc3 (hf.eval rfl) (by first | exact hs.cell (.here _) rfl | exact hs.cell (.there _ (.here _)) rfl | exact hs.cell (.there _ (.there _ (.here _))) rfl | exact hs.cell (.there _ (.there _ (.there _ (.here _)))) rfl | exact hs.cell (.there _ (.there _ (.there _ (.there _ (.here _))))) rfl | exact hs.cell (.there _ (.there _ (.there _ (.there _ (.there _ (.here _)))))) rfl)) ?_; clear hf a; intro a hf
                  replace hs := hs.take (A := slB 5 (.slice e4 ((((MAG ++ leB 4 (s.1).toNat) ++ leB 4 (s.2.1).toNat) ++ leB 4 (s.2.2.1).toNat) ++ leB 4 (s.2.2.2.1).toNat).length ce4) ((((MAG ++ leB 4 (s.1).toNat) ++ leB 4 (s.2.1).toNat) ++ leB 4 (s.2.2.1).toNat) ++ leB 4 (s.2.2.2.1).toNat)) (by first | exact .here _ | exact .there _ (.here _) | exact .there _ (.there _ (.here _)) | exact .there _ (.there _ (.there _ (.here _))) | exact .there _ (.there _ (.there _ (.there _ (.here _)))) | exact .there _ (.there _ (.there _ (.there _ (.there _ (.here _))))) | exact .there _ (.there _ (.there _ (.there _ (.there _ (.there _ (.here _)))))) | exact .there _ (.there _ (.there _ (.there _ (.there _ (.there _ (.there _ (.here _))))))) | exact .there _ (.there _ (.there _ (.there _ (.there _ (.there _ (.there _ (.there _ (.here _)))))))) | exact .there _ (.there _ (.there _ (.there _ (.there _ (.there _ (.there _ (.there _ (.there _ (.here _))))))))) | exact .there _ (.there _ (.there _ (.there _ (.there _ (.there _ (.there _ (.there _ (.there _ (.there _ (.here _)))))))))) | exact .there _ (.there _ (.there _ (.there _ (.there _ (.there _ (.there _ (.there _ (.there _ (.there _ (.there _ (.here _))))))))))))
                  refine s_do hf rfl (y_call (hf.eval rfl) (hf.evals rfl) Tryd.call45 ((rnum_spec _ _ _ _ _ ((((MAG ++ leB 4 (s.1).toNat) ++ leB 4 (s.2.1).toNat) ++ leB 4 (s.2.2.1).toNat) ++ leB 4 (s.2.2.2.1).toNat) (s.2.2.2.2.1) (by omega) (by omega) (by simp [MAG, leB_len, hdS_len]) hs).mono ?_))
                  rintro e w1 ⟨e5, ce5, rfl, hs⟩
                  refine ⟨_, rfl, ?_⟩; clear hf a; intro a hf
                  refine s_a hf rfl ?_; clear hf a; intro a hf
                  refine s_nil ?_
                  refine then_n ?_
                  refine wp_seq ?_
                  refine wp_region_lit ?_
                  refine s_m hf rfl ?_; clear hf a; intro a hf
                  refine s_v hf (x_fieldAddr fo24_5 (hf.eval rfl)) ?_; clear hf a; intro a hf
                  refine s_r hf (x_load sc3 (hf.eval rfl) (by first | exact hs.cell (.here _) rfl | exact hs.cell (.there _ (.here _)) rfl | exact hs.cell (.there _ (.there _ (.here _))) rfl | exact hs.cell (.there _ (.there _ (.there _ (.here _)))) rfl | exact hs.cell (.there _ (.there _ (.there _ (.there _ (.here _))))) rfl | exact hs.cell (.there _ (.there _ (.there _ (.there _ (.there _ (.here _)))))) rfl)) ?_; clear hf a; intro a hf
                  replace hs := hs.take (A := slB 5 (.slice e5 (((((MAG ++ leB 4 (s.1).toNat) ++ leB 4 (s.2.1).toNat) ++ leB 4 (s.2.2.1).toNat) ++ leB 4 (s.2.2.2.1).toNat) ++ leB 4 (s.2.2.2.2.1).toNat).length ce5) (((((MAG ++ leB 4 (s.1).toNat) ++ leB 4 (s.2.1).toNat) ++ leB 4 (s.2.2.1).toNat) ++ leB 4 (s.2.2.2.1).toNat) ++ leB 4 (s.2.2.2.2.1).toNat)) (by first | exact .here _ | exact .there _ (.here _) | exact .there _ (.there _ (.here _)) | exact .there _ (.there _ (.there _ (.here _))) | exact .there _ (.there _ (.there _ (.there _ (.here _)))) | exact .there _ (.there _ (.there _ (.there _ (.there _ (.here _))))) | exact .there _ (.there _ (.there _ (.there _ (.there _ (.there _ (.here _)))))) | exact .there _ (.there _ (.there _ (.there _ (.there _ (.there _ (.there _ (.here _))))))) | exact .there _ (.there _ (.there _ (.there _ (.there _ (.there _ (.there _ (.there _ (.here _)))))))) | exact .there _ (.there _ (.there _ (.there _ (.there _ (.there _ (.there _ (.there _ (.there _ (.here _))))))))) | exact .there _ (.there _ (.there _ (.there _ (.there _ (.there _ (.there _ (.there _ (.there _ (.there _ (.here _)))))))))) | exact .there _ (.there _ (.there _ (.there _ (.there _ (.there _ (.there _ (.there _ (.there _ (.there _ (.there _ (.here _))))))))))))
                  refine s_do hf rfl (y_call (hf.eval rfl) (hf.evals rfl) Tryd.call45 ((rnum_spec _ _ _ _ _ (((((MAG ++ leB 4 (s.1).toNat) ++ leB 4 (s.2.1).toNat) ++ leB 4 (s.2.2.1).toNat) ++ leB 4 (s.2.2.2.1).toNat) ++ leB 4 (s.2.2.2.2.1).toNat) (s.2.2.2.2.2.1) (by omega) (by omega) (by simp [MAG, leB_len, hdS_len]) hs).mono ?_))
                  rintro e w1 ⟨e6, ce6, rfl, hs⟩
                  refine ⟨_, rfl, ?_⟩; clear hf a; intro a hf
                  refine s_a hf rfl ?_; clear hf a; intro a hf
                  refine s_nil ?_
                  refine then_n ?_
                  refine wp_seq ?_
                  refine wp_region_lit ?_
                  refine s_m hf rfl ?_; clear hf a; intro a hf
                  refine s_v hf (x_fieldAddr fo24_6 (hf.eval rfl)) ?_; clear hf a; intro a hf
                  refine s_r hf (x_load sc22 (hf.eval rfl) (by first | exact hs.cell (.here _) rfl | exact hs.cell (.there _ (.here _)) rfl | exact hs.cell (.there _ (.there _ (.here _))) rfl | exact hs.cell (.there _ (.there _ (.there _ (.here _)))) rfl | exact hs.cell (.there _ (.there _ (.there _ (.there _ (.here _))))) rfl | exact hs.cell (.there _ (.there _ (.there _ (.there _ (.there _ (.here _)))))) rfl)) ?_; clear hf a; intro a hf
                  refine s_v hf (x_conv Tryd.underlying22 Tryd.underlying3 (hf.eval rfl)) ?_; clear hf a; intro a hf
                  replace hf := hf.now (k := 78) (v' := .int .i64 ((s.2.2.2.2.2.2 : Nat) : Int)) rfl (by rw [wrap_i64 (by omega) (by omega)])
                  replace hs := hs.take (A := slB 5 (.slice e6 ((((((MAG ++ leB 4 (s.1).toNat) ++ leB 4 (s.2.1).toNat) ++ leB 4 (s.2.2.1).toNat) ++ leB 4 (s.2.2.2.1).toNat) ++ leB 4 (s.2.2.2.2.1).toNat) ++ leB 4 (s.2.2.2.2.2.1).toNat).length ce6) ((((((MAG ++ leB 4 (s.1).toNat) ++ leB 4 (s.2.1).toNat) ++ leB 4 (s.2.2.1).toNat) ++ leB 4 (s.2.2.2.1).toNat) ++ leB 4 (s.2.2.2.2.1).toNat) ++ leB 4 (s.2.2.2.2.2.1).toNat)) (by first | exact .here _ | exact .there _ (.here _) | exact .there _ (.there _ (.here _)) | exact .there _ (.there _ (.there _ (.here _))) | exact .there _ (.there _ (.there _ (.there _ (.here _)))) | exact .there _ (.there _ (.there _ (.there _ (.there _ (.here _))))) | exact .there _ (.there _ (.there _ (.there _ (.there _ (.there _ (.here _)))))) | exact .there _ (.there _ (.there _ (.there _ (.there _ (.there _ (.there _ (.here _))))))) | exact .there _ (.there _ (.there _ (.there _ (.there _ (.there _ (.there _ (.there _ (.here _)))))))) | exact .there _ (.there _ (.there _ (.there _ (.there _ (.there _ (.there _ (.there _ (.there _ (.here _))))))))) | exact .there _ (.there _ (.there _ (.there _ (.there _ (.there _ (.there _ (.there _ (.there _ (.there _ (.here _)))))))))) | exact .there _ (.there _ (.there _ (.there _ (.there _ (.there _ (.there _ (.there _ (.there _ (.there _ (.there _ (.here _))))))))))))
                  refine s_do hf rfl (y_call (hf.eval rfl) (hf.evals rfl) Tryd.call45 ((rnum_spec _ _ _ _ _ ((((((MAG ++ leB 4 (s.1).toNat) ++ leB 4 (s.2.1).toNat) ++ leB 4 (s.2.2.1).toNat) ++ leB 4 (s.2.2.2.1).toNat) ++ leB 4 (s.2.2.2.2.1).toNat) ++ leB 4 (s.2.2.2.2.2.1).toNat) (((s.2.2.2.2.2.2 : Nat) : Int)) (by omega) (by omega) (by simp [MAG, leB_len, hdS_len]) hs).mono ?_))
                  rintro e w1 ⟨e7, ce7, rfl, hs⟩
                  rw [hd_app] at hs ⊢
                  refine ⟨_, rfl, ?_⟩; clear hf a; intro a hf
                  refine s_a hf rfl ?_; clear hf a; intro a hf
                  refine s_nil ?_
                  refine then_n ?_
                  refine wp_seq ?_
                  refine wp_region_lit ?_
                  refine s_m hf rfl ?_; clear hf a; intro a hf
                  refine s_m hf rfl ?_; clear hf a; intro a hf
                  replace hs := hs.take (A := slB 5 (.slice e7 (hdS s).length ce7) (hdS s)) (by first | exact .here _ | exact .there _ (.here _) | exact .there _ (.there _ (.here _)) | exact .there _ (.there _ (.there _ (.here _))) | exact .there _ (.there _ (.there _ (.there _ (.here _)))) | exact .there _ (.there _ (.there _ (.there _ (.there _ (.here _))))) | exact .there _ (.there _ (.there _ (.there _ (.there _ (.there _ (.here _)))))) | exact .there _ (.there _ (.there _ (.there _ (.there _ (.there _ (.there _ (.here _))))))) | exact .there _ (.there _ (.there _ (.there _ (.there _ (.there _ (.there _ (.there _ (.here _)))))))) | exact .there _ (.there _ (.there _ (.there _ (.there _ (.there _ (.there _ (.there _ (.there _ (.here _))))))))) | exact .there _ (.there _ (.there _ (.there _ (.there _ (.there _ (.there _ (.there _ (.there _ (.there _ (.here _)))))))))) | exact .there _ (.there _ (.there _ (.there _ (.there _ (.there _ (.there _ (.there _ (.there _ (.there _ (.there _ (.here _))))))))))))
                  refine s_do hf rfl (y_call (hf.eval rfl) (hf.evals rfl) Tryd.call46 ((refSum_spec _ _ _ (hdS s) (hs.rdB (.here _) fun h => slB_rd) (by rw [hdS_len]; decide)).mono ?_))
                  rintro e w1 ⟨rfl, hk⟩
                  replace hs := hs.ext hk
                  refine ⟨_, rfl, ?_⟩; clear hf a; intro a hf
                  have hcr := crcU_lt (s := 0) (by decide) (hdS s)
                  refine s_v hf (x_conv Tryd.underlying22 Tryd.underlying3 (hf.eval rfl)) ?_; clear hf a; intro a hf
                  replace hf := hf.now (k := 83) (v' := .int .i64 ((crcU 0 (hdS s) : Nat) : Int)) rfl (by rw [wrap_i64 (by omega) (by omega)])
                  replace hs := hs.take (A := slB 5 (.slice e7 (hdS s).length ce7) (hdS s)) (by first | exact .here _ | exact .there _ (.here _) | exact .there _ (.there _ (.here _)) | exact .there _ (.there _ (.there _ (.here _))) | exact .there _ (.there _ (.there _ (.there _ (.here _)))) | exact .there _ (.there _ (.there _ (.there _ (.there _ (.here _))))) | exact .there _ (.there _ (.there _ (.there _ (.there _ (.there _ (.here _)))))) | exact .there _ (.there _ (.there _ (.there _ (.there _ (.there _ (.there _ (.here _))))))) | exact .there _ (.there _ (.there _ (.there _ (.there _ (.there _ (.there _ (.there _ (.here _)))))))) | exact .there _ (.there _ (.there _ (.there _ (.there _ (.there _ (.there _ (.there _ (.there _ (.here _))))))))) | exact .there _ (.there _ (.there _ (.there _ (.there _ (.there _ (.there _ (.there _ (.there _ (.there _ (.here _)))))))))) | exact .there _ (.there _ (.there _ (.there _ (.there _ (.there _ (.there _ (.there _ (.there _ (.there _ (.there _ (.here _))))))))))))
                  refine s_do hf rfl (y_call (hf.eval rfl) (hf.evals rfl) Tryd.call45 ((rnum_spec _ _ _ _ _ (hdS s) (((crcU 0 (hdS s) : Nat) : Int)) (by omega) (by omega) (by simp [MAG, leB_len, hdS_len]) hs).mono ?_))
                  rintro e w1 ⟨e8, ce8, rfl, hs⟩
                  rw [Int.toNat_natCast, show hdS s ++ leB 4 (crcU 0 (hdS s)) = hcS s from rfl, hcS_len] at hs ⊢
                  refine ⟨_, rfl, ?_⟩; clear hf a; intro a hf
                  refine s_a hf rfl ?_; clear hf a; intro a hf
                  refine s_nil ?_
                  refine then_n ?_
                  refine wp_seq ?_
                  refine wp_block ?_
                  replace hs := St.keep [_] _ hs
                  refine c_loop (L0 := [(1, _), (2, _), (3, _), (5, _), (42, _), (43, _), (51, _), (52, _), (53, _), (54, _), (55, _), (56, _), (57, _), (58, _), (59, _), (60, _), (61, _), (62, _), (63, _), (64, _), (65, _), (66, _), (67, _), (68, _), (69, _), (70, _), (71, _), (72, _), (73, _), (74, _), (75, _), (76, _), (77, _), (78, _), (79, _), (80, _), (81, _), (82, _), (83, _), (84, _)]) (fun M w m => ∃ (k : Nat) (e9 : Option Addr) (c9 : Nat), M = [(4, .slice e9 (40 + k) c9)] ∧ 472 - k = m ∧ k ≤ 472 ∧ St ⟨w0, None_⟩ w [slB 5 (.slice e9 (40 + k) c9) (hcS s ++ List.replicate k 0)]) (M0 := _) (⟨0, e8, ce8, rfl, rfl, Nat.zero_le _, by simpa using hs⟩) (hf.sub ⟨rfl, rfl, rfl, rfl, rfl, rfl, rfl, rfl, rfl, rfl, rfl, rfl, rfl, rfl, rfl, rfl, rfl, rfl, rfl, rfl, rfl, rfl, rfl, rfl, rfl, rfl, rfl, rfl, rfl, rfl, rfl, rfl, rfl, rfl, rfl, rfl, rfl, rfl, rfl, rfl, rfl, trivial⟩) ?_
                  clear hf hs a
                  rintro M m a w ⟨k, e9, c9, rfl, rfl, hk9, hs⟩ hf
                  refine wp_seq ?_
                  refine wp_seq ?_
                  refine wp_region_lit ?_
                  refine s_m hf rfl ?_; clear hf a; intro a hf
                  refine s_v hf (x_len Tryd.underlying25 (hf.eval rfl)) ?_; clear hf a; intro a hf
                  refine s_v hf (x_bin (hf.eval rfl) (hf.eval rfl) (r_lt _ _ _ _)) ?_; clear hf a; intro a hf
                  refine s_nil ?_
                  refine then_n ?_
                  refine c_cond hf rfl (fun hi3 => ?_) (fun hi3 => ?_)
                  · simp only [decide_eq_true_eq, decide_eq_false_iff_not, Bool.not_eq_true', Bool.not_eq_false', Bool.not_eq_true, Int.not_lt, Int.not_le] at hi3
                    refine wp_skip ?_
                    refine then_n ?_
                    refine wp_block ?_
                    refine wp_region_lit ?_
                    refine s_m hf rfl ?_; clear hf a; intro a hf
                    refine s_do hf rfl (y_lit (xs := [.const (.int .u8 0)]) hs sl25 (hf.evals rfl) rfl (by simp [Value.cells]) (by decide) ?_); clear hf hs a; intro b2 w hs a hf
                    refine s_do hf rfl (y_appendB (s := [0]) hs sl25 rfl (hf.eval rfl) (hf.eval rfl) (.there _ (.here _)) (hs.rdB (.here _) fun h hb => rdB_of_bb (T := 5) (l := [0]) hb (by simp) (by simp)) (by simp [hcS_len]; omega) ?_); clear hf hs a; intro v2 w hs hv a hf
                    replace hs := hs.lose (.there _ (.here _))
                    rw [List.append_assoc, ← List.replicate_succ'] at hs
                    obtain ⟨a2, c2, rfl, hc2⟩ := slB_shape hs
                    rw [show (hcS s ++ List.replicate (k + 1) (0 : UInt8)).length = 40 + (k + 1) by rw [List.length_append, hcS_len, List.length_replicate]] at hs hf
                    refine s_a hf rfl ?_; clear hf a; intro a hf
                    refine s_nil ?_
                    refine blk_n ?_
                    exact ⟨_, _, ⟨k + 1, a2, c2, rfl, rfl, by omega, hs⟩, by omega, hf.sub ⟨rfl, rfl, rfl, rfl, rfl, rfl, rfl, rfl, rfl, rfl, rfl, rfl, rfl, rfl, rfl, rfl, rfl, rfl, rfl, rfl, rfl, rfl, rfl, rfl, rfl, rfl, rfl, rfl, rfl, rfl, rfl, rfl, rfl, rfl, rfl, rfl, rfl, rfl, rfl, rfl, rfl, trivial⟩⟩
                  · simp only [decide_eq_true_eq, decide_eq_false_iff_not, Bool.not_eq_true', Bool.not_eq_false', Bool.not_eq_true, Int.not_lt, Int.not_le] at hi3
                    obtain rfl : k = 472 := by omega
                    rw [show hcS s ++ List.replicate 472 0 = secS s from rfl] at hs
                    refine wp_exit ?_
                    refine then_x ?_
                    refine then_x ?_
                    refine blk_x ?_
                    refine then_n ?_
                    refine wp_seq ?_
                    refine wp_region_lit ?_
                    refine s_m hf rfl ?_; clear hf a; intro a hf
                    refine s_a hf rfl ?_; clear hf a; intro a hf
                    refine s_a hf rfl ?_; clear hf a; intro a hf
                    refine s_nil ?_
                    refine then_n ?_
                    refine wp_ret ?_
                    refine r_2 hf Tryd.results11 rfl rfl ?_
                    rw [hE, hV, secS_len]
                    exact ⟨_, _, rfl, hs⟩

end Go.Proofs.YtehakfbfjpolfaaDoor
