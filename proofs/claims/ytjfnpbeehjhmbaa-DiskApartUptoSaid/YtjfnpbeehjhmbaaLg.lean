/- Lists that share no memory: the helpers of DiskApart. -/
import Derived.Test.YtjfnpbeehjhmbaaVS
import Derived.Test.YtjfnpbeehjhmbaaLh
import Derived.Test.YtjfnpbeehjhmbaaProg
import Derived.Test.YtjfnpbeehjhmbaaFacts
set_option maxRecDepth 100000
set_option linter.all false
namespace Go.Proofs.Ytjfnpbeehjhmbaa
open Go Vw
def mkB (j : Nat) : UInt8 := UInt8.ofNat ((10 + j) % 256)
def Mkd (i : Nat) (qs : List Pt) : Prop := ∀ j (h : j < qs.length), j < i → qs[j].2.2 = List.replicate qs[j].2.2.length (mkB j)
theorem Mkd.zero (qs : List Pt) : Mkd 0 qs := fun j h h0 => absurd h0 (Nat.not_lt_zero _)
theorem Mkd.step {i : Nat} {qs : List Pt} (h : Mkd i qs) (hi : i < qs.length) {d : List UInt8} (hd : d = List.replicate d.length (mkB i)) : Mkd (i + 1) (qs.set i (qs[i].1, qs[i].2.1, d)) := fun j hj hji => by
  have hj' : j < qs.length := by simpa using hj
  by_cases e : j = i
  · subst e
    rw [List.getElem_set_self]
    exact hd
  · rw [List.getElem_set_ne (by omega)]
    exact h j hj' (by omega)
theorem all_rep {d : List UInt8} {x : UInt8} {k : Nat} (hk : k = d.length) (h : d.take k = List.replicate k x) : d = List.replicate d.length x := by
  subst hk
  rwa [List.take_length] at h
theorem rep_step {d : List UInt8} {x : UInt8} {k : Nat} (hk : k < d.length) (h : d.take k = List.replicate k x) : (d.set k x).take (k + 1) = List.replicate (k + 1) x := by
  have hk' : k < (d.set k x).length := by simpa using hk
  rw [List.take_succ_eq_append_getElem hk', List.getElem_set_self, List.take_set, List.set_eq_of_length_le (by simp; omega), h, List.replicate_succ']
theorem lens_set {qs : List Pt} {i : Nat} (hi : i < qs.length) {d : List UInt8} (hd : d.length = qs[i].2.2.length) {N : Nat} (h : ∀ p ∈ qs, p.2.2.length ≤ N) : ∀ p ∈ qs.set i (qs[i].1, qs[i].2.1, d), p.2.2.length ≤ N := fun p hp => by
  rcases List.mem_or_eq_of_mem_set hp with h1 | h1
  · exact h p h1
  · subst h1; simp only []; rw [hd]; exact h _ (List.getElem_mem hi)
theorem datA_shut {σ : Sig} {w : World} {R : List Asrt} {T : Nat} {ps : List Pt} {i : Nat} (hi : i < ps.length) (hs : St σ w (slB T ps[i].2.1 ps[i].2.2 :: datA T (ps.take i) :: datA T (ps.drop (i + 1)) :: R)) : St σ w (datA T ps :: R) := by
  have h := datA_close hi hs
  rwa [show ((ps[i].1, ps[i].2.1, ps[i].2.2) : Pt) = ps[i] from rfl, List.set_getElem_self] at h

theorem at_add (b k : Nat) : (⟨b, 0, none⟩ : Addr).add ((k : Int).toNat * 1) = ⟨b, k, none⟩ := by
  rw [Int.toNat_natCast, Nat.mul_one]; unfold Addr.add; split <;> simp_all
theorem rdB_pre {b T c : Nat} {l m : List UInt8} {h : Heaplet} (hb : bb b T (l ++ m) h) (hc : l.length ≤ c) : RdB h (.slice (some ⟨b, 0, none⟩) l.length c) l := by
  have h1 := rdB_of_bb (n := l.length) hb (by simp) hc
  rwa [List.take_left] at h1
theorem rdB_all {b T c : Nat} {l : List UInt8} {h : Heaplet} (hb : bb b T l h) (hc : l.length ≤ c) : RdB h (.slice (some ⟨b, 0, none⟩) l.length c) l := by
  have h1 := rdB_of_bb (n := l.length) hb (Nat.le_refl _) hc
  rwa [List.take_length] at h1
theorem Rdy.bb {σ : Sig} {R R' : List Asrt} {b T c : Nat} {l m : List UInt8} (tk : Take (bb b T (l ++ m)) R R') (hc : l.length ≤ c) : Rdy σ R (.slice (some ⟨b, 0, none⟩) l.length c) l := fun w L hs => hs.rdB (take_append tk L) fun h hb => rdB_pre hb hc
theorem pad_step {l : List UInt8} {k : Nat} (hk : k < 9) : (l ++ (List.replicate k (165 : UInt8) ++ List.replicate (9 - k) 0)).set (l.length + k) 165 = l ++ (List.replicate (k + 1) (165 : UInt8) ++ List.replicate (9 - (k + 1)) 0) := by
  rw [List.set_append_right _ _ (by omega), show l.length + k - l.length = k by omega, List.set_append_right _ _ (by simp), show k - (List.replicate k (165 : UInt8)).length = 0 by simp]
  obtain ⟨q, hq⟩ : ∃ q, 9 - k = q + 1 := ⟨8 - k, by omega⟩
  rw [hq, show 9 - (k + 1) = q by omega, List.replicate_succ (n := q), List.set_cons_zero, List.replicate_succ']
  simp
theorem rep_over {l m : List UInt8} {x : UInt8} {k : Nat} (hk : k < l.length) : (List.replicate k x ++ l.drop k ++ m).set k x = List.replicate (k + 1) x ++ l.drop (k + 1) ++ m := by
  rw [List.set_append_left _ _ (by simp; omega), List.set_append_right _ _ (by simp), show k - (List.replicate k x).length = 0 by simp, List.drop_eq_getElem_cons hk, List.set_cons_zero, List.replicate_succ']
  simp

theorem roomy_spec (w0 : World) (a1 : Option Addr) (c1 : Nat) (l : List UInt8) (hr1 : RdB (hp w0) (.slice a1 l.length c1) l) (hl : l.length ≤ 140737488351232) : Calls Try.prog 35 #[.slice a1 l.length c1] w0 fun e w' => ∃ b, e = .returned (.slice (some ⟨b, 0, none⟩) l.length (l.length + 9)) ∧ St ⟨w0, None_⟩ w' [bb b 5 (l ++ (List.replicate 9 (165 : UInt8)))] := by
  have hs := St.start w0 None_
  refine c_enter (N := 27) Try.func35 rfl Try.ntmps35 (by simp) ?_
  intro a hf
  refine wp_seq ?_
  refine wp_region_lit ?_
  refine s_a hf rfl ?_; clear hf a; intro a hf
  refine s_nil ?_
  refine then_n ?_
  refine wp_seq ?_
  refine wp_region_lit ?_
  refine s_m hf rfl ?_; clear hf a; intro a hf
  refine s_v hf (x_len Try.underlying22 (hf.eval rfl)) ?_; clear hf a; intro a hf
  refine s_v hf (x_bin (hf.eval rfl) (hf.eval rfl) (r_addi _ (by omega) (by omega))) ?_; clear hf a; intro a hf
  refine s_do hf rfl (y_makeB (m := l.length + 9) (c := l.length + 9) hs sl22 (hf.eval rfl) (hf.eval rfl) rfl rfl (by omega) (by omega) ?_); clear hf hs a; intro b w hs a hf
  refine s_a hf rfl ?_; clear hf a; intro a hf
  refine s_nil ?_
  refine then_n ?_
  refine wp_seq ?_
  refine wp_region_lit ?_
  refine s_m hf rfl ?_; clear hf a; intro a hf
  refine s_m hf rfl ?_; clear hf a; intro a hf
  refine s_do hf rfl (y_copyB (o := 0) (cur' := l ++ List.replicate 9 0) hs sl22 (hf.eval rfl) (hf.eval rfl) (fun _ => rfl) (hs.oldB hr1) rfl (.here _) (by simp [spl]) (by simp) ?_); clear hf hs a; intro w hs a hf
  refine s_nil ?_
  refine then_n ?_
  refine wp_seq ?_
  refine wp_seq ?_
  refine wp_region_lit ?_
  refine s_m hf rfl ?_; clear hf a; intro a hf
  refine s_v hf (x_len Try.underlying22 (hf.eval rfl)) ?_; clear hf a; intro a hf
  refine s_a hf rfl ?_; clear hf a; intro a hf
  refine s_nil ?_
  refine then_n ?_
  refine wp_block ?_
  refine c_loop (L0 := [(0, _), (2, _), (3, _)]) (fun M w m => ∃ k : Nat, M = [(4, .int .i64 ((l.length + k : Nat) : Int))] ∧ 9 - k = m ∧ k ≤ 9 ∧ St ⟨w0, None_⟩ w [bb b 5 (l ++ (List.replicate k (165 : UInt8) ++ List.replicate (9 - k) 0))]) (M0 := [(4, .int .i64 (l.length : Int))]) (⟨0, rfl, rfl, by omega, by simpa using hs⟩) (hf.sub ⟨rfl, rfl, rfl, rfl, trivial⟩) ?_
  clear hf hs a
  rintro M m a w ⟨k, rfl, rfl, hk, hs⟩ hf
  refine wp_seq ?_
  refine wp_seq ?_
  refine wp_region_lit ?_
  refine s_m hf rfl ?_; clear hf a; intro a hf
  refine s_m hf rfl ?_; clear hf a; intro a hf
  refine s_v hf (x_len Try.underlying22 (hf.eval rfl)) ?_; clear hf a; intro a hf
  refine s_v hf (x_bin (hf.eval rfl) (hf.eval rfl) (r_lt _ _ _ _)) ?_; clear hf a; intro a hf
  refine s_nil ?_
  refine then_n ?_
  refine c_cond hf rfl (fun hi0 => ?_) (fun hi0 => ?_)
  · simp only [decide_eq_true_eq, decide_eq_false_iff_not, Bool.not_eq_true', Bool.not_eq_false', Bool.not_eq_true, Int.not_lt, Int.not_le] at hi0
    refine wp_skip ?_
    refine then_n ?_
    refine wp_seq ?_
    refine wp_block ?_
    refine wp_region_lit ?_
    refine s_m hf rfl ?_; clear hf a; intro a hf
    refine s_m hf rfl ?_; clear hf a; intro a hf
    refine s_v hf (x_indexAddr sl22 (hf.eval rfl) (hf.eval rfl) (by omega) (by omega)) ?_; clear hf a; intro a hf
    replace hf := hf.now (k := 22) (v' := .pointer (some ⟨b, l.length + k, none⟩)) rfl (by rw [at_add])
    refine s_do0 hf rfl (y_storeB (k := l.length + k) (u := 165) hs sc5 (hf.eval rfl) (hf.eval rfl) rfl (.here _) (by simp; omega) ?_); clear hf hs a; intro w hs a hf
    rw [pad_step (by omega)] at hs
    refine s_nil ?_
    refine blk_n ?_
    refine then_n ?_
    refine wp_region_lit ?_
    refine s_m hf rfl ?_; clear hf a; intro a hf
    refine s_v hf (x_bin (hf.eval rfl) (hf.eval rfl) (r_addi _ (by omega) (by omega))) ?_; clear hf a; intro a hf
    replace hf := hf.now (k := 19) (v' := .int .i64 ((l.length + (k + 1) : Nat) : Int)) rfl (by rw [show (((l.length + k : Nat) : Int) + 1) = ((l.length + (k + 1) : Nat) : Int) by omega])
    refine s_a hf rfl ?_; clear hf a; intro a hf
    refine s_nil ?_
    exact ⟨_, _, ⟨k + 1, rfl, rfl, by omega, hs⟩, by omega, hf.sub ⟨rfl, rfl, rfl, rfl, trivial⟩⟩
  · simp only [decide_eq_true_eq, decide_eq_false_iff_not, Bool.not_eq_true', Bool.not_eq_false', Bool.not_eq_true, Int.not_lt, Int.not_le] at hi0
    obtain rfl : k = 9 := by omega
    rw [show List.replicate (9 - 9) (0 : UInt8) = [] from rfl, List.append_nil] at hs
    refine wp_exit ?_
    refine then_x ?_
    refine then_x ?_
    refine blk_x ?_
    refine then_n ?_
    refine wp_seq ?_
    refine wp_region_lit ?_
    refine s_m hf rfl ?_; clear hf a; intro a hf
    refine s_m hf rfl ?_; clear hf a; intro a hf
    refine s_v hf (x_len Try.underlying22 (hf.eval rfl)) ?_; clear hf a; intro a hf
    refine s_v hf (x_slice_hi sl22 (hf.eval rfl) (hf.eval rfl)  (by omega) (by omega) ) ?_; clear hf a; intro a hf
    refine s_a hf rfl ?_; clear hf a; intro a hf
    refine s_nil ?_
    refine then_n ?_
    refine wp_ret ?_
    refine r_1 hf Try.results35 rfl ?_
    exact ⟨b, rfl, hs⟩

theorem spared_spec (w0 : World) (b n : Nat) (l : List UInt8) (hn : l.length = n) (hr1 : RdB (hp w0) (.slice (some ⟨b, 0, none⟩) (l ++ (List.replicate 9 (165 : UInt8))).length (n + 9)) (l ++ (List.replicate 9 (165 : UInt8)))) (hl : n ≤ 140737488351232) : Calls Try.prog 38 #[.slice (some ⟨b, 0, none⟩) n (n + 9)] w0 fun e w' => e = .returned (.bool true) ∧ Kept w0 w' None_ := by
  have hs := St.start w0 None_
  have hfl : (l ++ (List.replicate 9 (165 : UInt8))).length = n + 9 := by simp [hn]
  rw [hfl] at hr1
  refine c_enter (N := 23) Try.func38 rfl Try.ntmps38 (by simp) ?_
  intro a hf
  refine wp_seq ?_
  refine wp_region_lit ?_
  refine s_a hf rfl ?_; clear hf a; intro a hf
  refine s_nil ?_
  refine then_n ?_
  refine wp_seq ?_
  refine wp_region_lit ?_
  refine s_m hf rfl ?_; clear hf a; intro a hf
  refine s_m hf rfl ?_; clear hf a; intro a hf
  refine s_v hf (x_len Try.underlying22 (hf.eval rfl)) ?_; clear hf a; intro a hf
  refine s_v hf (x_bin (hf.eval rfl) (hf.eval rfl) (r_addi _ (by omega) (by omega))) ?_; clear hf a; intro a hf
  refine s_v hf (x_slice_hi sl22 (hf.eval rfl) (hf.eval rfl)  (by omega) (by omega) ) ?_; clear hf a; intro a hf
  replace hf := hf.now (k := 9) (v' := .slice (some ⟨b, 0, none⟩) (n + 9) (n + 9)) rfl (by rw [show ((n : Int) + 9).toNat = n + 9 by omega])
  refine s_a hf rfl ?_; clear hf a; intro a hf
  refine s_nil ?_
  refine then_n ?_
  refine wp_seq ?_
  refine wp_seq ?_
  refine wp_region_lit ?_
  refine s_m hf rfl ?_; clear hf a; intro a hf
  refine s_v hf (x_len Try.underlying22 (hf.eval rfl)) ?_; clear hf a; intro a hf
  refine s_a hf rfl ?_; clear hf a; intro a hf
  refine s_nil ?_
  refine then_n ?_
  refine wp_block ?_
  refine c_loop (L0 := [(3, _)]) (fun M w m => ∃ k : Nat, M = [(4, .int .i64 ((n + k : Nat) : Int))] ∧ 9 - k = m ∧ k ≤ 9 ∧ St ⟨w0, None_⟩ w []) (M0 := [(4, .int .i64 (n : Int))]) (⟨0, rfl, rfl, by omega, hs⟩) (hf.sub ⟨rfl, rfl, trivial⟩) ?_
  clear hf hs a
  rintro M m a w ⟨k, rfl, rfl, hk, hs⟩ hf
  refine wp_seq ?_
  refine wp_seq ?_
  refine wp_region_lit ?_
  refine s_m hf rfl ?_; clear hf a; intro a hf
  refine s_m hf rfl ?_; clear hf a; intro a hf
  refine s_v hf (x_len Try.underlying22 (hf.eval rfl)) ?_; clear hf a; intro a hf
  refine s_v hf (x_bin (hf.eval rfl) (hf.eval rfl) (r_lt _ _ _ _)) ?_; clear hf a; intro a hf
  refine s_nil ?_
  refine then_n ?_
  refine c_cond hf rfl (fun hi0 => ?_) (fun hi0 => ?_)
  · simp only [decide_eq_true_eq, decide_eq_false_iff_not, Bool.not_eq_true', Bool.not_eq_false', Bool.not_eq_true, Int.not_lt, Int.not_le] at hi0
    have hlt : n + k < (l ++ (List.replicate 9 (165 : UInt8))).length := by omega
    have hlx : (l ++ (List.replicate 9 (165 : UInt8)))[n + k] = 165 := by rw [List.getElem_append_right (by omega), List.getElem_replicate]
    refine wp_skip ?_
    refine then_n ?_
    refine wp_seq ?_
    refine wp_block ?_
    refine wp_seq ?_
    refine wp_region_lit ?_
    refine s_m hf rfl ?_; clear hf a; intro a hf
    refine s_m hf rfl ?_; clear hf a; intro a hf
    refine s_v hf (x_indexAddr sl22 (hf.eval rfl) (hf.eval rfl) (by omega) (by omega)) ?_; clear hf a; intro a hf
    refine s_r hf (x_loadB (i := ((n + k : Nat) : Int)) sc5 (hs.oldB hr1) (hf.eval rfl) (by rw [Int.toNat_natCast]; exact hlt)) ?_; clear hf a; intro a hf
    replace hf := hf.now (k := 21) (v' := u8v 165) rfl (congrArg u8v hlx)
    refine s_v hf (x_bin (hf.eval rfl) (hf.eval rfl) (r_ne _ _ _ _)) ?_; clear hf a; intro a hf
    refine s_nil ?_
    refine then_n ?_
    refine c_cond_f hf rfl (by simp) ?_
    refine wp_skip ?_
    refine blk_n ?_
    refine then_n ?_
    refine wp_region_lit ?_
    refine s_m hf rfl ?_; clear hf a; intro a hf
    refine s_v hf (x_bin (hf.eval rfl) (hf.eval rfl) (r_addi _ (by omega) (by omega))) ?_; clear hf a; intro a hf
    replace hf := hf.now (k := 17) (v' := .int .i64 ((n + (k + 1) : Nat) : Int)) rfl (by rw [show (((n + k : Nat) : Int) + 1) = ((n + (k + 1) : Nat) : Int) by omega])
    refine s_a hf rfl ?_; clear hf a; intro a hf
    refine s_nil ?_
    exact ⟨_, _, ⟨k + 1, rfl, rfl, by omega, hs⟩, by omega, hf.sub ⟨rfl, rfl, trivial⟩⟩
  · simp only [decide_eq_true_eq, decide_eq_false_iff_not, Bool.not_eq_true', Bool.not_eq_false', Bool.not_eq_true, Int.not_lt, Int.not_le] at hi0
    refine wp_exit ?_
    refine then_x ?_
    refine then_x ?_
    refine blk_x ?_
    refine then_n ?_
    refine wp_seq ?_
    refine wp_region_lit ?_
    refine s_a hf rfl ?_; clear hf a; intro a hf
    refine s_nil ?_
    refine then_n ?_
    refine wp_ret ?_
    refine r_1 hf Try.results38 rfl ?_
    exact ⟨rfl, hs.kept⟩

theorem markR_spec (σ : Sig) (w : World) (R : List Asrt) (b n c : Nat) (l tl : List UInt8) (hn : l.length = n) (x : UInt8) (hs : St σ w (bb b 5 (l ++ tl) :: R)) (hl : n ≤ 140737488351232) : Calls Try.prog 37 #[.slice (some ⟨b, 0, none⟩) n c, u8v x] w fun e w' => e = .returned (.tuple #[]) ∧ St σ w' (bb b 5 (List.replicate n x ++ tl) :: R) := by
  have hs : St σ w (bb b 5 (List.replicate 0 x ++ l.drop 0 ++ tl) :: R) := by simpa using hs
  refine c_enter (N := 15) Try.func37 rfl Try.ntmps37 (by simp) ?_
  intro a hf
  refine wp_seq ?_
  refine wp_region_lit ?_
  refine s_a hf rfl ?_; clear hf a; intro a hf
  refine s_nil ?_
  refine then_n ?_
  refine wp_block ?_
  refine c_loop (L0 := [(0, _), (1, _)]) (fun M w m => ∃ k : Nat, M = [(4, .int .i64 (k : Int))] ∧ n - k = m ∧ k ≤ n ∧ St σ w (bb b 5 (List.replicate k x ++ l.drop k ++ tl) :: R)) (M0 := [(4, .int .i64 0)]) (⟨0, rfl, rfl, Nat.zero_le _, hs⟩) (hf.sub ⟨rfl, rfl, rfl, trivial⟩) ?_
  clear hf hs a
  rintro M m a w ⟨k, rfl, rfl, hk, hs⟩ hf
  refine wp_seq ?_
  refine wp_seq ?_
  refine wp_region_lit ?_
  refine s_m hf rfl ?_; clear hf a; intro a hf
  refine s_m hf rfl ?_; clear hf a; intro a hf
  refine s_v hf (x_len Try.underlying22 (hf.eval rfl)) ?_; clear hf a; intro a hf
  refine s_v hf (x_bin (hf.eval rfl) (hf.eval rfl) (r_lt _ _ _ _)) ?_; clear hf a; intro a hf
  refine s_nil ?_
  refine then_n ?_
  refine c_cond hf rfl (fun hi0 => ?_) (fun hi0 => ?_)
  · simp only [decide_eq_true_eq, decide_eq_false_iff_not, Bool.not_eq_true', Bool.not_eq_false', Bool.not_eq_true, Int.not_lt, Int.not_le] at hi0
    refine wp_skip ?_
    refine then_n ?_
    refine wp_seq ?_
    refine wp_block ?_
    refine wp_region_lit ?_
    refine s_m hf rfl ?_; clear hf a; intro a hf
    refine s_m hf rfl ?_; clear hf a; intro a hf
    refine s_m hf rfl ?_; clear hf a; intro a hf
    refine s_v hf (x_indexAddr sl22 (hf.eval rfl) (hf.eval rfl) (by omega) (by omega)) ?_; clear hf a; intro a hf
    replace hf := hf.now (k := 14) (v' := .pointer (some ⟨b, k, none⟩)) rfl (by rw [at_add])
    refine s_do0 hf rfl (y_storeB (k := k) (u := x) hs sc5 (hf.eval rfl) (hf.eval rfl) rfl (.here _) (by simp; omega) ?_); clear hf hs a; intro w hs a hf
    rw [rep_over (by omega)] at hs
    refine s_nil ?_
    refine blk_n ?_
    refine then_n ?_
    refine wp_region_lit ?_
    refine s_m hf rfl ?_; clear hf a; intro a hf
    refine s_v hf (x_bin (hf.eval rfl) (hf.eval rfl) (r_addi _ (by omega) (by omega))) ?_; clear hf a; intro a hf
    refine s_a hf rfl ?_; clear hf a; intro a hf
    refine s_nil ?_
    exact ⟨_, _, ⟨k + 1, rfl, rfl, by omega, hs⟩, by omega, hf.sub ⟨rfl, rfl, rfl, trivial⟩⟩
  · simp only [decide_eq_true_eq, decide_eq_false_iff_not, Bool.not_eq_true', Bool.not_eq_false', Bool.not_eq_true, Int.not_lt, Int.not_le] at hi0
    obtain rfl : k = n := by omega
    rw [List.drop_of_length_le (by omega), List.append_nil] at hs
    refine wp_exit ?_
    refine then_x ?_
    refine then_x ?_
    refine blk_x ?_
    refine r_0n hf Try.results37 ?_
    exact ⟨rfl, hs⟩

theorem markS_spec (σ : Sig) (w : World) (R : List Asrt) (a1 : Option Addr) (n c : Nat) (l : List UInt8) (hn : l.length = n) (x : UInt8) (hs : St σ w (slB 5 (.slice a1 n c) l :: R)) (hl : n ≤ 140737488351232) : Calls Try.prog 37 #[.slice a1 n c, u8v x] w fun e w' => e = .returned (.tuple #[]) ∧ St σ w' (slB 5 (.slice a1 n c) (List.replicate n x) :: R) := by
  have hs : St σ w (sl 5 1 (.slice a1 n c) n ((List.replicate 0 x ++ l.drop 0 ++ []).map u8v) :: R) := by rw [← hn]; unfold slB at hs; simpa [hn] using hs
  refine c_enter (N := 15) Try.func37 rfl Try.ntmps37 (by simp) ?_
  intro a hf
  refine wp_seq ?_
  refine wp_region_lit ?_
  refine s_a hf rfl ?_; clear hf a; intro a hf
  refine s_nil ?_
  refine then_n ?_
  refine wp_block ?_
  refine c_loop (L0 := [(0, _), (1, _)]) (fun M w m => ∃ k : Nat, M = [(4, .int .i64 (k : Int))] ∧ n - k = m ∧ k ≤ n ∧ St σ w (sl 5 1 (.slice a1 n c) n ((List.replicate k x ++ l.drop k ++ []).map u8v) :: R)) (M0 := [(4, .int .i64 0)]) (⟨0, rfl, rfl, Nat.zero_le _, hs⟩) (hf.sub ⟨rfl, rfl, rfl, trivial⟩) ?_
  clear hf hs a
  rintro M m a w ⟨k, rfl, rfl, hk, hs⟩ hf
  refine wp_seq ?_
  refine wp_seq ?_
  refine wp_region_lit ?_
  refine s_m hf rfl ?_; clear hf a; intro a hf
  refine s_m hf rfl ?_; clear hf a; intro a hf
  refine s_v hf (x_len Try.underlying22 (hf.eval rfl)) ?_; clear hf a; intro a hf
  refine s_v hf (x_bin (hf.eval rfl) (hf.eval rfl) (r_lt _ _ _ _)) ?_; clear hf a; intro a hf
  refine s_nil ?_
  refine then_n ?_
  refine c_cond hf rfl (fun hi0 => ?_) (fun hi0 => ?_)
  · simp only [decide_eq_true_eq, decide_eq_false_iff_not, Bool.not_eq_true', Bool.not_eq_false', Bool.not_eq_true, Int.not_lt, Int.not_le] at hi0
    obtain ⟨a1, rfl⟩ := sl_some hs (by omega)
    refine wp_skip ?_
    refine then_n ?_
    refine wp_seq ?_
    refine wp_block ?_
    refine wp_region_lit ?_
    refine s_m hf rfl ?_; clear hf a; intro a hf
    refine s_m hf rfl ?_; clear hf a; intro a hf
    refine s_m hf rfl ?_; clear hf a; intro a hf
    refine s_v hf (x_indexAddr sl22 (hf.eval rfl) (hf.eval rfl) (by omega) (by omega)) ?_; clear hf a; intro a hf
    refine s_do0 hf rfl (y_storeSl (i := k) hs sc5 (hf.eval rfl) (hf.eval rfl) rfl (.here _) (by omega) ?_); clear hf hs a; intro w hs a hf
    rw [show (Value.int .u8 (x.toNat : Int)) = u8v x from rfl, ← List.map_set, rep_over (by omega)] at hs
    refine s_nil ?_
    refine blk_n ?_
    refine then_n ?_
    refine wp_region_lit ?_
    refine s_m hf rfl ?_; clear hf a; intro a hf
    refine s_v hf (x_bin (hf.eval rfl) (hf.eval rfl) (r_addi _ (by omega) (by omega))) ?_; clear hf a; intro a hf
    refine s_a hf rfl ?_; clear hf a; intro a hf
    refine s_nil ?_
    exact ⟨_, _, ⟨k + 1, rfl, rfl, by omega, hs⟩, by omega, hf.sub ⟨rfl, rfl, rfl, trivial⟩⟩
  · simp only [decide_eq_true_eq, decide_eq_false_iff_not, Bool.not_eq_true', Bool.not_eq_false', Bool.not_eq_true, Int.not_lt, Int.not_le] at hi0
    obtain rfl : k = n := by omega
    rw [List.drop_of_length_le (by omega), List.append_nil, List.append_nil] at hs
    refine wp_exit ?_
    refine then_x ?_
    refine then_x ?_
    refine blk_x ?_
    refine r_0n hf Try.results37 ?_
    refine ⟨rfl, ?_⟩
    unfold slB
    rw [List.length_replicate]
    exact hs

theorem marked_spec (w0 : World) (a1 : Option Addr) (n c1 : Nat) (x : UInt8) (l : List UInt8) (hx : l = List.replicate n x) (hr1 : RdB (hp w0) (.slice a1 n c1) l) (hl : n ≤ 140737488351232) : Calls Try.prog 39 #[.slice a1 n c1, u8v x] w0 fun e w' => e = .returned (.bool true) ∧ Kept w0 w' None_ := by
  subst hx
  have hs := St.start w0 None_
  have hr2 : RdB (hp w0) (.slice a1 (List.replicate n x).length c1) (List.replicate n x) := by rw [List.length_replicate]; exact hr1
  refine c_enter (N := 18) Try.func39 rfl Try.ntmps39 (by simp) ?_
  intro a hf
  refine wp_seq ?_
  refine wp_region_lit ?_
  refine s_a hf rfl ?_; clear hf a; intro a hf
  refine s_nil ?_
  refine then_n ?_
  refine wp_seq ?_
  refine wp_seq ?_
  refine wp_region_lit ?_
  refine s_a hf rfl ?_; clear hf a; intro a hf
  refine s_nil ?_
  refine then_n ?_
  refine wp_block ?_
  refine c_loop (L0 := [(0, _), (1, _)]) (fun M w m => ∃ i : Nat, M = [(5, .int .i64 (i : Int))] ∧ n - i = m ∧ i ≤ n ∧ St ⟨w0, None_⟩ w []) (M0 := [(5, .int .i64 0)]) (⟨0, rfl, rfl, Nat.zero_le _, hs⟩) (hf.sub ⟨rfl, rfl, rfl, trivial⟩) ?_
  clear hf hs a
  rintro M m a w ⟨i, rfl, rfl, hi, hs⟩ hf
  refine wp_seq ?_
  refine wp_seq ?_
  refine wp_region_lit ?_
  refine s_m hf rfl ?_; clear hf a; intro a hf
  refine s_m hf rfl ?_; clear hf a; intro a hf
  refine s_v hf (x_len Try.underlying22 (hf.eval rfl)) ?_; clear hf a; intro a hf
  refine s_v hf (x_bin (hf.eval rfl) (hf.eval rfl) (r_lt _ _ _ _)) ?_; clear hf a; intro a hf
  refine s_nil ?_
  refine then_n ?_
  refine c_cond hf rfl (fun hi0 => ?_) (fun hi0 => ?_)
  · simp only [decide_eq_true_eq, decide_eq_false_iff_not, Bool.not_eq_true', Bool.not_eq_false', Bool.not_eq_true, Int.not_lt, Int.not_le] at hi0
    have hlt : i < (List.replicate n x).length := by simp; omega
    obtain ⟨a1, rfl⟩ := hr2.some (by omega)
    have hlx : (List.replicate n x)[i] = x := by simp
    refine wp_skip ?_
    refine then_n ?_
    refine wp_seq ?_
    refine wp_block ?_
    refine wp_seq ?_
    refine wp_region_lit ?_
    refine s_m hf rfl ?_; clear hf a; intro a hf
    refine s_m hf rfl ?_; clear hf a; intro a hf
    refine s_v hf (x_indexAddr sl22 (hf.eval rfl) (hf.eval rfl) (by omega) (by omega)) ?_; clear hf a; intro a hf
    refine s_r hf (x_loadB (i := (i : Int)) sc5 (hs.oldB hr1) (hf.eval rfl) (by simpa using hlt)) ?_; clear hf a; intro a hf
    replace hf := hf.now (k := 15) (v' := u8v x) rfl (congrArg u8v hlx)
    refine s_m hf rfl ?_; clear hf a; intro a hf
    refine s_v hf (x_bin (hf.eval rfl) (hf.eval rfl) (r_ne _ _ _ _)) ?_; clear hf a; intro a hf
    refine s_nil ?_
    refine then_n ?_
    refine c_cond_f hf rfl (by simp) ?_
    refine wp_skip ?_
    refine blk_n ?_
    refine then_n ?_
    refine wp_region_lit ?_
    refine s_m hf rfl ?_; clear hf a; intro a hf
    refine s_v hf (x_bin (hf.eval rfl) (hf.eval rfl) (r_addi _ (by omega) (by omega))) ?_; clear hf a; intro a hf
    refine s_a hf rfl ?_; clear hf a; intro a hf
    refine s_nil ?_
    exact ⟨_, _, ⟨i + 1, rfl, rfl, by omega, hs⟩, by omega, hf.sub ⟨rfl, rfl, rfl, trivial⟩⟩
  · simp only [decide_eq_true_eq, decide_eq_false_iff_not, Bool.not_eq_true', Bool.not_eq_false', Bool.not_eq_true, Int.not_lt, Int.not_le] at hi0
    refine wp_exit ?_
    refine then_x ?_
    refine then_x ?_
    refine blk_x ?_
    refine then_n ?_
    refine wp_seq ?_
    refine wp_region_lit ?_
    refine s_a hf rfl ?_; clear hf a; intro a hf
    refine s_nil ?_
    refine then_n ?_
    refine wp_ret ?_
    refine r_1 hf Try.results39 rfl ?_
    exact ⟨rfl, hs.kept⟩

theorem own_spec (σ : Sig) (w : World) (R : List Asrt) (av : Option Addr) (cv : Nat) (ps : List Pt) (hs : St σ w (sl 22 1 (.slice av ps.length cv) ps.length (ps.flatMap mF) :: datA 5 ps :: R)) (hpl : ps.length ≤ 1000) (hdl : ∀ p ∈ ps, p.2.2.length ≤ 70368744177664) : Calls Try.prog 40 #[.slice av ps.length cv] w fun e w' => e = .returned (.bool true) ∧ St σ w' R := by
  refine c_enter (N := 54) Try.func40 rfl Try.ntmps40 (by simp) ?_
  intro a hf
  refine wp_seq ?_
  refine wp_region_lit ?_
  refine s_a hf rfl ?_; clear hf a; intro a hf
  refine s_nil ?_
  refine then_n ?_
  refine wp_seq ?_
  refine wp_seq ?_
  refine wp_region_lit ?_
  refine s_a hf rfl ?_; clear hf a; intro a hf
  refine s_nil ?_
  refine then_n ?_
  refine wp_block ?_
  refine c_loop (L0 := [(0, _), (2, _)]) (fun M w m => ∃ (i : Nat) (qs : List Pt), M = [(3, .int .i64 (i : Int))] ∧ ps.length - i = m ∧ i ≤ ps.length ∧ qs.length = ps.length ∧ (∀ p ∈ qs, p.2.2.length ≤ 70368744177664) ∧ Mkd i qs ∧ St σ w (sl 22 1 (.slice av ps.length cv) ps.length (qs.flatMap mF) :: datA 5 qs :: R)) (M0 := [(3, .int .i64 0)]) (⟨0, ps, rfl, rfl, Nat.zero_le _, rfl, hdl, Mkd.zero _, hs⟩) (hf.sub ⟨rfl, rfl, rfl, trivial⟩) ?_
  clear hf hs a
  rintro M m a w ⟨i, qs, rfl, rfl, hi, hql, hdl, hmk, hs⟩ hf
  refine wp_seq ?_
  refine wp_seq ?_
  refine wp_region_lit ?_
  refine s_m hf rfl ?_; clear hf a; intro a hf
  refine s_m hf rfl ?_; clear hf a; intro a hf
  refine s_v hf (x_len Try.underlying57 (hf.eval rfl)) ?_; clear hf a; intro a hf
  refine s_v hf (x_bin (hf.eval rfl) (hf.eval rfl) (r_lt _ _ _ _)) ?_; clear hf a; intro a hf
  refine s_nil ?_
  refine then_n ?_
  refine c_cond hf rfl (fun hi0 => ?_) (fun hi0 => ?_)
  · simp only [decide_eq_true_eq, decide_eq_false_iff_not, Bool.not_eq_true', Bool.not_eq_false', Bool.not_eq_true, Int.not_lt, Int.not_le] at hi0
    have hlt : i < qs.length := by omega
    obtain ⟨av, rfl⟩ := sl_some hs (by omega)
    have hpd := hs.datRd (.there _ (.here _)) hlt
    obtain ⟨pa, pk, hpv⟩ := hpd.shape
    have hdi := hdl _ (List.getElem_mem hlt)
    refine wp_skip ?_
    refine then_n ?_
    refine wp_seq ?_
    refine wp_block ?_
    refine wp_region_lit ?_
    refine s_m hf rfl ?_; clear hf a; intro a hf
    refine s_m hf rfl ?_; clear hf a; intro a hf
    refine s_v hf (x_indexAddr sl57 (hf.eval rfl) (hf.eval rfl) (by omega) (by omega)) ?_; clear hf a; intro a hf
    refine s_r hf (x_loadC (i := (i : Int)) hs sc22 (.here _) (hf.eval rfl) (by rw [Int.toNat_natCast]; exact mF_get hlt)) ?_; clear hf a; intro a hf
    replace hf := hf.now (k := 17) (v' := .slice pa qs[i].2.2.length pk) rfl (hpv)
    refine s_m hf rfl ?_; clear hf a; intro a hf
    refine s_v hf (x_bin (hf.eval rfl) (hf.eval rfl) (r_addi _ (by omega) (by omega))) ?_; clear hf a; intro a hf
    replace hf := hf.now (k := 19) (v' := .int .i64 ((10 + i : Nat) : Int)) rfl (by congr 1)
    refine s_v hf (x_convr Try.underlying3 Try.underlying5 (hf.eval rfl) (u8_of .i64 rfl _)) ?_; clear hf a; intro a hf
    replace hf := hf.now (k := 20) (v' := u8v (mkB i)) rfl (rfl)
    replace hs := datA_open (hs.take (.there _ (.here _))) hlt
    rw [hpv] at hs
    refine s_do hf rfl (y_call (hf.eval rfl) (hf.evals rfl) Try.call37 ((markS_spec _ _ _ pa _ pk qs[i].2.2 rfl (mkB i) hs (by omega)).mono ?_))
    rintro e w1 ⟨rfl, hs⟩
    rw [← hpv] at hs
    replace hs := datA_close hlt hs
    replace hs := hs.take (A := sl 22 1 (.slice (some av) ps.length cv) ps.length (qs.flatMap mF)) (by first | exact .here _ | exact .there _ (.here _) | exact .there _ (.there _ (.here _)) | exact .there _ (.there _ (.there _ (.here _))) | exact .there _ (.there _ (.there _ (.there _ (.here _)))) | exact .there _ (.there _ (.there _ (.there _ (.there _ (.here _))))) | exact .there _ (.there _ (.there _ (.there _ (.there _ (.there _ (.here _)))))) | exact .there _ (.there _ (.there _ (.there _ (.there _ (.there _ (.there _ (.here _))))))) | exact .there _ (.there _ (.there _ (.there _ (.there _ (.there _ (.there _ (.there _ (.here _)))))))) | exact .there _ (.there _ (.there _ (.there _ (.there _ (.there _ (.there _ (.there _ (.there _ (.here _))))))))) | exact .there _ (.there _ (.there _ (.there _ (.there _ (.there _ (.there _ (.there _ (.there _ (.there _ (.here _)))))))))) | exact .there _ (.there _ (.there _ (.there _ (.there _ (.there _ (.there _ (.there _ (.there _ (.there _ (.there _ (.here _))))))))))))
    refine ⟨_, rfl, ?_⟩; clear hf a; intro a hf
    refine s_nil ?_
    refine blk_n ?_
    refine then_n ?_
    refine wp_region_lit ?_
    refine s_m hf rfl ?_; clear hf a; intro a hf
    refine s_v hf (x_bin (hf.eval rfl) (hf.eval rfl) (r_addi _ (by omega) (by omega))) ?_; clear hf a; intro a hf
    refine s_a hf rfl ?_; clear hf a; intro a hf
    refine s_nil ?_
    exact ⟨_, _, ⟨i + 1, qs.set i (qs[i].1, qs[i].2.1, (List.replicate qs[i].2.2.length (mkB i))), rfl, rfl, by omega, by simpa using hql, lens_set hlt (by simp) hdl, hmk.step hlt (by simp), by rw [set_vals hlt]; exact hs⟩, by omega, hf.sub ⟨rfl, rfl, rfl, trivial⟩⟩
  · simp only [decide_eq_true_eq, decide_eq_false_iff_not, Bool.not_eq_true', Bool.not_eq_false', Bool.not_eq_true, Int.not_lt, Int.not_le] at hi0
    refine wp_exit ?_
    refine then_x ?_
    refine then_x ?_
    refine blk_x ?_
    refine then_n ?_
    refine wp_seq ?_
    refine wp_seq ?_
    refine wp_region_lit ?_
    refine s_a hf rfl ?_; clear hf a; intro a hf
    refine s_nil ?_
    refine then_n ?_
    refine wp_block ?_
    replace hmk : Mkd ps.length qs := by rw [show ps.length = i by omega]; exact hmk
    clear hi0 hi
    refine c_loop (L0 := [(0, _), (2, _), (3, _), (8, _), (9, _), (10, _), (11, _)]) (fun M w m => ∃ i : Nat, M = [(4, .int .i64 (i : Int))] ∧ ps.length - i = m ∧ i ≤ ps.length ∧ St σ w (sl 22 1 (.slice av ps.length cv) ps.length (qs.flatMap mF) :: datA 5 qs :: R)) (M0 := [(4, .int .i64 0)]) (⟨0, rfl, rfl, Nat.zero_le _, hs⟩) (hf.sub ⟨rfl, rfl, rfl, rfl, rfl, rfl, rfl, rfl, trivial⟩) ?_
    clear hf hs a
    rintro M m a w ⟨i, rfl, rfl, hi, hs⟩ hf
    refine wp_seq ?_
    refine wp_seq ?_
    refine wp_region_lit ?_
    refine s_m hf rfl ?_; clear hf a; intro a hf
    refine s_m hf rfl ?_; clear hf a; intro a hf
    refine s_v hf (x_len Try.underlying57 (hf.eval rfl)) ?_; clear hf a; intro a hf
    refine s_v hf (x_bin (hf.eval rfl) (hf.eval rfl) (r_lt _ _ _ _)) ?_; clear hf a; intro a hf
    refine s_nil ?_
    refine then_n ?_
    refine c_cond hf rfl (fun hi1 => ?_) (fun hi1 => ?_)
    · simp only [decide_eq_true_eq, decide_eq_false_iff_not, Bool.not_eq_true', Bool.not_eq_false', Bool.not_eq_true, Int.not_lt, Int.not_le] at hi1
      have hlt : i < qs.length := by omega
      obtain ⟨av, rfl⟩ := sl_some hs (by omega)
      have hpd := hs.datRd (.there _ (.here _)) hlt
      obtain ⟨pa, pk, hpv⟩ := hpd.shape
      have hdi := hdl _ (List.getElem_mem hlt)
      replace hs := datA_open (hs.take (.there _ (.here _))) hlt
      rw [hpv] at hs
      replace hs := hs.twoB_start
      refine wp_skip ?_
      refine then_n ?_
      refine wp_seq ?_
      refine wp_block ?_
      refine wp_seq ?_
      refine wp_region_lit ?_
      refine s_m hf rfl ?_; clear hf a; intro a hf
      refine s_m hf rfl ?_; clear hf a; intro a hf
      refine s_v hf (x_indexAddr sl57 (hf.eval rfl) (hf.eval rfl) (by omega) (by omega)) ?_; clear hf a; intro a hf
      refine s_r hf (x_loadC (i := (i : Int)) hs sc22 (.there _ (.there _ (.there _ (.here _)))) (hf.eval rfl) (by rw [Int.toNat_natCast]; exact mF_get hlt)) ?_; clear hf a; intro a hf
      replace hf := hf.now (k := 31) (v' := .slice pa qs[i].2.2.length pk) rfl (hpv)
      refine s_a hf rfl ?_; clear hf a; intro a hf
      refine s_nil ?_
      refine then_n ?_
      refine wp_seq ?_
      refine wp_region_lit ?_
      refine s_a hf rfl ?_; clear hf a; intro a hf
      refine s_nil ?_
      refine then_n ?_
      refine wp_block ?_
      refine c_loop (L0 := [(0, _), (2, _), (3, _), (4, _), (8, _), (9, _), (10, _), (11, _), (22, _), (23, _), (24, _), (25, _), (28, _), (29, _), (30, _), (31, _)]) (fun M w m => ∃ (k : Nat) (v2 : Value), M = [(5, v2), (6, .int .i64 (k : Int))] ∧ 99 - k = m ∧ k ≤ 99 ∧ St σ w (twoB 5 (.slice pa qs[i].2.2.length pk) qs[i].2.2 v2 (qs[i].2.2 ++ List.replicate k 200) :: datA 5 (qs.take i) :: datA 5 (qs.drop (i + 1)) :: sl 22 1 (.slice (some av) ps.length cv) ps.length (qs.flatMap mF) :: R)) (M0 := _) (⟨0, _, rfl, rfl, by omega, by simpa using hs⟩) (hf.sub ⟨rfl, rfl, rfl, rfl, rfl, rfl, rfl, rfl, rfl, rfl, rfl, rfl, rfl, rfl, rfl, rfl, rfl, rfl, trivial⟩) ?_
      clear hf hs a
      rintro M m a w ⟨k, v2, rfl, rfl, hk, hs⟩ hf
      refine wp_seq ?_
      refine wp_seq ?_
      refine wp_region_lit ?_
      refine s_m hf rfl ?_; clear hf a; intro a hf
      refine s_v hf (x_bin (hf.eval rfl) (hf.eval rfl) (r_lt _ _ _ _)) ?_; clear hf a; intro a hf
      refine s_nil ?_
      refine then_n ?_
      refine c_cond hf rfl (fun hi2 => ?_) (fun hi2 => ?_)
      · simp only [decide_eq_true_eq, decide_eq_false_iff_not, Bool.not_eq_true', Bool.not_eq_false', Bool.not_eq_true, Int.not_lt, Int.not_le] at hi2
        refine wp_skip ?_
        refine then_n ?_
        refine wp_seq ?_
        refine wp_block ?_
        refine wp_region_lit ?_
        refine s_m hf rfl ?_; clear hf a; intro a hf
        refine s_do hf rfl (y_lit (xs := [.const (.int .u8 200)]) hs sl22 (hf.evals rfl) rfl (by simp [Value.cells]) (by decide) ?_); clear hf hs a; intro b2 w hs a hf
        refine s_do hf rfl (y_appendB2 (s := [200]) hs sl22 rfl (hf.eval rfl) (hf.eval rfl) (.there _ (.here _)) (hs.rdB (.here _) fun h hb => rdB_of_bb (T := 5) (l := [200]) hb (by simp) (by simp)) (by simp; omega) ?_); clear hf hs a; intro v3 w hs a hf
        replace hs := hs.lose (.there _ (.here _))
        rw [List.append_assoc, ← List.replicate_succ'] at hs
        refine s_a hf rfl ?_; clear hf a; intro a hf
        refine s_nil ?_
        refine blk_n ?_
        refine then_n ?_
        refine wp_region_lit ?_
        refine s_m hf rfl ?_; clear hf a; intro a hf
        refine s_v hf (x_bin (hf.eval rfl) (hf.eval rfl) (r_addi _ (by omega) (by omega))) ?_; clear hf a; intro a hf
        refine s_a hf rfl ?_; clear hf a; intro a hf
        refine s_nil ?_
        exact ⟨_, _, ⟨k + 1, _, rfl, rfl, by omega, hs⟩, by omega, hf.sub ⟨rfl, rfl, rfl, rfl, rfl, rfl, rfl, rfl, rfl, rfl, rfl, rfl, rfl, rfl, rfl, rfl, rfl, rfl, trivial⟩⟩
      · simp only [decide_eq_true_eq, decide_eq_false_iff_not, Bool.not_eq_true', Bool.not_eq_false', Bool.not_eq_true, Int.not_lt, Int.not_le] at hi2
        replace hs := hs.twoB_fst
        rw [← hpv] at hs
        replace hs := datA_shut hlt hs
        replace hs := hs.take (A := sl 22 1 (.slice (some av) ps.length cv) ps.length (qs.flatMap mF)) (by first | exact .here _ | exact .there _ (.here _) | exact .there _ (.there _ (.here _)) | exact .there _ (.there _ (.there _ (.here _))) | exact .there _ (.there _ (.there _ (.there _ (.here _)))) | exact .there _ (.there _ (.there _ (.there _ (.there _ (.here _))))) | exact .there _ (.there _ (.there _ (.there _ (.there _ (.there _ (.here _)))))) | exact .there _ (.there _ (.there _ (.there _ (.there _ (.there _ (.there _ (.here _))))))) | exact .there _ (.there _ (.there _ (.there _ (.there _ (.there _ (.there _ (.there _ (.here _)))))))) | exact .there _ (.there _ (.there _ (.there _ (.there _ (.there _ (.there _ (.there _ (.there _ (.here _))))))))) | exact .there _ (.there _ (.there _ (.there _ (.there _ (.there _ (.there _ (.there _ (.there _ (.there _ (.here _)))))))))) | exact .there _ (.there _ (.there _ (.there _ (.there _ (.there _ (.there _ (.there _ (.there _ (.there _ (.there _ (.here _))))))))))))
        refine wp_exit ?_
        refine then_x ?_
        refine then_x ?_
        refine blk_x ?_
        refine blk_n ?_
        refine then_n ?_
        refine wp_region_lit ?_
        refine s_m hf rfl ?_; clear hf a; intro a hf
        refine s_v hf (x_bin (hf.eval rfl) (hf.eval rfl) (r_addi _ (by omega) (by omega))) ?_; clear hf a; intro a hf
        refine s_a hf rfl ?_; clear hf a; intro a hf
        refine s_nil ?_
        exact ⟨_, _, ⟨i + 1, rfl, rfl, by omega, hs⟩, by omega, hf.sub ⟨rfl, rfl, rfl, rfl, rfl, rfl, rfl, rfl, trivial⟩⟩
    · simp only [decide_eq_true_eq, decide_eq_false_iff_not, Bool.not_eq_true', Bool.not_eq_false', Bool.not_eq_true, Int.not_lt, Int.not_le] at hi1
      refine wp_exit ?_
      refine then_x ?_
      refine then_x ?_
      refine blk_x ?_
      refine then_n ?_
      refine wp_seq ?_
      refine wp_seq ?_
      refine wp_region_lit ?_
      refine s_a hf rfl ?_; clear hf a; intro a hf
      refine s_nil ?_
      refine then_n ?_
      refine wp_block ?_
      refine c_loop (L0 := [(0, _), (3, _), (4, _), (8, _), (9, _), (10, _), (11, _), (22, _), (23, _), (24, _), (25, _)]) (fun M w m => ∃ j : Nat, M = [(7, .int .i64 (j : Int))] ∧ ps.length - j = m ∧ j ≤ ps.length ∧ St σ w (sl 22 1 (.slice av ps.length cv) ps.length (qs.flatMap mF) :: datA 5 qs :: R)) (M0 := [(7, .int .i64 0)]) (⟨0, rfl, rfl, Nat.zero_le _, hs⟩) (hf.sub ⟨rfl, rfl, rfl, rfl, rfl, rfl, rfl, rfl, rfl, rfl, rfl, rfl, trivial⟩) ?_
      clear hf hs a
      rintro M m a w ⟨j, rfl, rfl, hj, hs⟩ hf
      refine wp_seq ?_
      refine wp_seq ?_
      refine wp_region_lit ?_
      refine s_m hf rfl ?_; clear hf a; intro a hf
      refine s_m hf rfl ?_; clear hf a; intro a hf
      refine s_v hf (x_len Try.underlying57 (hf.eval rfl)) ?_; clear hf a; intro a hf
      refine s_v hf (x_bin (hf.eval rfl) (hf.eval rfl) (r_lt _ _ _ _)) ?_; clear hf a; intro a hf
      refine s_nil ?_
      refine then_n ?_
      refine c_cond hf rfl (fun hi3 => ?_) (fun hi3 => ?_)
      · simp only [decide_eq_true_eq, decide_eq_false_iff_not, Bool.not_eq_true', Bool.not_eq_false', Bool.not_eq_true, Int.not_lt, Int.not_le] at hi3
        have hlt : j < qs.length := by omega
        obtain ⟨av, rfl⟩ := sl_some hs (by omega)
        have hpd := hs.datRd (.there _ (.here _)) hlt
        obtain ⟨pa, pk, hpv⟩ := hpd.shape
        have hdi := hdl _ (List.getElem_mem hlt)
        refine wp_skip ?_
        refine then_n ?_
        refine wp_seq ?_
        refine wp_block ?_
        refine wp_seq ?_
        refine wp_region_lit ?_
        refine s_m hf rfl ?_; clear hf a; intro a hf
        refine s_m hf rfl ?_; clear hf a; intro a hf
        refine s_v hf (x_indexAddr sl57 (hf.eval rfl) (hf.eval rfl) (by omega) (by omega)) ?_; clear hf a; intro a hf
        refine s_r hf (x_loadC (i := (j : Int)) hs sc22 (.here _) (hf.eval rfl) (by rw [Int.toNat_natCast]; exact mF_get hlt)) ?_; clear hf a; intro a hf
        replace hf := hf.now (k := 48) (v' := .slice pa qs[j].2.2.length pk) rfl (hpv)
        refine s_m hf rfl ?_; clear hf a; intro a hf
        refine s_v hf (x_bin (hf.eval rfl) (hf.eval rfl) (r_addi _ (by omega) (by omega))) ?_; clear hf a; intro a hf
        replace hf := hf.now (k := 50) (v' := .int .i64 ((10 + j : Nat) : Int)) rfl (by congr 1)
        refine s_v hf (x_convr Try.underlying3 Try.underlying5 (hf.eval rfl) (u8_of .i64 rfl _)) ?_; clear hf a; intro a hf
        replace hf := hf.now (k := 51) (v' := u8v (mkB j)) rfl (rfl)
        refine s_do hf rfl (y_call (hf.eval rfl) (hf.evals rfl) Try.call39 ((marked_spec _ pa qs[j].2.2.length pk (mkB j) qs[j].2.2 (hmk j hlt (by omega)) (by rw [← hpv]; exact hs.datRd (.there _ (.here _)) hlt) (by omega)).mono ?_))
        rintro e w1 ⟨rfl, hk9⟩
        replace hs := hs.ext hk9
        refine ⟨_, rfl, ?_⟩; clear hf a; intro a hf
        refine s_v hf (x_not (hf.eval rfl)) ?_; clear hf a; intro a hf
        refine s_nil ?_
        refine then_n ?_
        refine c_cond_f hf rfl (by simp) ?_
        refine wp_skip ?_
        refine blk_n ?_
        refine then_n ?_
        refine wp_region_lit ?_
        refine s_m hf rfl ?_; clear hf a; intro a hf
        refine s_v hf (x_bin (hf.eval rfl) (hf.eval rfl) (r_addi _ (by omega) (by omega))) ?_; clear hf a; intro a hf
        refine s_a hf rfl ?_; clear hf a; intro a hf
        refine s_nil ?_
        exact ⟨_, _, ⟨j + 1, rfl, rfl, by omega, hs⟩, by omega, hf.sub ⟨rfl, rfl, rfl, rfl, rfl, rfl, rfl, rfl, rfl, rfl, rfl, rfl, trivial⟩⟩
      · simp only [decide_eq_true_eq, decide_eq_false_iff_not, Bool.not_eq_true', Bool.not_eq_false', Bool.not_eq_true, Int.not_lt, Int.not_le] at hi3
        refine wp_exit ?_
        refine then_x ?_
        refine then_x ?_
        refine blk_x ?_
        refine then_n ?_
        refine wp_seq ?_
        refine wp_region_lit ?_
        refine s_a hf rfl ?_; clear hf a; intro a hf
        refine s_nil ?_
        refine then_n ?_
        refine wp_ret ?_
        refine r_1 hf Try.results40 rfl ?_
        exact ⟨rfl, hs.drop.drop⟩

end Go.Proofs.Ytjfnpbeehjhmbaa
