/- The small proof library: no sector is torn. -/
import Derived.Test.YtehakfbfjpolfaaDoorVQ
set_option linter.all false
namespace Vw
open Go
structure Torn (s : DS) (ms : List (List UInt8)) : Prop where
  full : ∀ x, s.now.getD x 0 = vis (secP s.pcs (x / 512)) x (s.dur.getD x 0)
  secs : ∀ sec k, k ≤ (secP s.pcs sec).length → ∃ m ∈ ms, ∀ x, x / 512 = sec → m.getD x 0 = vis ((secP s.pcs sec).take k) x (s.dur.getD x 0)
  szd : ∃ m ∈ ms, m.length = s.dur.length
  szs : ∀ z ∈ s.sizes, ∃ m ∈ ms, m.length = z
theorem torn_new (image : List UInt8) (room : Int) : Torn (newS image room) [image] :=
  ⟨fun x => rfl, fun sec k hk => ⟨image, by simp, fun x _ => by simp [newS, secP, vis]⟩, ⟨image, by simp, rfl⟩, fun z hz => by simp [newS] at hz⟩
theorem torn_same {s t : DS} {ms : List (List UInt8)} (h : Torn s ms) (h1 : t.now = s.now) (h2 : t.dur = s.dur) (h3 : t.pcs = s.pcs) (h4 : t.sizes = s.sizes) : Torn t (ms ++ [t.now]) := by
  refine ⟨fun x => by rw [h1, h2, h3]; exact h.full x, fun sec k hk => ?_, ?_, fun z hz => ?_⟩
  · rw [h3] at hk ⊢
    rw [h2]
    obtain ⟨m, hm, hx⟩ := h.secs sec k hk
    exact ⟨m, by simp [hm], hx⟩
  · obtain ⟨m, hm, hx⟩ := h.szd
    exact ⟨m, by simp [hm], by rw [h2]; exact hx⟩
  · rw [h4] at hz
    obtain ⟨m, hm, hx⟩ := h.szs z hz
    exact ⟨m, by simp [hm], hx⟩
theorem cut_ge : ∀ (n at_ : Nat) (l : List UInt8), l.length ≤ n → ∀ p ∈ cut at_ l, at_ ≤ p.1
  | 0, at_, l, hn, p, hp => by
    have : l = [] := List.eq_nil_of_length_eq_zero (by omega)
    subst this; rw [cut_nil] at hp; cases hp
  | n + 1, at_, l, hn, p, hp => by
    by_cases e : l = []
    · subst e; rw [cut_nil] at hp; cases hp
    · have hl : 0 < l.length := List.length_pos_iff.2 e
      have hs := secN_pos (at_ := at_) hl
      rw [cut_cons e] at hp
      rcases List.mem_cons.1 hp with rfl | hp
      · exact Nat.le_refl _
      · have := cut_ge n (at_ + secN at_ l.length) (l.drop (secN at_ l.length)) (by rw [List.length_drop]; omega) p hp
        omega
theorem cut_sec : ∀ (n at_ : Nat) (l : List UInt8), l.length ≤ n → ∀ sec, (secP (cut at_ l) sec).length ≤ 1
  | 0, at_, l, hn, sec => by
    have : l = [] := List.eq_nil_of_length_eq_zero (by omega)
    subst this; rw [cut_nil]; simp [secP]
  | n + 1, at_, l, hn, sec => by
    by_cases e : l = []
    · subst e; rw [cut_nil]; simp [secP]
    · have hl : 0 < l.length := List.length_pos_iff.2 e
      have hs := secN_pos (at_ := at_) hl
      have hs2 := secN_le at_ l.length
      have ih := cut_sec n (at_ + secN at_ l.length) (l.drop (secN at_ l.length)) (by rw [List.length_drop]; omega) sec
      rw [cut_cons e]
      by_cases h5 : at_ / 512 = sec
      · have e2 : secP (cut (at_ + secN at_ l.length) (l.drop (secN at_ l.length))) sec = [] := by
          unfold secP
          rw [List.filter_eq_nil_iff]
          intro p hp
          have hge := cut_ge _ _ _ (Nat.le_refl _) p hp
          by_cases hz : l.length = secN at_ l.length
          · rw [← hz, List.drop_length, cut_nil] at hp; cases hp
          · have : secN at_ l.length = (at_ / 512 + 1) * 512 - at_ := by unfold secN at hz ⊢; omega
            simp; omega
        have e3 : secP ((at_, l.take (secN at_ l.length)) :: cut (at_ + secN at_ l.length) (l.drop (secN at_ l.length))) sec = (at_, l.take (secN at_ l.length)) :: secP (cut (at_ + secN at_ l.length) (l.drop (secN at_ l.length))) sec := by simp [secP, h5]
        rw [e3, e2]; simp
      · have e3 : secP ((at_, l.take (secN at_ l.length)) :: cut (at_ + secN at_ l.length) (l.drop (secN at_ l.length))) sec = secP (cut (at_ + secN at_ l.length) (l.drop (secN at_ l.length))) sec := by simp [secP, h5]
        rw [e3]; exact ih
theorem torn_lay {s t : DS} {ms : List (List UInt8)} (h : Torn s ms) {at_ : Nat} {data : List UInt8} (h1 : t.now = (layS s at_ data).now) (h2 : t.dur = s.dur) (h3 : t.pcs = s.pcs ++ cut at_ data) (h4 : t.sizes = s.sizes ∨ t.sizes = s.sizes ++ [t.now.length]) : Torn t (ms ++ [t.now]) := by
  have hfull : ∀ x, t.now.getD x 0 = vis (secP t.pcs (x / 512)) x (t.dur.getD x 0) := by
    intro x
    rw [h1, h2, h3, secP_append, vis_append, cut_vis data.length at_ data (Nat.le_refl _)]
    unfold layS
    simp only
    rw [getD_spl _ _ _ (by rw [ext_length]; omega), getD_ext, h.full x]
  refine ⟨hfull, fun sec k hk => ?_, ?_, fun z hz => ?_⟩
  · by_cases hle : k ≤ (secP s.pcs sec).length
    · obtain ⟨m, hm, hx⟩ := h.secs sec k hle
      refine ⟨m, by simp [hm], fun x hx5 => ?_⟩
      rw [hx x hx5, h2, h3, secP_append, List.take_append_of_le_length hle]
    · have hc := cut_sec data.length at_ data (Nat.le_refl _) sec
      have hlen : (secP t.pcs sec).length = (secP s.pcs sec).length + (secP (cut at_ data) sec).length := by rw [h3, secP_append, List.length_append]
      refine ⟨t.now, by simp, fun x hx5 => ?_⟩
      rw [hfull x, hx5, List.take_of_length_le (by omega)]
  · obtain ⟨m, hm, hx⟩ := h.szd
    exact ⟨m, by simp [hm], by rw [h2]; exact hx⟩
  · rcases h4 with h4 | h4
    · rw [h4] at hz
      obtain ⟨m, hm, hx⟩ := h.szs z hz
      exact ⟨m, by simp [hm], hx⟩
    · rw [h4] at hz
      rcases List.mem_append.1 hz with hz | hz
      · obtain ⟨m, hm, hx⟩ := h.szs z hz
        exact ⟨m, by simp [hm], hx⟩
      · have hz9 : z = t.now.length := by simpa using hz
        exact ⟨t.now, by simp, hz9.symm⟩
theorem sized_sizes (s : DS) (n : Nat) : (sized s n).sizes = s.sizes ∨ (sized s n).sizes = s.sizes ++ [(sized s n).now.length] := by
  unfold sized; split
  · exact .inr rfl
  · exact .inl rfl
theorem torn_step {s : DS} {ms : List (List UInt8)} (h : Torn s ms) (hf : Free s) (o : DOp) (hsh : ¬ (o.1 = 3 ∧ o.2.1 < (s.now.length : Int))) : Torn (chS s o).2 ((if o.1 = 4 then [] else ms) ++ [(chS s o).2.now]) := by
  have e := spent_now s
  have hsp : Torn (spent s) (ms ++ [(spent s).now]) := torn_same h e.1 e.2.2.1 e.2.2.2.1 e.2.2.2.2
  have hself : Torn s (ms ++ [s.now]) := torn_same h rfl rfl rfl rfl
  by_cases h4 : o.1 = 4
  · rw [chS_4 h4, if_pos h4, syS_some hf.dead (show s.fuse ≠ 0 by have := hf.fuse; omega)]
    have hn : (spent s).now = s.now := e.1
    refine ⟨fun x => ?_, fun sec k hk => ⟨(spent s).now, by simp, fun x _ => ?_⟩, ⟨(spent s).now, by simp, ?_⟩, fun z hz => by simp at hz⟩
    · show (spent s).now.getD x 0 = vis (secP [] (x / 512)) x (s.now.getD x 0)
      rw [hn]; rfl
    · show (spent s).now.getD x 0 = vis ((secP [] sec).take k) x (s.now.getD x 0)
      rw [hn]; simp [secP, vis]
    · show (spent s).now.length = s.now.length
      rw [hn]
  · rw [if_neg h4]
    by_cases h2 : o.1 = 2
    · rw [chS_2 h2]
      unfold wrS
      rw [if_neg (by simp [hf.dead])]
      split
      · exact hself
      · split
        · exact hself
        · rw [if_neg (show ¬ s.fuse = 0 by have := hf.fuse; omega)]
          split
          · exact hsp
          · have hz := sized_same (layW (spent s) o.2.1.toNat (opD o)) s.now.length
            have hq := sized_sizes (layW (spent s) o.2.1.toNat (opD o)) s.now.length
            have key : ∀ (at_ : Nat) (data : List UInt8), layW (spent s) o.2.1.toNat (opD o) = layS (spent s) at_ data → Torn (sized (layW (spent s) o.2.1.toNat (opD o)) s.now.length) (ms ++ [(sized (layW (spent s) o.2.1.toNat (opD o)) s.now.length).now]) := by
              intro at_ data hl
              refine torn_lay (at_ := at_) (data := data) h ?_ ?_ ?_ ?_
              · rw [hz.1, hl]; unfold layS; simp only [e.1]
              · rw [hz.2.2.1, hl]; exact e.2.2.1
              · rw [hz.2.1, hl]; show (spent s).pcs ++ _ = _; rw [e.2.2.2.1]
              · have hs3 : (layW (spent s) o.2.1.toNat (opD o)).sizes = s.sizes := by rw [hl]; exact e.2.2.2.2
                rw [hs3] at hq; exact hq
            unfold layW at key ⊢
            split at key
            · rename_i hc
              rw [if_pos hc]
              exact key _ _ rfl
            · rename_i hc
              rw [if_neg hc]
              exact key _ _ rfl
    · by_cases h3 : o.1 = 3
      · rw [chS_3 h3]
        unfold trS
        rw [if_neg (by simp [hf.dead])]
        split
        · exact hself
        · split
          · exact hself
          · rw [if_neg (show ¬ s.fuse = 0 by have := hf.fuse; omega)]
            have hge : (s.now.length : Int) ≤ o.2.1 := by omega
            have hz := sized_same (trN (spent s) o.2.1.toNat) s.now.length
            have hq := sized_sizes (trN (spent s) o.2.1.toNat) s.now.length
            have hn : (spent s).now.length = s.now.length := by rw [e.1]
            by_cases hup : s.now.length < o.2.1.toNat
            · have hl : trN (spent s) o.2.1.toNat = layS (spent s) (spent s).now.length (List.replicate (o.2.1.toNat - (spent s).now.length) 0) := by
                unfold trN
                rw [trC_up (by omega)]
                rw [List.take_of_length_le (by rw [layS_len]; simp; omega)]
              refine torn_lay (at_ := (spent s).now.length) (data := List.replicate (o.2.1.toNat - (spent s).now.length) 0) h ?_ ?_ ?_ ?_
              · rw [hz.1, hl]; unfold layS; simp only [e.1]
              · rw [hz.2.2.1, hl]; exact e.2.2.1
              · rw [hz.2.1, hl]; show (spent s).pcs ++ _ = _; rw [e.2.2.2.1]
              · have hs3 : (trN (spent s) o.2.1.toNat).sizes = s.sizes := by rw [hl]; exact e.2.2.2.2
                rw [hs3] at hq; exact hq
            · have hl : trN (spent s) o.2.1.toNat = spent s := by
                unfold trN
                rw [trC_in (by omega), List.take_of_length_le (by omega)]
              rw [hl, sized_eq hn]
              exact hsp
      · rw [chS_0 h2 h3 h4]
        exact hself
/-- What a crash leaves was so at some moment, sector by sector. -/
theorem torn_out {s : DS} {ms : List (List UInt8)} (h : Torn s ms) (c : Ch) : (∃ m ∈ ms, m.length = (outS s c).length) ∧ ∀ sec, ∃ m ∈ ms, ∀ x, x / 512 = sec → x < (outS s c).length → (outS s c).getD x 0 = m.getD x 0 := by
  constructor
  · rw [outS_length]
    by_cases hx : 0 < szIx s c
    · rw [outN_some hx]
      have hlt : (szIx s c).toNat - 1 < s.sizes.length := by unfold szIx at hx ⊢; omega
      have := h.szs _ (List.getElem_mem hlt)
      rw [List.getD_eq_getElem?_getD, List.getElem?_eq_getElem hlt]
      exact this
    · rw [outN_none hx]; exact h.szd
  · intro sec
    obtain ⟨m, hm, hx⟩ := h.secs sec (min (keepOf c sec).toNat (secP s.pcs sec).length) (by omega)
    refine ⟨m, hm, fun x hx5 hl => ?_⟩
    have hl' : x < outN s c := by rw [outS_length] at hl; exact hl
    have e1 : (outS s c).getD x 0 = vis (keptP s c (x / 512)) x (s.dur.getD x 0) := by unfold outS; simp [List.getD_eq_getElem?_getD, hl']
    rw [e1, hx x hx5]
    unfold keptP
    rw [hx5, Nat.min_comm, take_min]
/-! ### A list of texts in memory -/
def mF (p : Pt) : List Value := [p.2.1]
theorem mF_get {ps : List Pt} {i : Nat} (h : i < ps.length) : (ps.flatMap mF)[i]? = some ps[i].2.1 := by
  have h1 := flatMap_get (f := mF) (sz := 1) (fun _ => rfl) ps i 0 h (by decide)
  rw [Nat.mul_one, Nat.add_zero] at h1
  rw [h1]; rfl
theorem St.ofCb {σ : Sig} {w : World} {R : List Asrt} {b T sz n : Nat} {vs : List Value} (hs : St σ w (cb b T vs :: R)) (hn : vs.length = n * sz) (hm : n ≤ maxLen) : St σ w (sl T sz (.slice (some ⟨b, 0, none⟩) n n) n vs :: R) :=
  hs.imp fun h hb => ⟨hn, .inr ⟨b, n, vs, rfl, Nat.le_refl _, hm, hn, by rw [List.take_of_length_le (by omega)], hb⟩⟩
end Vw
