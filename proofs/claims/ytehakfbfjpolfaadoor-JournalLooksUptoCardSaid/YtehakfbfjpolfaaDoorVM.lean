/- The small proof library: what a crash leaves, byte by byte. -/
import Derived.Test.YtehakfbfjpolfaaDoorVL
set_option linter.all false
namespace Vw
open Go
theorem getD_spl (l : List UInt8) (o : Nat) (s : List UInt8) (h : o + s.length ≤ l.length) (x : Nat) : (spl l o s).getD x 0 = if o ≤ x ∧ x < o + s.length then s.getD (x - o) 0 else l.getD x 0 := by
  have e1 : (l.take o).length = o := by rw [List.length_take]; omega
  unfold spl
  simp only [List.getD_eq_getElem?_getD]
  by_cases h1 : x < o
  · rw [if_neg (by omega), List.append_assoc, List.getElem?_append_left (by omega), List.getElem?_take, if_pos h1]
  · by_cases h2 : x < o + s.length
    · rw [if_pos (by omega), List.getElem?_append_left (by rw [List.length_append]; omega), List.getElem?_append_right (by omega), e1]
    · rw [if_neg (by omega), List.getElem?_append_right (by rw [List.length_append]; omega), List.getElem?_drop, List.length_append, e1, show o + s.length + (x - (o + s.length)) = x by omega]
theorem getD_ext (l : List UInt8) (n x : Nat) : (ext l n).getD x 0 = l.getD x 0 := by
  unfold ext
  simp only [List.getD_eq_getElem?_getD]
  by_cases h : x < l.length
  · rw [List.getElem?_append_left h]
  · rw [List.getElem?_append_right (by omega), List.getElem?_replicate, List.getElem?_eq_none (by omega)]
    split <;> rfl
theorem getD_list {l m : List UInt8} (h : l.length = m.length) (hx : ∀ x, x < l.length → l.getD x 0 = m.getD x 0) : l = m := by
  apply List.ext_getElem h
  intro i h1 h2
  have := hx i h1
  simpa [List.getD_eq_getElem?_getD, h1, h2] using this

def covers (p : Pc) (x : Nat) : Prop := p.1 ≤ x ∧ x < p.1 + p.2.length
instance (p : Pc) (x : Nat) : Decidable (covers p x) := by unfold covers; infer_instance
/-- A piece laid over bytes, as far as these go. -/
def putP (out : List UInt8) (p : Pc) : List UInt8 := if p.1 < out.length then spl out p.1 (p.2.take (out.length - p.1)) else out
theorem putP_len (out : List UInt8) (p : Pc) : (putP out p).length = out.length := by
  unfold putP; split
  · exact spl_length _ _ _ (by simp; omega)
  · rfl
theorem vis_cons (p : Pc) (ps : List Pc) (x : Nat) (b : UInt8) : vis (p :: ps) x b = vis ps x (vis [p] x b) := rfl
theorem vis_one (p : Pc) (x : Nat) (b : UInt8) : vis [p] x b = if p.1 ≤ x ∧ x < p.1 + p.2.length then p.2.getD (x - p.1) 0 else b := rfl
theorem vis_nil (x : Nat) (b : UInt8) : vis [] x b = b := rfl
theorem putP_get (out : List UInt8) (p : Pc) {x : Nat} (hx : x < out.length) : (putP out p).getD x 0 = vis [p] x (out.getD x 0) := by
  rw [vis_one]
  unfold putP
  by_cases h : p.1 < out.length
  · rw [if_pos h, getD_spl _ _ _ (by simp; omega)]
    simp only [List.length_take]
    by_cases h2 : p.1 ≤ x ∧ x < p.1 + p.2.length
    · rw [if_pos h2, if_pos (by omega)]
      simp only [List.getD_eq_getElem?_getD, List.getElem?_take]
      rw [if_pos (by omega)]
    · rw [if_neg h2, if_neg (by omega)]
  · rw [if_neg h, if_neg (by omega)]
def putsP (out : List UInt8) (ps : List Pc) : List UInt8 := ps.foldl putP out
theorem putsP_len : ∀ (ps : List Pc) (out : List UInt8), (putsP out ps).length = out.length
  | [], _ => rfl
  | p :: ps, out => by
    show (putsP (putP out p) ps).length = _
    rw [putsP_len, putP_len]
theorem putsP_get : ∀ (ps : List Pc) (out : List UInt8) {x : Nat}, x < out.length → (putsP out ps).getD x 0 = vis ps x (out.getD x 0)
  | [], _, _, _ => rfl
  | p :: ps, out, x, hx => by
    show (putsP (putP out p) ps).getD x 0 = _
    rw [putsP_get ps _ (by rw [putP_len]; exact hx), putP_get _ _ hx]; rfl
theorem putsP_take {ps : List Pc} {i : Nat} (h : i < ps.length) (out : List UInt8) : putsP out (ps.take (i + 1)) = putP (putsP out (ps.take i)) ps[i] := by
  unfold putsP; rw [List.take_succ_eq_append_getElem h, List.foldl_append]; rfl
theorem vis_other {room : Int} {sec x : Nat} (hx : x / 512 ≠ sec) : ∀ (ps : List Pc) (b : UInt8), (∀ p ∈ ps, PcOk room p ∧ p.1 / 512 = sec) → vis ps x b = b
  | [], _, _ => rfl
  | p :: ps, b, h => by
    rw [vis_cons, vis_other hx ps _ (fun q hq => h q (by simp [hq])), vis_one]
    obtain ⟨⟨h1, h2, h3⟩, h4⟩ := h p (by simp)
    have hl : 0 < p.2.length := List.length_pos_iff.2 h1
    rw [if_neg]
    intro hc
    omega
theorem secP_mem {ps : List Pc} {sec : Nat} {p : Pc} (h : p ∈ secP ps sec) : p ∈ ps ∧ p.1 / 512 = sec := by
  unfold secP at h
  rw [List.mem_filter] at h
  exact ⟨h.1, by simpa using h.2⟩
theorem keptP_ok {s : DS} (hs : DOk s) {c : Ch} {sec : Nat} {p : Pc} (h : p ∈ keptP s c sec) : PcOk s.room p ∧ p.1 / 512 = sec := by
  have := secP_mem (List.mem_of_mem_take h)
  exact ⟨hs.pcs p this.1, this.2⟩

theorem nodup_inj {α : Type} {f : α → Nat} : ∀ {l : List α}, (l.map f).Nodup → ∀ {a b : α}, a ∈ l → b ∈ l → f a = f b → a = b
  | x :: l, h, a, b, ha, hb, e => by
    rw [List.map_cons, List.nodup_cons] at h
    rcases List.mem_cons.1 ha with e1 | h1 <;> rcases List.mem_cons.1 hb with e2 | h2
    · rw [e1, e2]
    · exact (h.1 (List.mem_map.2 ⟨b, h2, by rw [← e, e1]⟩)).elim
    · exact (h.1 (List.mem_map.2 ⟨a, h1, by rw [e, e2]⟩)).elim
    · exact nodup_inj h.2 h1 h2 e
/-! ### The program's way through the map -/
def seenS (es : List Ent) (seen : List Nat) (sec : Nat) : Prop := ∃ e ∈ es, e.sec = sec ∧ e.born ∈ seen
/-- The bytes found so far. -/
def Fnd (s : DS) (c : Ch) (es : List Ent) (seen : List Nat) (out : List UInt8) : Prop := out.length = outN s c ∧
  ∀ x, x < out.length → (seenS es seen (x / 512) → out.getD x 0 = vis (keptP s c (x / 512)) x (s.dur.getD x 0)) ∧ (¬ seenS es seen (x / 512) → out.getD x 0 = s.dur.getD x 0)
theorem fnd_step {s : DS} (hs : DOk s) {c : Ch} {es : List Ent} {clock : Nat} (hm : MOk es clock) {seen : List Nat} {out : List UInt8} (h : Fnd s c es seen out) {e : Ent} (he : e ∈ es) (hn : e.born ∉ seen) :
    Fnd s c es (seen ++ [e.born]) (putsP out (keptP s c e.sec)) := by
  have hinj : ∀ e' ∈ es, e'.sec = e.sec → e' = e := by
    intro e' he' h1
    have hnd := hm.secs
    exact nodup_inj (f := fun x : Ent => x.sec) hnd he' he h1
  have hinj2 : ∀ e' ∈ es, e'.born = e.born → e' = e := by
    intro e' he' h1
    have hnd := hm.borns
    exact nodup_inj (f := fun x : Ent => x.born) hnd he' he h1
  refine ⟨by rw [putsP_len]; exact h.1, fun x hx => ?_⟩
  rw [putsP_len] at hx
  rw [putsP_get _ _ hx]
  by_cases hx5 : x / 512 = e.sec
  · refine ⟨fun _ => ?_, fun h2 => absurd ⟨e, he, hx5.symm, by simp⟩ h2⟩
    rw [hx5, (h.2 x hx).2]
    rintro ⟨e', he', h1, h2⟩
    rw [hx5] at h1
    have := hinj e' he' h1
    subst this
    exact hn h2
  · rw [vis_other (sec := e.sec) hx5 _ _ (fun p hp => keptP_ok hs hp)]
    refine ⟨fun ⟨e', he', h1, h2⟩ => (h.2 x hx).1 ⟨e', he', h1, ?_⟩, fun h2 => (h.2 x hx).2 fun ⟨e', he', h3, h4⟩ => h2 ⟨e', he', h3, by simp [h4]⟩⟩
    rcases List.mem_append.1 h2 with h2 | h2
    · exact h2
    · exfalso
      have := hinj2 e' he' (by simpa using h2)
      subst this
      exact hx5 h1.symm
theorem fnd_end {s : DS} {c : Ch} {es : List Ent} {seen : List Nat} {out : List UInt8} (hg : Grp es s.pcs) (h : Fnd s c es seen out) (hall : ∀ e ∈ es, e.born ∈ seen) : out = outS s c := by
  refine getD_list (by rw [outS_length]; exact h.1) fun x hx => ?_
  have hx' : x < outN s c := by rw [← h.1]; exact hx
  have e1 : (outS s c).getD x 0 = vis (keptP s c (x / 512)) x (s.dur.getD x 0) := by
    unfold outS
    simp [List.getD_eq_getElem?_getD, hx']
  rw [e1]
  by_cases hin : ∃ e ∈ es, e.sec = x / 512
  · obtain ⟨e, he, h1⟩ := hin
    exact (h.2 x hx).1 ⟨e, he, h1, hall e he⟩
  · have h2 : secP s.pcs (x / 512) = [] := by rw [← hg]; exact eps_out fun e he h3 => hin ⟨e, he, h3⟩
    rw [(h.2 x hx).2 fun ⟨e, he, h3, _⟩ => hin ⟨e, he, h3⟩]
    unfold keptP
    rw [h2, List.take_nil]; rfl
theorem fnd_start (s : DS) (c : Ch) (es : List Ent) {out : List UInt8} (h1 : out.length = outN s c) (h2 : ∀ x, x < out.length → out.getD x 0 = s.dur.getD x 0) : Fnd s c es [] out :=
  ⟨h1, fun x hx => ⟨fun ⟨e, _, _, h⟩ => absurd h (by simp), fun _ => h2 x hx⟩⟩
theorem dur_start (s : DS) (n : Nat) {out : List UInt8} (h : out = spl (List.replicate n 0) 0 (s.dur.take (min s.dur.length n))) : out.length = n ∧ ∀ x, x < out.length → out.getD x 0 = s.dur.getD x 0 := by
  have hl : out.length = n := by rw [h, spl_length _ _ _ (by simp; omega)]; simp
  refine ⟨hl, fun x hx => ?_⟩
  rw [hl] at hx
  rw [h, getD_spl _ _ _ (by simp; omega)]
  simp only [List.length_take, List.getD_eq_getElem?_getD, List.getElem?_take, List.getElem?_replicate]
  by_cases hd : x < s.dur.length
  · rw [if_pos (by omega), if_pos (by omega)]; rfl
  · rw [if_neg (by omega), if_pos hx, List.getElem?_eq_none (by omega)]; rfl

/-! ### The document's way through its list -/
def Fre (s : DS) (c : Ch) (i : Nat) (out : List UInt8) : Prop := out.length = outN s c ∧
  ∀ x, x < out.length → out.getD x 0 = vis ((secP (s.pcs.take i) (x / 512)).take (keepOf c (x / 512)).toNat) x (s.dur.getD x 0)
theorem secP_take_succ {ps : List Pc} {i : Nat} (h : i < ps.length) (sec : Nat) : secP (ps.take (i + 1)) sec = secP (ps.take i) sec ++ (if ps[i].1 / 512 = sec then [ps[i]] else []) := by
  rw [List.take_succ_eq_append_getElem h, secP_append]
  congr 1
  unfold secP
  by_cases h1 : ps[i].1 / 512 = sec <;> simp [h1]
theorem fre_put {s : DS} (hs : DOk s) {c : Ch} {i : Nat} {out : List UInt8} (hi : i < s.pcs.length) (h : Fre s c i out) (hk : ((secP (s.pcs.take i) (s.pcs[i].1 / 512)).length : Int) < keepOf c (s.pcs[i].1 / 512)) : Fre s c (i + 1) (putP out s.pcs[i]) := by
  refine ⟨by rw [putP_len]; exact h.1, fun x hx => ?_⟩
  rw [putP_len] at hx
  rw [putP_get _ _ hx, h.2 x hx, secP_take_succ hi]
  by_cases h5 : s.pcs[i].1 / 512 = x / 512
  · rw [if_pos h5]
    rw [h5] at hk
    rw [List.take_of_length_le (l := secP (s.pcs.take i) (x / 512) ++ [s.pcs[i]]) (by rw [List.length_append, List.length_singleton]; omega), List.take_of_length_le (l := secP (s.pcs.take i) (x / 512)) (by omega), vis_append]
  · rw [if_neg h5, List.append_nil]
    exact vis_other (room := s.room) (sec := s.pcs[i].1 / 512) (Ne.symm h5) [s.pcs[i]] _ (fun p hp => by simp at hp; subst hp; exact ⟨hs.pcs _ (List.getElem_mem hi), rfl⟩)
theorem fre_skip {s : DS} {c : Ch} {i : Nat} {out : List UInt8} (hi : i < s.pcs.length) (h : Fre s c i out) (hk : keepOf c (s.pcs[i].1 / 512) ≤ ((secP (s.pcs.take i) (s.pcs[i].1 / 512)).length : Int)) : Fre s c (i + 1) out := by
  refine ⟨h.1, fun x hx => ?_⟩
  rw [h.2 x hx, secP_take_succ hi]
  by_cases h5 : s.pcs[i].1 / 512 = x / 512
  · rw [if_pos h5]
    rw [h5] at hk
    rw [List.take_append_of_le_length (by omega)]
  · rw [if_neg h5, List.append_nil]
theorem fre_end {s : DS} {c : Ch} {out : List UInt8} (h : Fre s c s.pcs.length out) : out = outS s c := by
  refine getD_list (by rw [outS_length]; exact h.1) fun x hx => ?_
  have hx' : x < outN s c := by rw [← h.1]; exact hx
  rw [h.2 x hx, List.take_length]
  unfold outS keptP
  simp [List.getD_eq_getElem?_getD, hx']
theorem fre_start {s : DS} {c : Ch} {out : List UInt8} (h1 : out.length = outN s c) (h2 : ∀ x, x < out.length → out.getD x 0 = s.dur.getD x 0) : Fre s c 0 out := ⟨h1, fun x hx => by simpa [secP, vis] using h2 x hx⟩

/-! ### What is laid is seen -/
theorem cut_vis : ∀ (n at_ : Nat) (l : List UInt8), l.length ≤ n → ∀ (x : Nat) (b : UInt8), vis (secP (cut at_ l) (x / 512)) x b = if at_ ≤ x ∧ x < at_ + l.length then l.getD (x - at_) 0 else b
  | 0, at_, l, hn, x, b => by
    have : l = [] := List.eq_nil_of_length_eq_zero (by omega)
    subst this
    rw [cut_nil, if_neg (by rw [List.length_nil]; omega)]; rfl
  | n + 1, at_, l, hn, x, b => by
    by_cases e : l = []
    · subst e; rw [cut_nil, if_neg (by rw [List.length_nil]; omega)]; rfl
    · have hl : 0 < l.length := List.length_pos_iff.2 e
      have hs := secN_pos (at_ := at_) hl
      have hs2 := secN_le at_ l.length
      have ih := cut_vis n (at_ + secN at_ l.length) (l.drop (secN at_ l.length)) (by rw [List.length_drop]; omega) x
      rw [cut_cons e]
      have e1 : secP ((at_, l.take (secN at_ l.length)) :: cut (at_ + secN at_ l.length) (l.drop (secN at_ l.length))) (x / 512) = (if at_ / 512 = x / 512 then [(at_, l.take (secN at_ l.length))] else []) ++ secP (cut (at_ + secN at_ l.length) (l.drop (secN at_ l.length))) (x / 512) := by
        unfold secP
        rw [List.filter_cons]
        by_cases h5 : at_ / 512 = x / 512 <;> simp [h5]
      rw [e1, vis_append, ih]
      simp only [List.length_drop]
      have hg : ∀ k, (l.drop (secN at_ l.length)).getD k 0 = l.getD (secN at_ l.length + k) 0 := fun k => by simp [List.getD_eq_getElem?_getD]
      by_cases h1 : at_ + secN at_ l.length ≤ x ∧ x < at_ + secN at_ l.length + (l.length - secN at_ l.length)
      · rw [if_pos h1, if_pos (by omega), hg]
        congr 1; omega
      · rw [if_neg h1]
        by_cases h2 : at_ ≤ x ∧ x < at_ + l.length
        · have h3 : x < at_ + secN at_ l.length := by omega
          have h5 : at_ / 512 = x / 512 := by unfold secN at h3; omega
          rw [if_pos h2, if_pos h5, vis_one, if_pos (by simp only [List.length_take]; omega)]
          simp only [List.getD_eq_getElem?_getD, List.getElem?_take]
          rw [if_pos (by omega)]
        · rw [if_neg h2]
          by_cases h5 : at_ / 512 = x / 512
          · rw [if_pos h5, vis_one, if_neg (by simp only [List.length_take]; omega)]
          · rw [if_neg h5]; rfl
/-- All that was laid is what is read. -/
def Full (s : DS) : Prop := ∀ x, x < s.now.length → s.now.getD x 0 = vis (secP s.pcs (x / 512)) x (s.dur.getD x 0)
theorem layS_full {s : DS} (h : Full s) {at_ : Nat} {data : List UInt8} (ha : at_ ≤ s.now.length) : Full (layS s at_ data) := by
  intro x hx
  rw [layS_len] at hx
  unfold layS
  simp only
  rw [getD_spl _ _ _ (by rw [ext_length]; omega), secP_append, vis_append, cut_vis data.length at_ data (Nat.le_refl _)]
  by_cases h2 : at_ ≤ x ∧ x < at_ + data.length
  · rw [if_pos h2, if_pos h2]
  · rw [if_neg h2, if_neg h2, getD_ext, h x (by omega)]
theorem newS_full (image : List UInt8) (room : Int) : Full (newS image room) := fun x _ => rfl
theorem full_same {s t : DS} (h : Full s) (h1 : t.now = s.now) (h2 : t.pcs = s.pcs) (h3 : t.dur = s.dur) : Full t := by
  intro x hx; rw [h1] at hx ⊢; rw [h2, h3]; exact h x hx
theorem spent_full {s : DS} (h : Full s) : Full (spent s) := full_same h (spent_now s).1 (spent_now s).2.2.2.1 (spent_now s).2.2.1
theorem sized_same (s : DS) (n : Nat) : (sized s n).now = s.now ∧ (sized s n).pcs = s.pcs ∧ (sized s n).dur = s.dur ∧ (sized s n).room = s.room ∧ (sized s n).dead = s.dead ∧ (sized s n).calls = s.calls ∧ (sized s n).fuse = s.fuse := by unfold sized; split <;> exact ⟨rfl, rfl, rfl, rfl, rfl, rfl, rfl⟩
theorem wrS_full {s : DS} (h : Full s) (off : Int) (data : List UInt8) : Full (wrS s off data).2 := by
  unfold wrS
  repeat' split
  all_goals first | exact h | exact spent_full h | skip
  refine full_same (s := layW (spent s) off.toNat data) ?_ (sized_same _ _).1 (sized_same _ _).2.1 (sized_same _ _).2.2.1
  unfold layW; split
  · exact layS_full (spent_full h) (Nat.le_refl _)
  · exact layS_full (spent_full h) (by omega)
theorem trS_full {s : DS} (h : Full s) (size : Int) : Full (trS s size).2 := by
  unfold trS
  repeat' split
  all_goals first | exact h | exact spent_full h | skip
  refine full_same (s := trN (spent s) size.toNat) ?_ (sized_same _ _).1 (sized_same _ _).2.1 (sized_same _ _).2.2.1
  have hc : Full (trC (spent s) size.toNat) := by
    unfold trC; split
    · exact layS_full (spent_full h) (Nat.le_refl _)
    · exact spent_full h
  intro x hx
  have hx2 := hx
  rw [trN_len] at hx2
  have hlen : size.toNat ≤ (trC (spent s) size.toNat).now.length := by
    have := trN_len (spent s) size.toNat
    unfold trN at this; simp only [List.length_take] at this; omega
  show ((trC (spent s) size.toNat).now.take size.toNat).getD x 0 = vis (secP (trC (spent s) size.toNat).pcs (x / 512)) x ((trC (spent s) size.toNat).dur.getD x 0)
  rw [← hc x (by omega)]
  simp only [List.getD_eq_getElem?_getD, List.getElem?_take, if_pos hx2]
theorem syS_full {s : DS} (h : Full s) : Full (syS s).2 := by
  unfold syS
  repeat' split
  all_goals first | exact h | exact spent_full h | skip
  intro x hx
  show (spent s).now.getD x 0 = s.now.getD x 0
  rw [(spent_now s).1]
/-- The last size noted is the size. -/
def Lst (s : DS) : Prop := s.sizes.getLastD s.dur.length = s.now.length
theorem newS_lst (image : List UInt8) (room : Int) : Lst (newS image room) := rfl
theorem lst_same {s t : DS} (h : Lst s) (h1 : t.now = s.now) (h2 : t.sizes = s.sizes) (h3 : t.dur = s.dur) : Lst t := by unfold Lst; rw [h1, h2, h3]; exact h
theorem spent_lst {s : DS} (h : Lst s) : Lst (spent s) := lst_same h (spent_now s).1 (spent_now s).2.2.2.2 (spent_now s).2.2.1
theorem sized_lst {s t : DS} (h : Lst s) (h2 : t.sizes = s.sizes) (h3 : t.dur = s.dur) : Lst (sized t s.now.length) := by
  unfold sized Lst; split
  · simp
  · rename_i h4
    simp only [ne_eq, Decidable.not_not] at h4
    rw [h2, h3, h4]; exact h
theorem wrS_lst {s : DS} (h : Lst s) (off : Int) (data : List UInt8) : Lst (wrS s off data).2 := by
  unfold wrS
  repeat' split
  all_goals first | exact h | exact spent_lst h | skip
  refine sized_lst h ?_ ?_
  · unfold layW; split <;> exact (spent_now s).2.2.2.2
  · unfold layW; split <;> exact (spent_now s).2.2.1
theorem trS_lst {s : DS} (h : Lst s) (size : Int) : Lst (trS s size).2 := by
  unfold trS
  repeat' split
  all_goals first | exact h | exact spent_lst h | skip
  refine sized_lst h ?_ ?_
  · unfold trN trC; split <;> exact (spent_now s).2.2.2.2
  · unfold trN trC; split <;> exact (spent_now s).2.2.1
theorem syS_lst {s : DS} (h : Lst s) : Lst (syS s).2 := by
  unfold syS
  repeat' split
  all_goals first | exact h | exact spent_lst h | skip
  show s.now.length = (spent s).now.length
  rw [(spent_now s).1]
end Vw
