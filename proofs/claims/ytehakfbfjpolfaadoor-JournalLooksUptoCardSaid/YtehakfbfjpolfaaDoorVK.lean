/- The small proof library: the disk, as plain data. -/
import Derived.Test.YtehakfbfjpolfaaDoorVJ
set_option linter.all false
namespace Vw
open Go

/-- A piece: from where, what. -/
abbrev Pc := Nat × List UInt8
/-- A choice of a crash: sizes, sectors, the rest. -/
abbrev Ch := Int × List Int × Int
structure DS where
  room : Int
  now : List UInt8
  dur : List UInt8
  pcs : List Pc
  sizes : List Nat
  calls : Nat
  fuse : Int
  dead : Bool

/-- How many bytes of a text that begins at a place belong to the place's sector. -/
def secN (at_ n : Nat) : Nat := min n ((at_ / 512 + 1) * 512 - at_)
def cutF : Nat → Nat → List UInt8 → List Pc
  | 0, _, _ => []
  | f + 1, at_, l => if l = [] then [] else (at_, l.take (secN at_ l.length)) :: cutF f (at_ + secN at_ l.length) (l.drop (secN at_ l.length))
def cut (at_ : Nat) (l : List UInt8) : List Pc := cutF l.length at_ l
theorem secN_pos {at_ n : Nat} (h : 0 < n) : 0 < secN at_ n := by unfold secN; omega
theorem secN_le (at_ n : Nat) : secN at_ n ≤ n := by unfold secN; omega
theorem cutF_more : ∀ (f g at_ : Nat) (l : List UInt8), l.length ≤ f → l.length ≤ g → cutF f at_ l = cutF g at_ l
  | 0, g, at_, l, h, _ => by
    have : l = [] := List.eq_nil_of_length_eq_zero (by omega)
    subst this
    cases g <;> simp [cutF]
  | f + 1, 0, at_, l, _, h => by
    have : l = [] := List.eq_nil_of_length_eq_zero (by omega)
    subst this
    simp [cutF]
  | f + 1, g + 1, at_, l, h1, h2 => by
    unfold cutF
    by_cases e : l = []
    · rw [if_pos e, if_pos e]
    · rw [if_neg e, if_neg e]
      have hp : 0 < l.length := List.length_pos_iff.2 e
      have := secN_pos (at_ := at_) hp
      rw [cutF_more f g _ _ (by rw [List.length_drop]; omega) (by rw [List.length_drop]; omega)]
theorem cut_nil (at_ : Nat) : cut at_ [] = [] := rfl
theorem cut_cons {at_ : Nat} {l : List UInt8} (h : l ≠ []) : cut at_ l = (at_, l.take (secN at_ l.length)) :: cut (at_ + secN at_ l.length) (l.drop (secN at_ l.length)) := by
  have hp : 0 < l.length := List.length_pos_iff.2 h
  have hs := secN_pos (at_ := at_) hp
  obtain ⟨n, hn⟩ : ∃ n, l.length = n + 1 := ⟨l.length - 1, by omega⟩
  unfold cut
  rw [hn, cutF, if_neg h, ← hn]
  congr 1
  exact cutF_more _ _ _ _ (by rw [List.length_drop]; omega) (Nat.le_refl _)

/-- Pieces that are none empty, each within a sector, behind the room nowhere. -/
def PcOk (room : Int) (p : Pc) : Prop := p.2 ≠ [] ∧ (p.1 + p.2.length - 1) / 512 = p.1 / 512 ∧ ((p.1 + p.2.length : Nat) : Int) ≤ room
theorem cut_ok (room : Int) : ∀ (n at_ : Nat) (l : List UInt8), l.length ≤ n → ((at_ + l.length : Nat) : Int) ≤ room → ∀ p ∈ cut at_ l, PcOk room p ∧ at_ ≤ p.1 ∧ p.1 + p.2.length ≤ at_ + l.length
  | 0, at_, l, hn, _, p, hp => by
    have : l = [] := List.eq_nil_of_length_eq_zero (by omega)
    subst this
    rw [cut_nil] at hp; cases hp
  | n + 1, at_, l, hn, hr, p, hp => by
    by_cases e : l = []
    · subst e; rw [cut_nil] at hp; cases hp
    · have hl : 0 < l.length := List.length_pos_iff.2 e
      have hs := secN_pos (at_ := at_) hl
      have hs2 := secN_le at_ l.length
      rw [cut_cons e] at hp
      rcases List.mem_cons.1 hp with rfl | hp
      · have hlen : (l.take (secN at_ l.length)).length = secN at_ l.length := by rw [List.length_take]; omega
        refine ⟨⟨?_, ?_, ?_⟩, Nat.le_refl _, ?_⟩
        · intro h0
          have := congrArg List.length h0
          rw [hlen] at this; simp at this; omega
        · rw [hlen]; unfold secN at hs ⊢; omega
        · rw [hlen]; simp only; omega
        · rw [hlen]; simp only; omega
      · have := cut_ok room n (at_ + secN at_ l.length) (l.drop (secN at_ l.length)) (by rw [List.length_drop]; omega) (by rw [List.length_drop]; omega) p hp
        rw [List.length_drop] at this
        refine ⟨this.1, by omega, by omega⟩
theorem cut_len : ∀ (n at_ : Nat) (l : List UInt8), l.length ≤ n → (cut at_ l).length ≤ l.length / 512 + 2
  | 0, at_, l, hn => by
    have : l = [] := List.eq_nil_of_length_eq_zero (by omega)
    subst this
    simp [cut_nil]
  | n + 1, at_, l, hn => by
    by_cases e : l = []
    · subst e; simp [cut_nil]
    · have key : ∀ (n at_ : Nat) (l : List UInt8), l.length ≤ n → at_ % 512 = 0 → (cut at_ l).length ≤ (l.length + 511) / 512 := by
        intro n
        induction n with
        | zero =>
          intro at_ l hn _
          have : l = [] := List.eq_nil_of_length_eq_zero (by omega)
          subst this
          simp [cut_nil]
        | succ n ih =>
          intro at_ l hn ha
          by_cases e : l = []
          · subst e; simp [cut_nil]
          · have hl : 0 < l.length := List.length_pos_iff.2 e
            rw [cut_cons e, List.length_cons]
            by_cases h5 : l.length ≤ 512
            · have : secN at_ l.length = l.length := by unfold secN; omega
              rw [this, List.drop_length, cut_nil]
              simp; omega
            · have h6 : secN at_ l.length = 512 := by unfold secN; omega
              rw [h6]
              have := ih (at_ + 512) (l.drop 512) (by rw [List.length_drop]; omega) (by omega)
              rw [List.length_drop] at this
              omega
      have hl : 0 < l.length := List.length_pos_iff.2 e
      rw [cut_cons e, List.length_cons]
      by_cases h5 : secN at_ l.length = l.length
      · rw [h5, List.drop_length, cut_nil]; simp
      · have := key (l.drop (secN at_ l.length)).length (at_ + secN at_ l.length) (l.drop (secN at_ l.length)) (Nat.le_refl _) (by unfold secN at h5 ⊢; omega)
        rw [List.length_drop] at this
        have hs := secN_pos (at_ := at_) hl
        omega

/-- A list made as long as that, with zeros. -/
def ext (l : List UInt8) (n : Nat) : List UInt8 := l ++ List.replicate (n - l.length) 0
theorem ext_length (l : List UInt8) (n : Nat) : (ext l n).length = max l.length n := by simp [ext]; omega
theorem ext_same {l : List UInt8} {n : Nat} (h : n ≤ l.length) : ext l n = l := by simp [ext, Nat.sub_eq_zero_of_le h]

def layS (s : DS) (at_ : Nat) (data : List UInt8) : DS := { s with now := spl (ext s.now (at_ + data.length)) at_ data, pcs := s.pcs ++ cut at_ data }
def spent (s : DS) : DS := if s.fuse = 0 then { s with dead := true } else { s with fuse := (if 0 < s.fuse then s.fuse - 1 else s.fuse), calls := s.calls + 1 }
def layW (s : DS) (off : Nat) (data : List UInt8) : DS := if s.now.length < off then layS s s.now.length (List.replicate (off - s.now.length) 0 ++ data) else layS s off data
def sized (s : DS) (old : Nat) : DS := if s.now.length ≠ old then { s with sizes := s.sizes ++ [s.now.length] } else s
def wrS (s : DS) (off : Int) (data : List UInt8) : Int × DS :=
  if s.dead = true then (12, s) else if off < 0 then (1, s) else if s.room < data.length ∨ s.room - data.length < off then (10, s)
  else if s.fuse = 0 then (12, spent s) else if data = [] then (0, spent s) else (0, sized (layW (spent s) off.toNat data) s.now.length)
def trC (s : DS) (n : Nat) : DS := if s.now.length < n then layS s s.now.length (List.replicate (n - s.now.length) 0) else s
def trN (s : DS) (n : Nat) : DS := { trC s n with now := (trC s n).now.take n }
def trS (s : DS) (size : Int) : Int × DS :=
  if s.dead = true then (12, s) else if size < 0 then (1, s) else if s.room < size then (10, s)
  else if s.fuse = 0 then (12, spent s) else (0, sized (trN (spent s) size.toNat) s.now.length)
def syS (s : DS) : Int × DS :=
  if s.dead = true then (12, s) else if s.fuse = 0 then (12, spent s) else (0, { spent s with dur := s.now, pcs := [], sizes := [] })
def fuS (s : DS) (n : Int) : DS := if s.dead = true then s else { s with fuse := max n (-1) }
def rdE (s : DS) (off n : Int) : Int :=
  if s.dead = true then 12 else if off < 0 ∨ n < 0 then 1 else if (s.now.length : Int) < n ∨ s.now.length - n < off then 11 else 0
def rdV (s : DS) (off n : Int) : List UInt8 := if rdE s off n = 0 then (s.now.drop off.toNat).take n.toNat else []

def keepOf (c : Ch) (sec : Nat) : Int := if h : sec < c.2.1.length then c.2.1[sec] else c.2.2
def szIx (s : DS) (c : Ch) : Int := min c.1 s.sizes.length
def outN (s : DS) (c : Ch) : Nat := if 0 < szIx s c then s.sizes.getD ((szIx s c).toNat - 1) 0 else s.dur.length
def secP (ps : List Pc) (sec : Nat) : List Pc := ps.filter fun p => decide (p.1 / 512 = sec)
def vis (ps : List Pc) (x : Nat) (b : UInt8) : UInt8 := ps.foldl (fun b p => if p.1 ≤ x ∧ x < p.1 + p.2.length then p.2.getD (x - p.1) 0 else b) b
def keptP (s : DS) (c : Ch) (sec : Nat) : List Pc := (secP s.pcs sec).take (keepOf c sec).toNat
def outS (s : DS) (c : Ch) : List UInt8 := (List.range (outN s c)).map fun x => vis (keptP s c (x / 512)) x (s.dur.getD x 0)
def newS (image : List UInt8) (room : Int) : DS := { room := room, now := image, dur := image, pcs := [], sizes := [], calls := 0, fuse := -1, dead := false }
def kilS (s : DS) : DS := { s with dead := true }
theorem outS_length (s : DS) (c : Ch) : (outS s c).length = outN s c := by simp [outS]

/-- What always holds of a disk. -/
structure DOk (s : DS) : Prop where
  room0 : 0 ≤ s.room
  room1 : s.room ≤ 16777216
  now : (s.now.length : Int) ≤ s.room
  dur : (s.dur.length : Int) ≤ s.room
  sizes : ∀ n ∈ s.sizes, (n : Int) ≤ s.room
  pcs : ∀ p ∈ s.pcs, PcOk s.room p
  fuse : -1 ≤ s.fuse ∧ s.fuse ≤ 9223372036854775807
/-- How much there is at most behind k calls. -/
structure DB (s : DS) (k : Nat) : Prop where
  calls : s.calls ≤ k
  sizes : s.sizes.length ≤ k
  pcs : s.pcs.length ≤ 32770 * k

theorem newS_ok {image : List UInt8} {room : Int} (h0 : 0 ≤ room) (h1 : room ≤ 16777216) (h2 : (image.length : Int) ≤ room) : DOk (newS image room) :=
  ⟨h0, h1, h2, h2, by simp [newS], by simp [newS], by simp [newS]⟩
theorem newS_b (image : List UInt8) (room : Int) (k : Nat) : DB (newS image room) k := ⟨by simp [newS], by simp [newS], by simp [newS]⟩
theorem spent_ok {s : DS} (h : DOk s) : DOk (spent s) := by
  unfold spent
  split
  · exact ⟨h.room0, h.room1, h.now, h.dur, h.sizes, h.pcs, h.fuse⟩
  · exact ⟨h.room0, h.room1, h.now, h.dur, h.sizes, h.pcs, by have := h.fuse; simp only; split <;> omega⟩
theorem spent_b {s : DS} {k : Nat} (h : DB s k) : DB (spent s) (k + 1) := by
  unfold spent
  split
  · exact ⟨Nat.le_succ_of_le h.calls, Nat.le_succ_of_le h.sizes, by have := h.pcs; simp only; omega⟩
  · exact ⟨Nat.succ_le_succ h.calls, Nat.le_succ_of_le h.sizes, by have := h.pcs; simp only; omega⟩
theorem spent_now (s : DS) : (spent s).now = s.now ∧ (spent s).room = s.room ∧ (spent s).dur = s.dur ∧ (spent s).pcs = s.pcs ∧ (spent s).sizes = s.sizes := by
  unfold spent; split <;> exact ⟨rfl, rfl, rfl, rfl, rfl⟩
theorem layS_len {s : DS} {at_ : Nat} {data : List UInt8} : (layS s at_ data).now.length = max s.now.length (at_ + data.length) := by
  unfold layS; simp only
  rw [spl_length _ _ _ (by rw [ext_length]; omega), ext_length]
theorem layS_ok {s : DS} (h : DOk s) {at_ : Nat} {data : List UInt8} (hf : ((at_ + data.length : Nat) : Int) ≤ s.room) : DOk (layS s at_ data) := by
  refine ⟨h.room0, h.room1, ?_, h.dur, h.sizes, ?_, h.fuse⟩
  · rw [layS_len]; have := h.now; show _ ≤ s.room; omega
  · intro p hp
    rcases List.mem_append.1 hp with hp | hp
    · exact h.pcs p hp
    · exact (cut_ok s.room _ at_ data (Nat.le_refl _) hf p hp).1
theorem layW_len (s : DS) (off : Nat) (data : List UInt8) : (layW s off data).now.length = max s.now.length (off + data.length) := by
  unfold layW; split
  · rw [layS_len]; simp; omega
  · rw [layS_len]
theorem layW_ok {s : DS} (h : DOk s) {off : Nat} {data : List UInt8} (hf : ((off + data.length : Nat) : Int) ≤ s.room) : DOk (layW s off data) := by
  unfold layW; split
  · exact layS_ok h (by simp; omega)
  · exact layS_ok h hf
theorem sized_ok {s : DS} (h : DOk s) (n : Nat) : DOk (sized s n) := by
  unfold sized; split
  · refine ⟨h.room0, h.room1, h.now, h.dur, ?_, h.pcs, h.fuse⟩
    intro m hm
    rcases List.mem_append.1 hm with hm | hm
    · exact h.sizes m hm
    · have : m = s.now.length := by simpa using hm
      subst this; exact h.now
  · exact h
theorem layS_b {s : DS} {k : Nat} (h : DB s k) {at_ : Nat} {data : List UInt8} (hd : data.length ≤ 16777216) : s.calls ≤ k ∧ s.sizes.length ≤ k ∧ (layS s at_ data).pcs.length ≤ 32770 * (k + 1) := by
  refine ⟨h.calls, h.sizes, ?_⟩
  have h1 := h.pcs
  have h2 := cut_len data.length at_ data (Nat.le_refl _)
  unfold layS; simp only [List.length_append]; omega
theorem sized_b {s : DS} {k n : Nat} (h1 : s.calls ≤ k + 1) (h2 : s.sizes.length ≤ k) (h3 : s.pcs.length ≤ 32770 * (k + 1)) : DB (sized s n) (k + 1) := by
  unfold sized; split
  · exact ⟨h1, by simp; omega, h3⟩
  · exact ⟨h1, Nat.le_succ_of_le h2, h3⟩
theorem spent_calls {s : DS} {k : Nat} (h : s.calls ≤ k) : (spent s).calls ≤ k + 1 := by unfold spent; split <;> simp only <;> omega
theorem wrS_ok {s : DS} (h : DOk s) (off : Int) (data : List UInt8) : DOk (wrS s off data).2 := by
  unfold wrS
  repeat' split
  all_goals first | exact h | exact spent_ok h | skip
  rename_i h1 h2 h3 h4
  refine sized_ok (layW_ok (spent_ok h) ?_) _
  rw [(spent_now s).2.1]
  have := h.room0
  omega
theorem DB.up {s : DS} {k l : Nat} (h : DB s k) (hl : k ≤ l) : DB s l := ⟨Nat.le_trans h.calls hl, Nat.le_trans h.sizes hl, Nat.le_trans h.pcs (Nat.mul_le_mul_left _ hl)⟩
theorem wrS_b {s : DS} (ho : DOk s) {k : Nat} (h : DB s k) (off : Int) (data : List UInt8) : DB (wrS s off data).2 (k + 1) := by
  unfold wrS
  repeat' split
  all_goals first | exact h.up (Nat.le_succ _) | exact spent_b h | skip
  rename_i h1 h2 h3 h4
  have r1 := ho.room1
  have e := spent_now s
  have hp := h.pcs
  have hz := h.sizes
  refine sized_b ?_ ?_ ?_
  · unfold layW; split <;> exact spent_calls h.calls
  · unfold layW; split <;> (show (spent s).sizes.length ≤ k; rw [e.2.2.2.2]; exact hz)
  · unfold layW; split
    · have h2 := cut_len _ (spent s).now.length (List.replicate (off.toNat - (spent s).now.length) 0 ++ data) (Nat.le_refl _)
      unfold layS; simp only [List.length_append, e.2.2.2.1]
      simp only [List.length_append, List.length_replicate] at h2
      omega
    · have h2 := cut_len _ off.toNat data (Nat.le_refl _)
      unfold layS; simp only [List.length_append, e.2.2.2.1]
      omega
theorem trN_len (s : DS) (n : Nat) : (trN s n).now.length = n := by
  unfold trN trC; simp only [List.length_take]
  split
  · rw [layS_len]; simp; omega
  · omega
theorem trN_ok {s : DS} (h : DOk s) {n : Nat} (hn : (n : Int) ≤ s.room) : DOk (trN s n) := by
  have hc : DOk (trC s n) ∧ (trC s n).room = s.room := by
    unfold trC; split
    · exact ⟨layS_ok h (by simp; omega), rfl⟩
    · exact ⟨h, rfl⟩
  refine ⟨hc.1.room0, hc.1.room1, ?_, hc.1.dur, hc.1.sizes, hc.1.pcs, hc.1.fuse⟩
  rw [trN_len]; show (n : Int) ≤ (trC s n).room; rw [hc.2]; exact hn
theorem trS_ok {s : DS} (h : DOk s) (size : Int) : DOk (trS s size).2 := by
  unfold trS
  repeat' split
  all_goals first | exact h | exact spent_ok h | skip
  rename_i h1 h2 h3 h4
  refine sized_ok (trN_ok (spent_ok h) ?_) _
  rw [(spent_now s).2.1]
  omega
theorem trS_b {s : DS} (ho : DOk s) {k : Nat} (h : DB s k) (size : Int) : DB (trS s size).2 (k + 1) := by
  unfold trS
  repeat' split
  all_goals first | exact h.up (Nat.le_succ _) | exact spent_b h | skip
  rename_i h1 h2 h3 h4
  have r1 := ho.room1
  have e := spent_now s
  have hp := h.pcs
  have hz := h.sizes
  refine sized_b ?_ ?_ ?_
  · unfold trN trC; split <;> exact spent_calls h.calls
  · unfold trN trC; split <;> (show (spent s).sizes.length ≤ k; rw [e.2.2.2.2]; exact hz)
  · unfold trN trC; split
    · have h2 := cut_len _ (spent s).now.length (List.replicate (size.toNat - (spent s).now.length) 0) (Nat.le_refl _)
      unfold layS; simp only [List.length_append, e.2.2.2.1]
      simp only [List.length_replicate] at h2
      omega
    · show (spent s).pcs.length ≤ _
      rw [e.2.2.2.1]; omega
theorem syS_ok {s : DS} (h : DOk s) : DOk (syS s).2 := by
  unfold syS
  repeat' split
  all_goals first | exact h | exact spent_ok h | skip
  have e := spent_now s
  have h' := spent_ok h
  refine ⟨h'.room0, h'.room1, h'.now, ?_, by simp, by simp, h'.fuse⟩
  show (s.now.length : Int) ≤ (spent s).room
  rw [e.2.1]; exact h.now
theorem syS_b {s : DS} {k : Nat} (h : DB s k) : DB (syS s).2 (k + 1) := by
  unfold syS
  repeat' split
  all_goals first | exact h.up (Nat.le_succ _) | exact spent_b h | skip
  exact ⟨spent_calls h.calls, by simp, by simp⟩
theorem fuS_ok {s : DS} (h : DOk s) {n : Int} (hn : n ≤ 9223372036854775807) : DOk (fuS s n) := by
  unfold fuS; split
  · exact h
  · exact ⟨h.room0, h.room1, h.now, h.dur, h.sizes, h.pcs, by simp only; omega⟩
theorem fuS_b {s : DS} {k : Nat} (h : DB s k) (n : Int) : DB (fuS s n) k := by
  unfold fuS; split
  · exact h
  · exact ⟨h.calls, h.sizes, h.pcs⟩
theorem kilS_ok {s : DS} (h : DOk s) : DOk (kilS s) := ⟨h.room0, h.room1, h.now, h.dur, h.sizes, h.pcs, h.fuse⟩
theorem kilS_b {s : DS} {k : Nat} (h : DB s k) : DB (kilS s) k := ⟨h.calls, h.sizes, h.pcs⟩
theorem outN_le {s : DS} (h : DOk s) (c : Ch) : (outN s c : Int) ≤ s.room := by
  unfold outN; split
  · rename_i h0
    unfold szIx at h0 ⊢
    have hlt : (min c.1 s.sizes.length).toNat - 1 < s.sizes.length := by omega
    have := h.sizes _ (List.getElem_mem hlt)
    rw [List.getD_eq_getElem?_getD, List.getElem?_eq_getElem hlt]
    exact this
  · exact h.dur
theorem outS_ok {s : DS} (h : DOk s) (c : Ch) : DOk (newS (outS s c) s.room) := newS_ok h.room0 h.room1 (by rw [outS_length]; exact outN_le h c)

theorem vis_append (a b : List Pc) (x : Nat) (u : UInt8) : vis (a ++ b) x u = vis b x (vis a x u) := by unfold vis; rw [List.foldl_append]
theorem secP_append (a b : List Pc) (sec : Nat) : secP (a ++ b) sec = secP a sec ++ secP b sec := by unfold secP; rw [List.filter_append]
theorem rdE_len {s : DS} {off n : Int} (h : rdE s off n = 0) : 0 ≤ off ∧ 0 ≤ n ∧ off + n ≤ s.now.length := by
  unfold rdE at h
  repeat' split at h
  all_goals first | (simp at h; done) | skip
  rename_i h1 h2 h3
  omega
theorem rdV_len {s : DS} {off n : Int} (h : rdE s off n = 0) : ((rdV s off n).length : Int) = n := by
  have := rdE_len h
  unfold rdV; rw [if_pos h]; simp; omega
end Vw
