/- The small proof library: steps of a disk's script. -/
import Derived.Test.YtehakfbfjpolfaaDoorVP
set_option linter.all false
namespace Vw
open Go
abbrev DOp := Int × Int × Int × (Option Addr × Nat × List UInt8) × Int × (Option Addr × Nat × List Int) × Int
abbrev opD (o : DOp) : List UInt8 := o.2.2.2.1.2.2
abbrev opV (o : DOp) : Value := .slice o.2.2.2.1.1 o.2.2.2.1.2.2.length o.2.2.2.1.2.1
abbrev opS (o : DOp) : List Int := o.2.2.2.2.2.1.2.2
abbrev opW (o : DOp) : Value := .slice o.2.2.2.2.2.1.1 o.2.2.2.2.2.1.2.2.length o.2.2.2.2.2.1.2.1
abbrev opC (o : DOp) : Ch := (o.2.2.2.2.1, o.2.2.2.2.2.1.2.2, o.2.2.2.2.2.2)
def opF (o : DOp) : List Value := [.int .i64 o.1, .int .i64 o.2.1, .int .i64 o.2.2.1, opV o, .int .i64 o.2.2.2.2.1, opW o, .int .i64 o.2.2.2.2.2.2]
/-- What is known of a step that was handed in. -/
structure DOpG (h : Heaplet) (o : DOp) : Prop where
  data : RdB h (opV o) (opD o)
  secs : RdS iF 1 h (opW o) (opS o)
  len : (opD o).length ≤ 1048576
  slen : (opS o).length ≤ 1048576
  b1 : -9223372036854775808 ≤ o.2.1 ∧ o.2.1 ≤ 9223372036854775807
def chS (s : DS) (o : DOp) : Int × DS := if o.1 = 2 then wrS s o.2.1 (opD o) else if o.1 = 3 then trS s o.2.1 else if o.1 = 4 then syS s else (0, s)
def csS (s : DS) (o : DOp) : DS := if o.1 = 5 then fuS s o.2.1 else (chS s o).2
def refI (room : Int) (o : DOp) : Int :=
  if o.1 = 2 then (if o.2.1 < 0 then 1 else if room < o.2.1 ∨ room - o.2.1 < ((opD o).length : Int) then 10 else 0)
  else if o.1 = 3 then (if o.2.1 < 0 then 1 else if room < o.2.1 then 10 else 0) else 0
theorem chS_ok {s : DS} (h : DOk s) (o : DOp) : DOk (chS s o).2 := by
  unfold chS; split
  · exact wrS_ok h _ _
  · split
    · exact trS_ok h _
    · split
      · exact syS_ok h
      · exact h
theorem chS_b {s : DS} (ho : DOk s) {k : Nat} (h : DB s k) (o : DOp) : DB (chS s o).2 (k + 1) := by
  unfold chS; split
  · exact wrS_b ho h _ _
  · split
    · exact trS_b ho h _
    · split
      · exact syS_b h
      · exact h.up (Nat.le_succ _)
theorem csS_ok {s : DS} (h : DOk s) {o : DOp} (ho : o.2.1 ≤ 9223372036854775807) : DOk (csS s o) := by
  unfold csS; split
  · exact fuS_ok h ho
  · exact chS_ok h o
theorem csS_b {s : DS} (ho : DOk s) {k : Nat} (h : DB s k) (o : DOp) : DB (csS s o) (k + 1) := by
  unfold csS; split
  · exact (fuS_b h _).up (Nat.le_succ _)
  · exact chS_b ho h o
theorem chS_2 {s : DS} {o : DOp} (h : o.1 = 2) : chS s o = wrS s o.2.1 (opD o) := by unfold chS; rw [if_pos h]
theorem chS_3 {s : DS} {o : DOp} (h : o.1 = 3) : chS s o = trS s o.2.1 := by unfold chS; rw [if_neg (by omega), if_pos h]
theorem chS_4 {s : DS} {o : DOp} (h : o.1 = 4) : chS s o = syS s := by unfold chS; rw [if_neg (by omega), if_neg (by omega), if_pos h]
theorem chS_0 {s : DS} {o : DOp} (h2 : o.1 ≠ 2) (h3 : o.1 ≠ 3) (h4 : o.1 ≠ 4) : chS s o = (0, s) := by unfold chS; rw [if_neg h2, if_neg h3, if_neg h4]
theorem csS_5 {s : DS} {o : DOp} (h : o.1 = 5) : csS s o = fuS s o.2.1 := by unfold csS; rw [if_pos h]
theorem csS_n {s : DS} {o : DOp} (h : o.1 ≠ 5) : csS s o = (chS s o).2 := by unfold csS; rw [if_neg h]
/-- A disk that is alive, without a fuse. -/
structure Free (s : DS) : Prop where
  dead : s.dead = false
  fuse : s.fuse < 0
theorem free_spent {s : DS} (h : Free s) : Free (spent s) := by
  rw [spent_neg h.fuse]; exact ⟨h.dead, h.fuse⟩
theorem chS_free {s : DS} (h : Free s) (o : DOp) : Free (chS s o).2 ∧ (chS s o).2.room = s.room ∧ (chS s o).1 = refI s.room o := by
  have e := spent_now s
  have hf := h.fuse
  have hsp := free_spent h
  unfold chS refI
  by_cases h2 : o.1 = 2
  · rw [if_pos h2, if_pos h2]
    unfold wrS
    rw [if_neg (by simp [h.dead])]
    by_cases c1 : o.2.1 < 0
    · rw [if_pos c1, if_pos c1]; exact ⟨h, rfl, rfl⟩
    · rw [if_neg c1, if_neg c1]
      by_cases c2 : s.room < ((opD o).length : Int) ∨ s.room - ((opD o).length : Int) < o.2.1
      · rw [if_pos c2, if_pos (by omega)]; exact ⟨h, rfl, rfl⟩
      · rw [if_neg c2, if_neg (show ¬ s.fuse = 0 by omega), if_neg (show ¬ (s.room < o.2.1 ∨ s.room - o.2.1 < ((opD o).length : Int)) by omega)]
        split
        · exact ⟨hsp, e.2.1, rfl⟩
        · have hl : ∀ off (data : List UInt8), Free (layW (spent s) off data) ∧ (layW (spent s) off data).room = s.room := by
            intro off data
            unfold layW
            split <;> exact ⟨⟨hsp.dead, hsp.fuse⟩, e.2.1⟩
          have h9 := hl o.2.1.toNat (opD o)
          have h8 := sized_same (layW (spent s) o.2.1.toNat (opD o)) s.now.length
          exact ⟨⟨by rw [h8.2.2.2.2.1]; exact h9.1.dead, by rw [h8.2.2.2.2.2.2]; exact h9.1.fuse⟩, by rw [h8.2.2.2.1]; exact h9.2, rfl⟩
  · rw [if_neg h2, if_neg h2]
    by_cases h3 : o.1 = 3
    · rw [if_pos h3, if_pos h3]
      unfold trS
      rw [if_neg (by simp [h.dead])]
      by_cases c1 : o.2.1 < 0
      · rw [if_pos c1, if_pos c1]; exact ⟨h, rfl, rfl⟩
      · rw [if_neg c1, if_neg c1]
        by_cases c2 : s.room < o.2.1
        · rw [if_pos c2, if_pos c2]; exact ⟨h, rfl, rfl⟩
        · rw [if_neg c2, if_neg c2, if_neg (show ¬ s.fuse = 0 by omega)]
          have h9 : Free (trN (spent s) o.2.1.toNat) ∧ (trN (spent s) o.2.1.toNat).room = s.room := by
            unfold trN trC
            split <;> exact ⟨⟨hsp.dead, hsp.fuse⟩, e.2.1⟩
          have h8 := sized_same (trN (spent s) o.2.1.toNat) s.now.length
          exact ⟨⟨by rw [h8.2.2.2.2.1]; exact h9.1.dead, by rw [h8.2.2.2.2.2.2]; exact h9.1.fuse⟩, by rw [h8.2.2.2.1]; exact h9.2, rfl⟩
    · rw [if_neg h3, if_neg h3]
      split
      · unfold syS
        rw [if_neg (by simp [h.dead]), if_neg (by omega)]
        exact ⟨⟨hsp.dead, hsp.fuse⟩, e.2.1, rfl⟩
      · exact ⟨h, rfl, rfl⟩
theorem newS_free (image : List UInt8) (room : Int) : Free (newS image room) := ⟨rfl, by simp [newS]⟩
theorem chS_full {s : DS} (h : Full s) (o : DOp) : Full (chS s o).2 := by
  unfold chS; split
  · exact wrS_full h _ _
  · split
    · exact trS_full h _
    · split
      · exact syS_full h
      · exact h
theorem chS_lst {s : DS} (h : Lst s) (o : DOp) : Lst (chS s o).2 := by
  unfold chS; split
  · exact wrS_lst h _ _
  · split
    · exact trS_lst h _
    · split
      · exact syS_lst h
      · exact h
/-- A crash that keeps all. -/
theorem out_all {s : DS} (hf : Full s) (hl : Lst s) {c : Ch} (h1 : (s.sizes.length : Int) ≤ c.1) (h2 : c.2.1 = []) (h3 : (s.pcs.length : Int) ≤ c.2.2) : outS s c = s.now := by
  have hn : outN s c = s.now.length := by
    unfold Lst at hl
    unfold outN szIx
    rw [Int.min_eq_right h1]
    by_cases h0 : s.sizes = []
    · rw [h0] at hl ⊢
      simp at hl ⊢
      exact hl
    · have h4 : 0 < s.sizes.length := List.length_pos_iff.2 h0
      rw [if_pos (by omega)]
      rw [List.getLastD_eq_getLast?, List.getLast?_eq_getElem?] at hl
      rw [List.getD_eq_getElem?_getD, ← hl, show (s.sizes.length : Int).toNat - 1 = s.sizes.length - 1 by omega]
      rw [List.getElem?_eq_getElem (by omega)]
      rfl
  refine getD_list (by rw [outS_length]; exact hn) fun x hx => ?_
  rw [outS_length] at hx
  have e1 : (outS s c).getD x 0 = vis (keptP s c (x / 512)) x (s.dur.getD x 0) := by unfold outS; simp [List.getD_eq_getElem?_getD, hx]
  rw [e1, hf x (by omega)]
  congr 1
  unfold keptP
  rw [keepOf_out (by rw [h2]; simp), List.take_of_length_le]
  have : (secP s.pcs (x / 512)).length ≤ s.pcs.length := by unfold secP; exact List.length_filter_le _ _
  omega
/-- One that keeps nothing. -/
theorem out_none {s : DS} {c : Ch} (h1 : c.1 ≤ 0) (h2 : c.2.1 = []) (h3 : c.2.2 ≤ 0) : outS s c = s.dur := by
  have hn : outN s c = s.dur.length := outN_none (by unfold szIx; omega)
  refine getD_list (by rw [outS_length]; exact hn) fun x hx => ?_
  rw [outS_length] at hx
  have e1 : (outS s c).getD x 0 = vis (keptP s c (x / 512)) x (s.dur.getD x 0) := by unfold outS; simp [List.getD_eq_getElem?_getD, hx]
  rw [e1]
  unfold keptP
  rw [keepOf_out (by rw [h2]; simp), show c.2.2.toNat = 0 by omega]
  rfl
/-- Behind a Sync. -/
theorem out_sync {s : DS} {c : Ch} (h1 : s.pcs = []) (h2 : s.sizes = []) : outS s c = s.dur := by
  have hn : outN s c = s.dur.length := outN_none (by unfold szIx; rw [h2]; simp; omega)
  refine getD_list (by rw [outS_length]; exact hn) fun x hx => ?_
  rw [outS_length] at hx
  have e1 : (outS s c).getD x 0 = vis (keptP s c (x / 512)) x (s.dur.getD x 0) := by unfold outS; simp [List.getD_eq_getElem?_getD, hx]
  rw [e1]
  unfold keptP secP
  rw [h1]
  simp [vis]
end Vw
