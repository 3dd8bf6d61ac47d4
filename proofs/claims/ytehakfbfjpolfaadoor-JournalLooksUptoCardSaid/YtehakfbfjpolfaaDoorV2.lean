/- The small proof library: memory as a list of owned parts. -/
import Derived.Test.YtehakfbfjpolfaaDoorV1
set_option linter.all false
namespace Vw
open Go

/-- What one may have changed: S of what was there; all else that was there is as it was. -/
structure Kept (w w' : World) (S : Nat → Prop) : Prop where
  os : w'.os = w.os
  tape : w'.tape = w.tape
  output : w'.output = w.output
  size : w.heap.size ≤ w'.heap.size
  block : ∀ k, k < w.heap.size → ¬ S k → w'.heap[k]? = w.heap[k]?

theorem Kept.refl (w : World) (S : Nat → Prop) : Kept w w S := ⟨rfl, rfl, rfl, Nat.le_refl _, fun _ _ _ => rfl⟩

theorem Kept.trans {a b c : World} {S : Nat → Prop} (h : Kept a b S) (k : Kept b c S) : Kept a c S :=
  ⟨k.os.trans h.os, k.tape.trans h.tape, k.output.trans h.output, Nat.le_trans h.size k.size,
    fun i hi hs => (k.block i (Nat.lt_of_lt_of_le hi h.size) hs).trans (h.block i hi hs)⟩

theorem Kept.mono {a b : World} {S T : Nat → Prop} (h : Kept a b S) (hs : ∀ k, S k → T k) : Kept a b T :=
  ⟨h.os, h.tape, h.output, h.size, fun i hi ht => h.block i hi (fun x => ht (hs i x))⟩

/-- Nothing that was there has changed. -/
def None_ : Nat → Prop := fun _ => False

theorem Kept.below {w w' : World} (h : Kept w w' None_) : RowKit.Below w.heap.size w w' :=
  ⟨h.os, h.tape, h.output, h.size, fun k hk => h.block k hk (fun x => x)⟩

abbrev Heaplet := Nat → Option Obj
abbrev Asrt := Heaplet → Prop
def hle (h h' : Heaplet) : Prop := ∀ k o, h k = some o → h' k = some o
def hdis (h h' : Heaplet) : Prop := ∀ k, h k = none ∨ h' k = none

theorem hdis.symm {h h' : Heaplet} (d : hdis h h') : hdis h' h := fun k => (d k).symm
theorem hdis.mono {a b a' b' : Heaplet} (d : hdis a b) (ha : hle a' a) (hb : hle b' b) : hdis a' b' := fun k => by
  rcases d k with e | e
  · left
    cases h : a' k with
    | none => rfl
    | some o => have := ha k o h; rw [e] at this; cases this
  · right
    cases h : b' k with
    | none => rfl
    | some o => have := hb k o h; rw [e] at this; cases this
theorem hle.trans {a b c : Heaplet} (h : hle a b) (k : hle b c) : hle a c := fun i o e => k i o (h i o e)
theorem hle.refl (a : Heaplet) : hle a a := fun _ _ e => e

/-- The join of two heaplets, the first one ahead. -/
def hjoin (a b : Heaplet) : Heaplet := fun k => match a k with | some o => some o | none => b k
theorem hle_join_left (a b : Heaplet) : hle a (hjoin a b) := fun k o e => by simp [hjoin, e]
theorem hle_join_right {a b : Heaplet} (d : hdis a b) : hle b (hjoin a b) := fun k o e => by
  rcases d k with e' | e'
  · simp [hjoin, e', e]
  · rw [e] at e'; cases e'
theorem hjoin_le {a b c : Heaplet} (ha : hle a c) (hb : hle b c) : hle (hjoin a b) c := fun k o e => by
  unfold hjoin at e
  cases h : a k with
  | none => rw [h] at e; exact hb k o e
  | some u => rw [h] at e; cases e; exact ha k _ h
theorem hdis_join {a b c : Heaplet} (h : hdis a c) (k : hdis b c) : hdis (hjoin a b) c := fun i => by
  rcases h i with e | e
  · rcases k i with e' | e'
    · left; simp [hjoin, e, e']
    · exact .inr e'
  · exact .inr e

/-- Both, in parts of memory that have no block in common. -/
def star (A B : Asrt) : Asrt := fun h => ∃ h1 h2, hdis h1 h2 ∧ hle h1 h ∧ hle h2 h ∧ A h1 ∧ B h2
/-- All of a list, likewise. -/
def bigS : List Asrt → Asrt
  | [] => fun _ => True
  | A :: r => star A (bigS r)
def ex {α : Type} (f : α → Asrt) : Asrt := fun h => ∃ x, f x h
def pure_ (p : Prop) : Asrt := fun _ => p
/-- Block b holds the object o. -/
def blk (b : Nat) (o : Obj) : Asrt := fun h => h b = some o

/-- The list without one of its members. -/
inductive Take (A : Asrt) : List Asrt → List Asrt → Prop
  | here (r : List Asrt) : Take A (A :: r) r
  | there (C : Asrt) {r r' : List Asrt} : Take A r r' → Take A (C :: r) (C :: r')

/-- One member replaced. -/
inductive Up (A B : Asrt) : List Asrt → List Asrt → Prop
  | here (r : List Asrt) : Up A B (A :: r) (B :: r)
  | there (C : Asrt) {r r' : List Asrt} : Up A B r r' → Up A B (C :: r) (C :: r')

theorem Up.takes {A B : Asrt} {L L' : List Asrt} (h : Up A B L L') : ∃ R, Take A L R ∧ Take B L' R := by
  induction h with
  | here r => exact ⟨r, .here r, .here r⟩
  | there C _ ih => obtain ⟨R, h1, h2⟩ := ih; exact ⟨C :: R, .there C h1, .there C h2⟩

theorem star_swap {A B C : Asrt} {h : Heaplet} (hh : star A (star B C) h) : star B (star A C) h := by
  obtain ⟨a, r, d, la, lr, ha, b, c, d', lb, lc, hb, hc⟩ := hh
  refine ⟨b, hjoin a c, ?_, lb.trans lr, hjoin_le la (lc.trans lr), hb, a, c, ?_, hle_join_left a c, ?_, ha, hc⟩
  · exact (hdis_join (d.mono (hle.refl _) lb) d'.symm).symm
  · exact d.mono (hle.refl _) lc
  · exact hle_join_right (d.mono (hle.refl _) lc)

theorem star_mono {A B B' : Asrt} {h : Heaplet} (hB : ∀ x, B x → B' x) (hh : star A B h) : star A B' h := by
  obtain ⟨a, b, d, la, lb, ha, hb⟩ := hh
  exact ⟨a, b, d, la, lb, ha, hB _ hb⟩

theorem bigS_take {A : Asrt} {L R : List Asrt} (t : Take A L R) {h : Heaplet} (hh : bigS L h) : bigS (A :: R) h := by
  induction t generalizing h with
  | here r => exact hh
  | there C t ih => exact star_swap (star_mono (fun x hx => ih hx) hh)

theorem bigS_give {A : Asrt} {L R : List Asrt} (t : Take A L R) {h : Heaplet} (hh : bigS (A :: R) h) : bigS L h := by
  induction t generalizing h with
  | here r => exact hh
  | there C t ih => exact star_mono (fun x hx => ih hx) (star_swap hh)

/-- From where one comes, and what may be changed of it. -/
structure Sig where
  w0 : World
  S : Nat → Prop

/-- The world w, come from σ: it has, beside each other, all of the list. -/
structure St (σ : Sig) (w : World) (L : List Asrt) : Prop where
  kept : Kept σ.w0 w σ.S
  has : ∃ h : Heaplet, (∀ k o, h k = some o → w.heap[k]? = some o ∧ (σ.S k ∨ σ.w0.heap.size ≤ k)) ∧ bigS L h

section
variable {σ : Sig} {w w' : World} {L R : List Asrt} {A B C : Asrt}

theorem St.take (hs : St σ w L) (t : Take A L R) : St σ w (A :: R) := by
  obtain ⟨h, hh, hb⟩ := hs.has
  exact ⟨hs.kept, h, hh, bigS_take t hb⟩

theorem St.give (hs : St σ w (A :: R)) (t : Take A L R) : St σ w L := by
  obtain ⟨h, hh, hb⟩ := hs.has
  exact ⟨hs.kept, h, hh, bigS_give t hb⟩

/-- What is implied may stand in its place. -/
theorem St.imp (hs : St σ w (A :: R)) (hi : ∀ h, A h → B h) : St σ w (B :: R) := by
  obtain ⟨h, hh, a, r, d, la, lr, ha, hr⟩ := hs.has
  exact ⟨hs.kept, h, hh, a, r, d, la, lr, hi _ ha, hr⟩

theorem St.drop (hs : St σ w (A :: R)) : St σ w R := by
  obtain ⟨h, hh, a, r, d, la, lr, ha, hr⟩ := hs.has
  exact ⟨hs.kept, r, fun k o e => hh k o (lr k o e), hr⟩

theorem St.ex {α : Type} {f : α → Asrt} (hs : St σ w (ex f :: R)) : ∃ x, St σ w (f x :: R) := by
  obtain ⟨h, hh, a, r, d, la, lr, ⟨x, ha⟩, hr⟩ := hs.has
  exact ⟨x, hs.kept, h, hh, a, r, d, la, lr, ha, hr⟩

theorem St.pure_ {p : Prop} (hs : St σ w (star (pure_ p) A :: R)) : p ∧ St σ w (A :: R) := by
  obtain ⟨h, hh, a, r, d, la, lr, ⟨a1, a2, d', l1, l2, hp, h2⟩, hr⟩ := hs.has
  exact ⟨hp, hs.kept, h, hh, a2, r, d.mono l2 (hle.refl _), l2.trans la, lr, h2, hr⟩

theorem St.star (hs : St σ w (star A B :: R)) : St σ w (A :: B :: R) := by
  obtain ⟨h, hh, x, r, d, lx, lr, ⟨a, b, d', la, lb, ha, hb⟩, hr⟩ := hs.has
  refine ⟨hs.kept, h, hh, a, hjoin b r, ?_, la.trans lx, hjoin_le (lb.trans lx) lr, ha, b, r, ?_, hle_join_left _ _, ?_, hb, hr⟩
  · exact (hdis_join d'.symm (d.mono la (hle.refl _)).symm).symm
  · exact d.mono lb (hle.refl _)
  · exact hle_join_right (d.mono lb (hle.refl _))

theorem St.unstar (hs : St σ w (A :: B :: R)) : St σ w (Vw.star A B :: R) := by
  obtain ⟨h, hh, a, x, d, la, lx, ha, b, r, d', lb, lr, hb, hr⟩ := hs.has
  refine ⟨hs.kept, h, hh, hjoin a b, r, ?_, hjoin_le la (lb.trans lx), lr.trans lx, ⟨a, b, ?_, hle_join_left _ _, ?_, ha, hb⟩, hr⟩
  · exact hdis_join (d.mono (hle.refl _) lr) d'
  · exact d.mono (hle.refl _) lb
  · exact hle_join_right (d.mono (hle.refl _) lb)

theorem St.head {b : Nat} {o : Obj} (hs : St σ w (blk b o :: R)) : w.heap[b]? = some o := by
  obtain ⟨h, hh, a, r, d, la, lr, ha, hr⟩ := hs.has
  exact (hh _ _ (la _ _ ha)).1

/-- What a head says of its own heaplet, said of the world. -/
theorem St.see {p : Prop} (hs : St σ w (A :: R)) (hp : ∀ h : Heaplet, (∀ k o, h k = some o → w.heap[k]? = some o) → A h → p) : p := by
  obtain ⟨h, hh, a, r, d, la, lr, ha, hr⟩ := hs.has
  exact hp a (fun k o e => (hh _ _ (la _ _ e)).1) ha

/-- The new world has the same memory. -/
theorem St.same (hs : St σ w L) (h0 : w'.heap = w.heap) (h1 : w'.os = w.os) (h2 : w'.tape = w.tape) (h3 : w'.output = w.output) : St σ w' L := by
  obtain ⟨h, hh, hb⟩ := hs.has
  refine ⟨⟨h1.trans hs.kept.os, h2.trans hs.kept.tape, h3.trans hs.kept.output, by rw [h0]; exact hs.kept.size, fun k hk hn => by rw [h0]; exact hs.kept.block k hk hn⟩, h, fun k o e => ?_, hb⟩
  rw [h0]
  exact hh k o e

/-- A world that kept all that was there. -/
theorem St.ext (hs : St σ w L) (hk : Kept w w' None_) : St σ w' L := by
  obtain ⟨h, hh, hb⟩ := hs.has
  refine ⟨hs.kept.trans (hk.mono (fun _ x => x.elim)), h, fun k o e => ?_, hb⟩
  have h1 := hh k o e
  have hlt : k < w.heap.size := (Array.getElem?_eq_some_iff.1 h1.1).1
  exact ⟨(hk.block k hlt (fun x => x)).trans h1.1, h1.2⟩

/-- Only block b has changed: it holds o now. -/
structure Wrote (w w' : World) (b : Nat) (o : Obj) : Prop where
  os : w'.os = w.os
  tape : w'.tape = w.tape
  output : w'.output = w.output
  size : w'.heap.size = w.heap.size
  at_ : w'.heap[b]? = some o
  block : ∀ k, k ≠ b → w'.heap[k]? = w.heap[k]?

theorem St.wrote {b : Nat} {o o' : Obj} (hs : St σ w (blk b o :: R)) (hw : Wrote w w' b o') : St σ w' (blk b o' :: R) := by
  obtain ⟨h, hh, a, r, d, la, lr, ha, hr⟩ := hs.has
  have hb : a b = some o := ha
  have hS : σ.S b ∨ σ.w0.heap.size ≤ b := (hh b o (la _ _ hb)).2
  have hrb : r b = none := (d b).resolve_left (by rw [hb]; simp)
  refine ⟨⟨hw.os.trans hs.kept.os, hw.tape.trans hs.kept.tape, hw.output.trans hs.kept.output, by rw [hw.size]; exact hs.kept.size, fun k hk hn => ?_⟩,
    fun k => if k = b then some o' else r k, fun k u e => ?_, fun k => if k = b then some o' else none, r, fun k => ?_, fun k u e => ?_, fun k u e => ?_, ?_, hr⟩
  · have hne : k ≠ b := fun e => by subst e; rcases hS with x | x; exact hn x; omega
    rw [hw.block k hne]; exact hs.kept.block k hk hn
  · by_cases e' : k = b
    · subst e'; simp at e; subst e; exact ⟨hw.at_, hS⟩
    · simp only [e', if_false] at e
      rw [hw.block k e']
      exact hh k u (lr _ _ e)
  · by_cases e' : k = b
    · subst e'; exact .inr hrb
    · exact .inl (by simp [e'])
  · by_cases e' : k = b
    · simpa [e'] using e
    · simp [e'] at e
  · by_cases e' : k = b
    · subst e'; rw [hrb] at e; cases e
    · simpa [e'] using e
  · simp [blk]

theorem kept_alloc (w : World) (o : Obj) (S : Nat → Prop) : Kept w (w.alloc o) S :=
  ⟨rfl, rfl, rfl, by simp, fun k hk _ => heap_alloc_old w o k hk⟩

theorem St.alloc (hs : St σ w L) (o : Obj) : St σ (w.alloc o) (blk w.heap.size o :: L) := by
  obtain ⟨h, hh, hb⟩ := hs.has
  have hnone : h w.heap.size = none := by
    cases e : h w.heap.size with
    | none => rfl
    | some u => have := (hh _ _ e).1; simp at this
  refine ⟨hs.kept.trans (kept_alloc w o _), fun k => if k = w.heap.size then some o else h k, fun k u e => ?_,
    fun k => if k = w.heap.size then some o else none, h, fun k => ?_, fun k u e => ?_, fun k u e => ?_, by simp [blk], hb⟩
  · by_cases e' : k = w.heap.size
    · subst e'; simp at e; subst e; exact ⟨heap_alloc_new w _, .inr hs.kept.size⟩
    · simp only [e', if_false] at e
      have h1 := hh k u e
      have hlt : k < w.heap.size := (Array.getElem?_eq_some_iff.1 h1.1).1
      exact ⟨(heap_alloc_old w o k hlt).trans h1.1, h1.2⟩
  · by_cases e' : k = w.heap.size
    · subst e'; exact .inr hnone
    · exact .inl (by simp [e'])
  · by_cases e' : k = w.heap.size
    · simpa [e'] using e
    · simp [e'] at e
  · by_cases e' : k = w.heap.size
    · subst e'; rw [hnone] at e; cases e
    · simpa [e'] using e

theorem St.start (w : World) (S : Nat → Prop) : St ⟨w, S⟩ w [] := ⟨Kept.refl w S, fun _ => none, by simp, trivial⟩
end
end Vw
