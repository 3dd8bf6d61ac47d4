/- Texts 1 of 17 that the law rests on: the small library, contracts of functions, printed by a program. -/
import Derived.Tactics
import Derived.Below
import Derived.Deep.Quiet
import Derived.KernelRfl
set_option maxRecDepth 100000
set_option linter.all false
namespace Vw
open Go
def look : List (Nat × Value) → Nat → Option Value
  | [], _ => none
  | (k, v) :: r, n => bif Nat.beq k n then some v else look r n
theorem look_cons_self (n : Nat) (v : Value) (r : List (Nat × Value)) : look ((n, v) :: r) n = some v := by
  simp [look]
theorem look_cons_ne {n m : Nat} (v : Value) (r : List (Nat × Value)) (h : n ≠ m) : look ((n, v) :: r) m = look r m := by
  have : Nat.beq n m = false := by
    cases hb : Nat.beq n m with
    | false => rfl
    | true => exact absurd (Nat.eq_of_beq_eq_true hb) h
  simp [look, this]
def ev (L : List (Nat × Value)) : Operand → Option Value
  | .tmp n => look L n
  | .const v => some v
  | .global g => some (.pointer (some ⟨g, 0, none⟩))
  | .func f => some (.func (.func f) #[] #[])
structure Has (N : Nat) (a : Act) (L : List (Nat × Value)) : Prop where
  size : a.tmps.size = N
  defers : a.defers = []
  get : ∀ n v, look L n = some v → a.tmps[n]? = some v
section
variable {N : Nat} {a : Act} {L : List (Nat × Value)}
theorem Has.eval (h : Has N a L) {x : Operand} {v : Value} (hx : ev L x = some v) : a.eval x = v := by
  cases x with
  | tmp n =>
    have := h.get n v hx
    simp [Act.eval, Array.getD_eq_getD_getElem?, this]
  | const v' => exact Option.some.inj hx
  | global g => exact Option.some.inj hx
  | func f => exact Option.some.inj hx
theorem Has.put (h : Has N a L) {d : Nat} (v : Value) (hd : d < N) : Has N (a.put (some d) v) ((d, v) :: L) := by
  refine ⟨by simp [Act.put, h.size], by simp [Act.put, h.defers], fun n u hu => ?_⟩
  by_cases e : d = n
  · subst e
    rw [look_cons_self] at hu
    cases hu
    simp [Act.put, h.size, hd]
  · rw [look_cons_ne _ _ e] at hu
    simp [Act.put, e, h.get n u hu]
theorem Has.putO (h : Has N a L) {d : Option Nat} (v : Value) (hd : ∀ k, d = some k → k < N) : Has N (a.put d v) (match d with | some k => (k, v) :: L | none => L) := by
  cases d with
  | none => exact h
  | some k => exact h.put v (hd k rfl)
def Sub : List (Nat × Value) → List (Nat × Value) → Prop
  | [], _ => True
  | p :: r, L => look L p.1 = some p.2 ∧ Sub r L
theorem Sub.get {L' L : List (Nat × Value)} (h : Sub L' L) {n : Nat} {v : Value} (hn : look L' n = some v) : look L n = some v := by
  induction L' with
  | nil => simp [look] at hn
  | cons p r ih =>
    obtain ⟨k, u⟩ := p
    by_cases e : k = n
    · subst e
      rw [look_cons_self] at hn
      cases hn
      exact h.1
    · rw [look_cons_ne _ _ e] at hn
      exact ih h.2 hn
theorem Has.sub {L' : List (Nat × Value)} (h : Has N a L) (hs : Sub L' L) : Has N a L' := ⟨h.size, h.defers, fun n v hn => h.get n v (hs.get hn)⟩
end
section
variable {P : Program} {ops : Array Oper} {Q : Exit → Act → World → Prop} {rest : List Oper} {a : Act} {w : World} {N : Nat} {L : List (Nat × Value)}
variable {d : Nat} {op : Op} {ty : TypeId} {pos : String} {after : Array Edge}
theorem s_nil (h : Q .normal a w) : wpList P ops Q [] a w := h
end
end Vw

namespace Vw
open Go
structure Kept (w w' : World) (S : Nat → Prop) : Prop where
  os : w'.os = w.os
  tape : w'.tape = w.tape
  output : w'.output = w.output
  size : w.heap.size ≤ w'.heap.size
  block : ∀ k, k < w.heap.size → ¬ S k → w'.heap[k]? = w.heap[k]?
theorem Kept.refl (w : World) (S : Nat → Prop) : Kept w w S := ⟨rfl, rfl, rfl, Nat.le_refl _, fun _ _ _ => rfl⟩
theorem Kept.trans {a b c : World} {S : Nat → Prop} (h : Kept a b S) (k : Kept b c S) : Kept a c S :=
  ⟨k.os.trans h.os, k.tape.trans h.tape, k.output.trans h.output, Nat.le_trans h.size k.size,
    fun i hi hs => (k.block i (Nat.lt_of_lt_of_le hi h.size) hs).trans (h.block i hi hs)⟩
theorem Kept.mono {a b : World} {S T : Nat → Prop} (h : Kept a b S) (hs : ∀ k, S k → T k) : Kept a b T :=
  ⟨h.os, h.tape, h.output, h.size, fun i hi ht => h.block i hi (fun x => ht (hs i x))⟩
def None_ : Nat → Prop := fun _ => False
theorem Kept.below {w w' : World} (h : Kept w w' None_) : RowKit.Below w.heap.size w w' :=
  ⟨h.os, h.tape, h.output, h.size, fun k hk => h.block k hk (fun x => x)⟩
abbrev Heaplet := Nat → Option Obj
abbrev Asrt := Heaplet → Prop
def hle (h h' : Heaplet) : Prop := ∀ k o, h k = some o → h' k = some o
def hdis (h h' : Heaplet) : Prop := ∀ k, h k = none ∨ h' k = none
theorem hdis.symm {h h' : Heaplet} (d : hdis h h') : hdis h' h := fun k => (d k).symm
theorem hdis.mono {a b a' b' : Heaplet} (d : hdis a b) (ha : hle a' a) (hb : hle b' b) : hdis a' b' := fun k => by
  rcases d k with e | e
  · left
    cases h : a' k with
    | none => rfl
    | some o => have := ha k o h; rw [e] at this; cases this
  · right
    cases h : b' k with
    | none => rfl
    | some o => have := hb k o h; rw [e] at this; cases this
theorem hle.trans {a b c : Heaplet} (h : hle a b) (k : hle b c) : hle a c := fun i o e => k i o (h i o e)
theorem hle.refl (a : Heaplet) : hle a a := fun _ _ e => e
def hjoin (a b : Heaplet) : Heaplet := fun k => match a k with | some o => some o | none => b k
theorem hle_join_left (a b : Heaplet) : hle a (hjoin a b) := fun k o e => by simp [hjoin, e]
theorem hle_join_right {a b : Heaplet} (d : hdis a b) : hle b (hjoin a b) := fun k o e => by
  rcases d k with e' | e'
  · simp [hjoin, e', e]
  · rw [e] at e'; cases e'
theorem hjoin_le {a b c : Heaplet} (ha : hle a c) (hb : hle b c) : hle (hjoin a b) c := fun k o e => by
  unfold hjoin at e
  cases h : a k with
  | none => rw [h] at e; exact hb k o e
  | some u => rw [h] at e; cases e; exact ha k _ h
theorem hdis_join {a b c : Heaplet} (h : hdis a c) (k : hdis b c) : hdis (hjoin a b) c := fun i => by
  rcases h i with e | e
  · rcases k i with e' | e'
    · left; simp [hjoin, e, e']
    · exact .inr e'
  · exact .inr e
def star (A B : Asrt) : Asrt := fun h => ∃ h1 h2, hdis h1 h2 ∧ hle h1 h ∧ hle h2 h ∧ A h1 ∧ B h2
def bigS : List Asrt → Asrt
  | [] => fun _ => True
  | A :: r => star A (bigS r)
def ex {α : Type} (f : α → Asrt) : Asrt := fun h => ∃ x, f x h
def pure_ (p : Prop) : Asrt := fun _ => p
def blk (b : Nat) (o : Obj) : Asrt := fun h => h b = some o
inductive Take (A : Asrt) : List Asrt → List Asrt → Prop
  | here (r : List Asrt) : Take A (A :: r) r
  | there (C : Asrt) {r r' : List Asrt} : Take A r r' → Take A (C :: r) (C :: r')
inductive Up (A B : Asrt) : List Asrt → List Asrt → Prop
  | here (r : List Asrt) : Up A B (A :: r) (B :: r)
  | there (C : Asrt) {r r' : List Asrt} : Up A B r r' → Up A B (C :: r) (C :: r')
theorem Up.takes {A B : Asrt} {L L' : List Asrt} (h : Up A B L L') : ∃ R, Take A L R ∧ Take B L' R := by
  induction h with
  | here r => exact ⟨r, .here r, .here r⟩
  | there C _ ih => obtain ⟨R, h1, h2⟩ := ih; exact ⟨C :: R, .there C h1, .there C h2⟩
theorem star_swap {A B C : Asrt} {h : Heaplet} (hh : star A (star B C) h) : star B (star A C) h := by
  obtain ⟨a, r, d, la, lr, ha, b, c, d', lb, lc, hb, hc⟩ := hh
  refine ⟨b, hjoin a c, ?_, lb.trans lr, hjoin_le la (lc.trans lr), hb, a, c, ?_, hle_join_left a c, ?_, ha, hc⟩
  · exact (hdis_join (d.mono (hle.refl _) lb) d'.symm).symm
  · exact d.mono (hle.refl _) lc
  · exact hle_join_right (d.mono (hle.refl _) lc)
theorem star_mono {A B B' : Asrt} {h : Heaplet} (hB : ∀ x, B x → B' x) (hh : star A B h) : star A B' h := by
  obtain ⟨a, b, d, la, lb, ha, hb⟩ := hh
  exact ⟨a, b, d, la, lb, ha, hB _ hb⟩
theorem bigS_take {A : Asrt} {L R : List Asrt} (t : Take A L R) {h : Heaplet} (hh : bigS L h) : bigS (A :: R) h := by
  induction t generalizing h with
  | here r => exact hh
  | there C t ih => exact star_swap (star_mono (fun x hx => ih hx) hh)
theorem bigS_give {A : Asrt} {L R : List Asrt} (t : Take A L R) {h : Heaplet} (hh : bigS (A :: R) h) : bigS L h := by
  induction t generalizing h with
  | here r => exact hh
  | there C t ih => exact star_mono (fun x hx => ih hx) (star_swap hh)
structure Sig where
  w0 : World
  S : Nat → Prop
structure St (σ : Sig) (w : World) (L : List Asrt) : Prop where
  kept : Kept σ.w0 w σ.S
  has : ∃ h : Heaplet, (∀ k o, h k = some o → w.heap[k]? = some o ∧ (σ.S k ∨ σ.w0.heap.size ≤ k)) ∧ bigS L h
section
variable {σ : Sig} {w w' : World} {L R : List Asrt} {A B C : Asrt}
theorem St.take (hs : St σ w L) (t : Take A L R) : St σ w (A :: R) := by
  obtain ⟨h, hh, hb⟩ := hs.has
  exact ⟨hs.kept, h, hh, bigS_take t hb⟩
theorem St.give (hs : St σ w (A :: R)) (t : Take A L R) : St σ w L := by
  obtain ⟨h, hh, hb⟩ := hs.has
  exact ⟨hs.kept, h, hh, bigS_give t hb⟩
theorem St.imp (hs : St σ w (A :: R)) (hi : ∀ h, A h → B h) : St σ w (B :: R) := by
  obtain ⟨h, hh, a, r, d, la, lr, ha, hr⟩ := hs.has
  exact ⟨hs.kept, h, hh, a, r, d, la, lr, hi _ ha, hr⟩
theorem St.drop (hs : St σ w (A :: R)) : St σ w R := by
  obtain ⟨h, hh, a, r, d, la, lr, ha, hr⟩ := hs.has
  exact ⟨hs.kept, r, fun k o e => hh k o (lr k o e), hr⟩
theorem St.ex {α : Type} {f : α → Asrt} (hs : St σ w (ex f :: R)) : ∃ x, St σ w (f x :: R) := by
  obtain ⟨h, hh, a, r, d, la, lr, ⟨x, ha⟩, hr⟩ := hs.has
  exact ⟨x, hs.kept, h, hh, a, r, d, la, lr, ha, hr⟩
theorem St.pure_ {p : Prop} (hs : St σ w (star (pure_ p) A :: R)) : p ∧ St σ w (A :: R) := by
  obtain ⟨h, hh, a, r, d, la, lr, ⟨a1, a2, d', l1, l2, hp, h2⟩, hr⟩ := hs.has
  exact ⟨hp, hs.kept, h, hh, a2, r, d.mono l2 (hle.refl _), l2.trans la, lr, h2, hr⟩
theorem St.star (hs : St σ w (star A B :: R)) : St σ w (A :: B :: R) := by
  obtain ⟨h, hh, x, r, d, lx, lr, ⟨a, b, d', la, lb, ha, hb⟩, hr⟩ := hs.has
  refine ⟨hs.kept, h, hh, a, hjoin b r, ?_, la.trans lx, hjoin_le (lb.trans lx) lr, ha, b, r, ?_, hle_join_left _ _, ?_, hb, hr⟩
  · exact (hdis_join d'.symm (d.mono la (hle.refl _)).symm).symm
  · exact d.mono lb (hle.refl _)
  · exact hle_join_right (d.mono lb (hle.refl _))
theorem St.unstar (hs : St σ w (A :: B :: R)) : St σ w (Vw.star A B :: R) := by
  obtain ⟨h, hh, a, x, d, la, lx, ha, b, r, d', lb, lr, hb, hr⟩ := hs.has
  refine ⟨hs.kept, h, hh, hjoin a b, r, ?_, hjoin_le la (lb.trans lx), lr.trans lx, ⟨a, b, ?_, hle_join_left _ _, ?_, ha, hb⟩, hr⟩
  · exact hdis_join (d.mono (hle.refl _) lr) d'
  · exact d.mono (hle.refl _) lb
  · exact hle_join_right (d.mono (hle.refl _) lb)
theorem St.head {b : Nat} {o : Obj} (hs : St σ w (blk b o :: R)) : w.heap[b]? = some o := by
  obtain ⟨h, hh, a, r, d, la, lr, ha, hr⟩ := hs.has
  exact (hh _ _ (la _ _ ha)).1
theorem St.see {p : Prop} (hs : St σ w (A :: R)) (hp : ∀ h : Heaplet, (∀ k o, h k = some o → w.heap[k]? = some o) → A h → p) : p := by
  obtain ⟨h, hh, a, r, d, la, lr, ha, hr⟩ := hs.has
  exact hp a (fun k o e => (hh _ _ (la _ _ e)).1) ha
theorem St.same (hs : St σ w L) (h0 : w'.heap = w.heap) (h1 : w'.os = w.os) (h2 : w'.tape = w.tape) (h3 : w'.output = w.output) : St σ w' L := by
  obtain ⟨h, hh, hb⟩ := hs.has
  refine ⟨⟨h1.trans hs.kept.os, h2.trans hs.kept.tape, h3.trans hs.kept.output, by rw [h0]; exact hs.kept.size, fun k hk hn => by rw [h0]; exact hs.kept.block k hk hn⟩, h, fun k o e => ?_, hb⟩
  rw [h0]
  exact hh k o e
theorem St.ext (hs : St σ w L) (hk : Kept w w' None_) : St σ w' L := by
  obtain ⟨h, hh, hb⟩ := hs.has
  refine ⟨hs.kept.trans (hk.mono (fun _ x => x.elim)), h, fun k o e => ?_, hb⟩
  have h1 := hh k o e
  have hlt : k < w.heap.size := (Array.getElem?_eq_some_iff.1 h1.1).1
  exact ⟨(hk.block k hlt (fun x => x)).trans h1.1, h1.2⟩
structure Wrote (w w' : World) (b : Nat) (o : Obj) : Prop where
  os : w'.os = w.os
  tape : w'.tape = w.tape
  output : w'.output = w.output
  size : w'.heap.size = w.heap.size
  at_ : w'.heap[b]? = some o
  block : ∀ k, k ≠ b → w'.heap[k]? = w.heap[k]?
theorem St.wrote {b : Nat} {o o' : Obj} (hs : St σ w (blk b o :: R)) (hw : Wrote w w' b o') : St σ w' (blk b o' :: R) := by
  obtain ⟨h, hh, a, r, d, la, lr, ha, hr⟩ := hs.has
  have hb : a b = some o := ha
  have hS : σ.S b ∨ σ.w0.heap.size ≤ b := (hh b o (la _ _ hb)).2
  have hrb : r b = none := (d b).resolve_left (by rw [hb]; simp)
  refine ⟨⟨hw.os.trans hs.kept.os, hw.tape.trans hs.kept.tape, hw.output.trans hs.kept.output, by rw [hw.size]; exact hs.kept.size, fun k hk hn => ?_⟩,
    fun k => if k = b then some o' else r k, fun k u e => ?_, fun k => if k = b then some o' else none, r, fun k => ?_, fun k u e => ?_, fun k u e => ?_, ?_, hr⟩
  · have hne : k ≠ b := fun e => by subst e; rcases hS with x | x; exact hn x; omega
    rw [hw.block k hne]; exact hs.kept.block k hk hn
  · by_cases e' : k = b
    · subst e'; simp at e; subst e; exact ⟨hw.at_, hS⟩
    · simp only [e', if_false] at e
      rw [hw.block k e']
      exact hh k u (lr _ _ e)
  · by_cases e' : k = b
    · subst e'; exact .inr hrb
    · exact .inl (by simp [e'])
  · by_cases e' : k = b
    · simpa [e'] using e
    · simp [e'] at e
  · by_cases e' : k = b
    · subst e'; rw [hrb] at e; cases e
    · simpa [e'] using e
  · simp [blk]
theorem kept_alloc (w : World) (o : Obj) (S : Nat → Prop) : Kept w (w.alloc o) S :=
  ⟨rfl, rfl, rfl, by simp, fun k hk _ => heap_alloc_old w o k hk⟩
theorem St.alloc (hs : St σ w L) (o : Obj) : St σ (w.alloc o) (blk w.heap.size o :: L) := by
  obtain ⟨h, hh, hb⟩ := hs.has
  have hnone : h w.heap.size = none := by
    cases e : h w.heap.size with
    | none => rfl
    | some u => have := (hh _ _ e).1; simp at this
  refine ⟨hs.kept.trans (kept_alloc w o _), fun k => if k = w.heap.size then some o else h k, fun k u e => ?_,
    fun k => if k = w.heap.size then some o else none, h, fun k => ?_, fun k u e => ?_, fun k u e => ?_, by simp [blk], hb⟩
  · by_cases e' : k = w.heap.size
    · subst e'; simp at e; subst e; exact ⟨heap_alloc_new w _, .inr hs.kept.size⟩
    · simp only [e', if_false] at e
      have h1 := hh k u e
      have hlt : k < w.heap.size := (Array.getElem?_eq_some_iff.1 h1.1).1
      exact ⟨(heap_alloc_old w o k hlt).trans h1.1, h1.2⟩
  · by_cases e' : k = w.heap.size
    · subst e'; exact .inr hnone
    · exact .inl (by simp [e'])
  · by_cases e' : k = w.heap.size
    · simpa [e'] using e
    · simp [e'] at e
  · by_cases e' : k = w.heap.size
    · subst e'; rw [hnone] at e; cases e
    · simpa [e'] using e
theorem St.start (w : World) (S : Nat → Prop) : St ⟨w, S⟩ w [] := ⟨Kept.refl w S, fun _ => none, by simp, trivial⟩
end
theorem Take.k0 {A : Asrt} {r : List Asrt} : Take A (A :: r) (r) := .here _
theorem Up.k0 {A B : Asrt} {r : List Asrt} : Up A B (A :: r) (B :: r) := .here _
theorem Take.k1 {A C0 : Asrt} {r : List Asrt} : Take A (C0 :: A :: r) (C0 :: r) := .there _ (.here _)
theorem Up.k1 {A B C0 : Asrt} {r : List Asrt} : Up A B (C0 :: A :: r) (C0 :: B :: r) := .there _ (.here _)
theorem Take.k2 {A C0 C1 : Asrt} {r : List Asrt} : Take A (C0 :: C1 :: A :: r) (C0 :: C1 :: r) := .there _ (.there _ (.here _))
theorem Up.k2 {A B C0 C1 : Asrt} {r : List Asrt} : Up A B (C0 :: C1 :: A :: r) (C0 :: C1 :: B :: r) := .there _ (.there _ (.here _))
theorem Take.k3 {A C0 C1 C2 : Asrt} {r : List Asrt} : Take A (C0 :: C1 :: C2 :: A :: r) (C0 :: C1 :: C2 :: r) := .there _ (.there _ (.there _ (.here _)))
theorem Up.k3 {A B C0 C1 C2 : Asrt} {r : List Asrt} : Up A B (C0 :: C1 :: C2 :: A :: r) (C0 :: C1 :: C2 :: B :: r) := .there _ (.there _ (.there _ (.here _)))
theorem Take.k4 {A C0 C1 C2 C3 : Asrt} {r : List Asrt} : Take A (C0 :: C1 :: C2 :: C3 :: A :: r) (C0 :: C1 :: C2 :: C3 :: r) := .there _ (.there _ (.there _ (.there _ (.here _))))
theorem Up.k4 {A B C0 C1 C2 C3 : Asrt} {r : List Asrt} : Up A B (C0 :: C1 :: C2 :: C3 :: A :: r) (C0 :: C1 :: C2 :: C3 :: B :: r) := .there _ (.there _ (.there _ (.there _ (.here _))))
theorem Take.k5 {A C0 C1 C2 C3 C4 : Asrt} {r : List Asrt} : Take A (C0 :: C1 :: C2 :: C3 :: C4 :: A :: r) (C0 :: C1 :: C2 :: C3 :: C4 :: r) := .there _ (.there _ (.there _ (.there _ (.there _ (.here _)))))
theorem Up.k5 {A B C0 C1 C2 C3 C4 : Asrt} {r : List Asrt} : Up A B (C0 :: C1 :: C2 :: C3 :: C4 :: A :: r) (C0 :: C1 :: C2 :: C3 :: C4 :: B :: r) := .there _ (.there _ (.there _ (.there _ (.there _ (.here _)))))
theorem Take.k6 {A C0 C1 C2 C3 C4 C5 : Asrt} {r : List Asrt} : Take A (C0 :: C1 :: C2 :: C3 :: C4 :: C5 :: A :: r) (C0 :: C1 :: C2 :: C3 :: C4 :: C5 :: r) := .there _ (.there _ (.there _ (.there _ (.there _ (.there _ (.here _))))))
theorem Up.k6 {A B C0 C1 C2 C3 C4 C5 : Asrt} {r : List Asrt} : Up A B (C0 :: C1 :: C2 :: C3 :: C4 :: C5 :: A :: r) (C0 :: C1 :: C2 :: C3 :: C4 :: C5 :: B :: r) := .there _ (.there _ (.there _ (.there _ (.there _ (.there _ (.here _))))))
theorem Take.k7 {A C0 C1 C2 C3 C4 C5 C6 : Asrt} {r : List Asrt} : Take A (C0 :: C1 :: C2 :: C3 :: C4 :: C5 :: C6 :: A :: r) (C0 :: C1 :: C2 :: C3 :: C4 :: C5 :: C6 :: r) := .there _ (.there _ (.there _ (.there _ (.there _ (.there _ (.there _ (.here _)))))))
theorem Up.k7 {A B C0 C1 C2 C3 C4 C5 C6 : Asrt} {r : List Asrt} : Up A B (C0 :: C1 :: C2 :: C3 :: C4 :: C5 :: C6 :: A :: r) (C0 :: C1 :: C2 :: C3 :: C4 :: C5 :: C6 :: B :: r) := .there _ (.there _ (.there _ (.there _ (.there _ (.there _ (.there _ (.here _)))))))
theorem Take.k8 {A C0 C1 C2 C3 C4 C5 C6 C7 : Asrt} {r : List Asrt} : Take A (C0 :: C1 :: C2 :: C3 :: C4 :: C5 :: C6 :: C7 :: A :: r) (C0 :: C1 :: C2 :: C3 :: C4 :: C5 :: C6 :: C7 :: r) := .there _ (.there _ (.there _ (.there _ (.there _ (.there _ (.there _ (.there _ (.here _))))))))
theorem Up.k8 {A B C0 C1 C2 C3 C4 C5 C6 C7 : Asrt} {r : List Asrt} : Up A B (C0 :: C1 :: C2 :: C3 :: C4 :: C5 :: C6 :: C7 :: A :: r) (C0 :: C1 :: C2 :: C3 :: C4 :: C5 :: C6 :: C7 :: B :: r) := .there _ (.there _ (.there _ (.there _ (.there _ (.there _ (.there _ (.there _ (.here _))))))))
theorem zd1 {p : Prop} [h : Decidable p] : (decide p = true) = p := decide_eq_true_eq
theorem zd2 {p : Prop} [h : Decidable p] : decide p = false ↔ ¬p := decide_eq_false_iff_not
theorem zd3 {b : Bool} : ((!b) = true) = (b = false) := Bool.not_eq_true' b
theorem zd4 {b : Bool} : ((!b) = false) = (b = true) := Bool.not_eq_false' b
theorem zd5 {b : Bool} : (¬b = true) = (b = false) := Bool.not_eq_true b
theorem zd6 {a b : Int} : ¬a < b ↔ b ≤ a := Int.not_lt
theorem zd7 {a b : Int} : ¬a ≤ b ↔ b < a := Int.not_le
end Vw
