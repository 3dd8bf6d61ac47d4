/- The small proof library: frames as lists of known slots, and one rule an operation. -/
import Derived.Tactics
import Derived.Below
import Derived.Deep.Quiet
import Derived.KernelRfl
set_option linter.all false
namespace Vw
open Go

/-- The value that a list of known slots gives to a slot: the first entry counts. -/
def look : List (Nat × Value) → Nat → Option Value
  | [], _ => none
  | (k, v) :: r, n => bif Nat.beq k n then some v else look r n

theorem look_cons_self (n : Nat) (v : Value) (r : List (Nat × Value)) : look ((n, v) :: r) n = some v := by
  simp [look]
theorem look_cons_ne {n m : Nat} (v : Value) (r : List (Nat × Value)) (h : n ≠ m) : look ((n, v) :: r) m = look r m := by
  have : Nat.beq n m = false := by
    cases hb : Nat.beq n m with
    | false => rfl
    | true => exact absurd (Nat.eq_of_beq_eq_true hb) h
  simp [look, this]

/-- What an operand is, by a list of known slots. -/
def ev (L : List (Nat × Value)) : Operand → Option Value
  | .tmp n => look L n
  | .const v => some v
  | .global g => some (.pointer (some ⟨g, 0, none⟩))
  | .func f => some (.func (.func f) #[] #[])

/-- A frame of N slots, nothing deferred, of which the list's slots are known. -/
structure Has (N : Nat) (a : Act) (L : List (Nat × Value)) : Prop where
  size : a.tmps.size = N
  defers : a.defers = []
  get : ∀ n v, look L n = some v → a.tmps[n]? = some v

section
variable {N : Nat} {a : Act} {L : List (Nat × Value)}

theorem Has.eval (h : Has N a L) {x : Operand} {v : Value} (hx : ev L x = some v) : a.eval x = v := by
  cases x with
  | tmp n =>
    have := h.get n v hx
    simp [Act.eval, Array.getD_eq_getD_getElem?, this]
  | const v' => exact Option.some.inj hx
  | global g => exact Option.some.inj hx
  | func f => exact Option.some.inj hx

theorem Has.put (h : Has N a L) {d : Nat} (v : Value) (hd : d < N) : Has N (a.put (some d) v) ((d, v) :: L) := by
  refine ⟨by simp [Act.put, h.size], by simp [Act.put, h.defers], fun n u hu => ?_⟩
  by_cases e : d = n
  · subst e
    rw [look_cons_self] at hu
    cases hu
    simp [Act.put, h.size, hd]
  · rw [look_cons_ne _ _ e] at hu
    simp [Act.put, e, h.get n u hu]

theorem Has.putO (h : Has N a L) {d : Option Nat} (v : Value) (hd : ∀ k, d = some k → k < N) : Has N (a.put d v) (match d with | some k => (k, v) :: L | none => L) := by
  cases d with
  | none => exact h
  | some k => exact h.put v (hd k rfl)

/-- Each entry of the first list is what the second one gives. -/
def Sub : List (Nat × Value) → List (Nat × Value) → Prop
  | [], _ => True
  | p :: r, L => look L p.1 = some p.2 ∧ Sub r L

theorem Sub.get {L' L : List (Nat × Value)} (h : Sub L' L) {n : Nat} {v : Value} (hn : look L' n = some v) : look L n = some v := by
  induction L' with
  | nil => simp [look] at hn
  | cons p r ih =>
    obtain ⟨k, u⟩ := p
    by_cases e : k = n
    · subst e
      rw [look_cons_self] at hn
      cases hn
      exact h.1
    · rw [look_cons_ne _ _ e] at hn
      exact ih h.2 hn

theorem Has.sub {L' : List (Nat × Value)} (h : Has N a L) (hs : Sub L' L) : Has N a L' := ⟨h.size, h.defers, fun n v hn => h.get n v (hs.get hn)⟩
end

section
variable {P : Program} {ops : Array Oper} {Q : Exit → Act → World → Prop} {rest : List Oper} {a : Act} {w : World} {N : Nat} {L : List (Nat × Value)}
variable {d : Nat} {op : Op} {ty : TypeId} {pos : String} {after : Array Edge}

/-- An operation that yields a value. -/
theorem s_val {v : Value} {w' : World} (hf : Has N a L) (hd : d < N) (hrun : (execOp a.eval ⟨some d, op, ty, pos, after, none⟩).run P w = .ok (.value v) w')
    (h : ∀ a', Has N a' ((d, v) :: L) → wpList P ops Q rest a' w') : wpList P ops Q (⟨some d, op, ty, pos, after, none⟩ :: rest) a w := by
  refine wpList_plain rfl fun K hK => ?_
  unfold Oper.wp
  rw [hrun]
  exact hK _ _ (h _ (hf.put v hd))

/-- An operation that yields nothing. -/
theorem s_skip {w' : World} (hf : Has N a L) (hrun : (execOp a.eval ⟨none, op, ty, pos, after, none⟩).run P w = .ok .skip w')
    (h : ∀ a', Has N a' L → wpList P ops Q rest a' w') : wpList P ops Q (⟨none, op, ty, pos, after, none⟩ :: rest) a w := by
  refine wpList_plain rfl fun K hK => ?_
  unfold Oper.wp
  rw [hrun]
  exact hK _ _ (h _ hf)

/-- A value that nobody takes. -/
theorem s_val0 {v : Value} {w' : World} (hf : Has N a L) (hrun : (execOp a.eval ⟨none, op, ty, pos, after, none⟩).run P w = .ok (.value v) w')
    (h : ∀ a', Has N a' L → wpList P ops Q rest a' w') : wpList P ops Q (⟨none, op, ty, pos, after, none⟩ :: rest) a w := by
  refine wpList_plain rfl fun K hK => ?_
  unfold Oper.wp
  rw [hrun]
  exact hK _ _ (h _ hf)

theorem s_nil (h : Q .normal a w) : wpList P ops Q [] a w := h

theorem s_move {x : Operand} {v : Value} (hf : Has N a L) (hd : d < N) (hx : ev L x = some v)
    (h : ∀ a', Has N a' ((d, v) :: L) → wpList P ops Q rest a' w) : wpList P ops Q (⟨some d, .move x, ty, pos, after, none⟩ :: rest) a w :=
  s_val hf hd (by simp only [execOp, hf.eval hx]; rfl) h

theorem s_assign {x : Operand} {v : Value} (hf : Has N a L) (hd : d < N) (hx : ev L x = some v)
    (h : ∀ a', Has N a' ((d, v) :: L) → wpList P ops Q rest a' w) : wpList P ops Q (⟨some d, .assign x, ty, pos, after, none⟩ :: rest) a w :=
  s_val hf hd (by simp only [execOp, hf.eval hx]; rfl) h
end
end Vw
