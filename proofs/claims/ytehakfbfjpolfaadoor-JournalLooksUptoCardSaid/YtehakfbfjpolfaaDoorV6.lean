/- The small proof library: steps, control, results. -/
import Derived.Test.YtehakfbfjpolfaaDoorV5
set_option linter.all false
namespace Vw
open Go

/-- One operation, from world w, yields a value and a world of which K holds. -/
def Does (P : Program) (ρ : Operand → Value) (o : Oper) (w : World) (K : Value → World → Prop) : Prop :=
  match (execOp ρ o).run P w with
  | .ok (.value v) w' => K v w'
  | .ok .skip w' => K undef w'
  | .ok (.enter f args) w' => Calls P f args w' fun e w'' => ∃ v, e = .returned v ∧ K v w''
  | _ => False

theorem Does.value {P : Program} {ρ : Operand → Value} {o : Oper} {w w' : World} {v : Value} {K : Value → World → Prop}
    (hr : (execOp ρ o).run P w = .ok (.value v) w') (h : K v w') : Does P ρ o w K := by
  unfold Does; rw [hr]; exact h
theorem Does.skip {P : Program} {ρ : Operand → Value} {o : Oper} {w w' : World} {K : Value → World → Prop}
    (hr : (execOp ρ o).run P w = .ok .skip w') (h : K undef w') : Does P ρ o w K := by
  unfold Does; rw [hr]; exact h
theorem Does.enter {P : Program} {ρ : Operand → Value} {o : Oper} {w w' : World} {f : FuncId} {args : Array Value} {K : Value → World → Prop}
    (hr : (execOp ρ o).run P w = .ok (.enter f args) w') (h : Calls P f args w' fun e w'' => ∃ v, e = .returned v ∧ K v w'') : Does P ρ o w K := by
  unfold Does; rw [hr]; exact h

theorem Does.wp {P : Program} {o : Oper} {a : Act} {w : World} {next : Act → World → Prop} {Q : Exit → Act → World → Prop}
    (h : Does P a.eval o w fun v w' => next (a.put o.dst v) w') : o.wp P a w next Q := by
  unfold Does at h
  unfold Oper.wp
  generalize (execOp a.eval o).run P w = r at *
  cases r with
  | halt x w' => exact h.elim
  | ok n w' =>
    cases n <;> first
      | exact h.elim
      | exact h
      | exact h.mono fun e w'' ⟨v, he, hk⟩ => by subst he; exact hk

/-- The values of a list of operands. -/
def evs (L : List (Nat × Value)) : List Operand → Option (List Value)
  | [] => some []
  | x :: r => match ev L x, evs L r with
    | some v, some vs => some (v :: vs)
    | _, _ => none

theorem Has.evals {N : Nat} {a : Act} {L : List (Nat × Value)} (h : Has N a L) {xs : List Operand} {vs : List Value} (hx : evs L xs = some vs) : xs.toArray.map a.eval = vs.toArray := by
  induction xs generalizing vs with
  | nil => simp [evs] at hx; subst hx; simp
  | cons x r ih =>
    unfold evs at hx
    cases h1 : ev L x with
    | none => simp [h1] at hx
    | some v =>
      cases h2 : evs L r with
      | none => simp [h1, h2] at hx
      | some vs' =>
        simp [h1, h2] at hx
        subst hx
        have := ih h2
        simp at this
        simp [h.eval h1, this]

section
variable {P : Program} {ops : Array Oper} {Q : Exit → Act → World → Prop} {rest : List Oper} {a : Act} {w : World} {N : Nat} {L : List (Nat × Value)}
variable {d : Nat} {op : Op} {ty : TypeId} {pos : String} {after : Array Edge} {g : Option (Nat × Bool)}

theorem wanted_none {o : Oper} (hg : o.guard = none) {f : Nat → Option Bool} : Region.wanted o f = true := by simp [Region.wanted, hg]

/-- An operation whose guard is met. -/
theorem s_do (hf : Has N a L) (hw : Region.wanted ⟨some d, op, ty, pos, after, g⟩ (yielded ops a.tmps) = true := by rfl)
    (h : Does P a.eval ⟨some d, op, ty, pos, after, g⟩ w fun v w' => ∀ a', Has N a' ((d, v) :: L) → wpList P ops Q rest a' w') (hd : d < N := by decide) :
    wpList P ops Q (⟨some d, op, ty, pos, after, g⟩ :: rest) a w := by
  unfold wpList
  rw [if_pos hw]
  refine .inl (Does.wp ?_)
  unfold Does at *
  generalize (execOp a.eval _).run P w = r at *
  cases r with
  | halt x w' => exact h.elim
  | ok n w' =>
    cases n <;> first
      | exact h.elim
      | exact h _ (hf.put _ hd)
      | exact h.mono fun e w'' ⟨v, he, hk⟩ => ⟨v, he, hk _ (hf.put _ hd)⟩

/-- The same, where nothing is taken. -/
theorem s_do0 (hf : Has N a L) (hw : Region.wanted ⟨none, op, ty, pos, after, g⟩ (yielded ops a.tmps) = true := by rfl)
    (h : Does P a.eval ⟨none, op, ty, pos, after, g⟩ w fun _ w' => ∀ a', Has N a' L → wpList P ops Q rest a' w') :
    wpList P ops Q (⟨none, op, ty, pos, after, g⟩ :: rest) a w := by
  unfold wpList
  rw [if_pos hw]
  refine .inl (Does.wp ?_)
  unfold Does at *
  generalize (execOp a.eval _).run P w = r at *
  cases r with
  | halt x w' => exact h.elim
  | ok n w' =>
    cases n <;> first
      | exact h.elim
      | exact h _ hf
      | exact h.mono fun e w'' ⟨v, he, hk⟩ => ⟨v, he, hk _ hf⟩
end
end Vw
