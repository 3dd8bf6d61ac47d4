/- Texts 3 of 17 that the law rests on: the small library, contracts of functions, printed by a program. -/
import Derived.Laws.Slices
import Derived.Test.YtehakfbfjpolfaaGreatDoorUp1
import Derived.Test.YtehakfbfjpolfaaGreatDoorUp2
set_option maxRecDepth 100000
set_option linter.all false
namespace Vw
open Go
section
variable {P : Program} {ρ : Operand → Value}
variable {d : Option Nat} {ty : TypeId} {pos : String} {after : Array Edge} {g : Option (Nat × Bool)}
theorem x_move {x : Operand} {v : Value} (hx : ρ x = v) (w : World) :
    (execOp ρ ⟨d, .move x, ty, pos, after, g⟩).run P w = .ok (.value v) w := by
  simp only [execOp, hx]; rfl
theorem x_assign {x : Operand} {v : Value} (hx : ρ x = v) (w : World) :
    (execOp ρ ⟨d, .assign x, ty, pos, after, g⟩).run P w = .ok (.value v) w := by
  simp only [execOp, hx]; rfl
theorem x_bin {bo : BinOp} {t u : TypeId} {x y : Operand} {k k' : IntKind} {m n : Int} {v : Value}
    (hx : ρ x = .int k m) (hy : ρ y = .int k' n) (hr : ∀ w, (binOp bo t (.int k m) (.int k' n)).run P w = .ok v w) (w : World) :
    (execOp ρ ⟨d, .binOp bo t x y u, ty, pos, after, g⟩).run P w = .ok (.value v) w := by
  simp only [execOp, hx, hy]
  have h2 := hr w
  simp [go_sem, h2]
theorem x_not {t : TypeId} {x : Operand} {b : Bool} (hx : ρ x = .bool b) (w : World) :
    (execOp ρ ⟨d, .unOp .not t x, ty, pos, after, g⟩).run P w = .ok (.value (.bool (!b))) w := by
  simp only [execOp, hx]; rfl
theorem x_pick {c x y : Operand} {b : Bool} {u v : Value} (hc : ρ c = .bool b) (hx : ρ x = u) (hy : ρ y = v) (w : World) :
    (execOp ρ ⟨d, .pick c x y, ty, pos, after, g⟩).run P w = .ok (.value (if b then u else v)) w := by
  simp only [execOp, hc, hx, hy]
  simp [go_sem, asBool]
theorem x_len {x : Operand} {t e : TypeId} {b : Option Addr} {n c : Nat} (ht : P.underlying t = some (.slice e)) (hx : ρ x = .slice b n c) (w : World) :
    (execOp ρ ⟨d, .call ⟨.builtin .len, #[x], #[t]⟩, ty, pos, after, g⟩).run P w = .ok (.value (.int .i64 n)) w := by
  simp [execOp, resolve, invoke, builtin, Builtin.len_, go_sem, hx, run_underlying ht, goInt]
theorem x_lenS {x : Operand} {t : TypeId} {s : ByteArray} (ht : P.underlying t = some .string) (hx : ρ x = .string s) (w : World) :
    (execOp ρ ⟨d, .call ⟨.builtin .len, #[x], #[t]⟩, ty, pos, after, g⟩).run P w = .ok (.value (.int .i64 s.size)) w := by
  simp [execOp, resolve, invoke, builtin, Builtin.len_, go_sem, hx, run_underlying ht, goInt]
theorem x_extract {x : Operand} {i : Nat} {vs : Array Value} {v : Value} (hx : ρ x = .tuple vs) (hv : vs[i]? = some v) (w : World) :
    (execOp ρ ⟨d, .extract x i, ty, pos, after, g⟩).run P w = .ok (.value v) w := by
  simp [execOp, Instr.extract, go_sem, hx, hv]
theorem x_nilCheck {x : Operand} {p : Addr} (hx : ρ x = .pointer (some p)) (w : World) :
    (execOp ρ ⟨d, .nilCheck x, ty, pos, after, g⟩).run P w = .ok (.value (.pointer (some p))) w := by
  simp [execOp, go_sem, hx]
theorem x_call {t : Array TypeId} {f : FuncId} {args : Array Operand} {vs : Array Value} (hfn : ρ (.func f) = .func (.func f) #[] #[]) (hvs : args.map ρ = vs)
    (hc : ∀ vs w, (callFunc f vs).run P w = .ok (.enter f vs) w) (w : World) :
    (execOp ρ ⟨d, .call ⟨.value (.func f), args, t⟩, ty, pos, after, g⟩).run P w = .ok (.enter f vs) w := by
  simp [execOp, resolve, invoke, go_sem, hfn, Deferred.ofValue, hvs, hc]
end
end Vw
