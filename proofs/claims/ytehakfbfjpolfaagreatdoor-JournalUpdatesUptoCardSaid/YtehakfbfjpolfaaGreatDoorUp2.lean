/- Texts 2 of 17 that the law rests on: the small library, contracts of functions, printed by a program. -/
import Derived.Laws.Sem
import Derived.Test.YtehakfbfjpolfaaGreatDoorUp1
set_option maxRecDepth 100000
set_option linter.all false
namespace Vw
open Go
section
variable {P : Program} {ops : Array Oper} {Q : Exit → Act → World → Prop} {rest : List Oper} {a : Act} {w : World} {N : Nat} {L : List (Nat × Value)}
variable {d : Nat} {op : Op} {ty : TypeId} {pos : String} {after : Array Edge}
theorem r_add (t : TypeId) (k : IntKind) (m n : Int) (w : World) : (binOp .add t (.int k m) (.int k n)).run P w = .ok (.int k (k.wrap (m + n))) w := by
  simp [binOp, Op.intArith, go_sem]
theorem r_sub (t : TypeId) (k : IntKind) (m n : Int) (w : World) : (binOp .sub t (.int k m) (.int k n)).run P w = .ok (.int k (k.wrap (m - n))) w := by
  simp [binOp, Op.intArith, go_sem]
theorem r_mul (t : TypeId) (k : IntKind) (m n : Int) (w : World) : (binOp .mul t (.int k m) (.int k n)).run P w = .ok (.int k (k.wrap (m * n))) w := by
  simp [binOp, Op.intArith, go_sem]
theorem wrap_i64 {n : Int} (h1 : -9223372036854775808 ≤ n) (h2 : n ≤ 9223372036854775807) : IntKind.i64.wrap n = n := by
  simp only [IntKind.wrap, IntKind.bits, IntKind.signed]
  simp
  omega
theorem r_addi (t : TypeId) {m n : Int} (h1 : -9223372036854775808 ≤ m + n) (h2 : m + n ≤ 9223372036854775807) (w : World) :
    (binOp .add t (.int .i64 m) (.int .i64 n)).run P w = .ok (.int .i64 (m + n)) w := by rw [r_add, wrap_i64 h1 h2]
theorem r_subi (t : TypeId) {m n : Int} (h1 : -9223372036854775808 ≤ m - n) (h2 : m - n ≤ 9223372036854775807) (w : World) :
    (binOp .sub t (.int .i64 m) (.int .i64 n)).run P w = .ok (.int .i64 (m - n)) w := by rw [r_sub, wrap_i64 h1 h2]
theorem r_muli (t : TypeId) {m n : Int} (h1 : -9223372036854775808 ≤ m * n) (h2 : m * n ≤ 9223372036854775807) (w : World) :
    (binOp .mul t (.int .i64 m) (.int .i64 n)).run P w = .ok (.int .i64 (m * n)) w := by rw [r_mul, wrap_i64 h1 h2]
theorem r_lt (t : TypeId) (k : IntKind) (m n : Int) (w : World) : (binOp .lss t (.int k m) (.int k n)).run P w = .ok (.bool (decide (m < n))) w := by
  simp [binOp, Op.intCmp, go_sem]
theorem r_le (t : TypeId) (k : IntKind) (m n : Int) (w : World) : (binOp .leq t (.int k m) (.int k n)).run P w = .ok (.bool (decide (m ≤ n))) w := by
  simp [binOp, Op.intCmp, go_sem]
theorem r_gt (t : TypeId) (k : IntKind) (m n : Int) (w : World) : (binOp .gtr t (.int k m) (.int k n)).run P w = .ok (.bool (decide (n < m))) w := by
  simp [binOp, Op.intCmp, go_sem]
theorem r_ge (t : TypeId) (k : IntKind) (m n : Int) (w : World) : (binOp .geq t (.int k m) (.int k n)).run P w = .ok (.bool (decide (n ≤ m))) w := by
  simp [binOp, Op.intCmp, go_sem]
theorem r_eq (t : TypeId) (k : IntKind) (m n : Int) (w : World) : (binOp .eql t (.int k m) (.int k n)).run P w = .ok (.bool (decide (m = n))) w := by
  simp [binOp, Op.intCmp, go_sem]
  rw [Bool.eq_iff_iff]; simp
theorem r_ne (t : TypeId) (k : IntKind) (m n : Int) (w : World) : (binOp .neq t (.int k m) (.int k n)).run P w = .ok (.bool (!decide (m = n))) w := by
  simp [binOp, Op.intCmp, go_sem]
  rfl
theorem r_quo (t : TypeId) (k : IntKind) {m n : Int} (hn : n ≠ 0) (w : World) : (binOp .quo t (.int k m) (.int k n)).run P w = .ok (.int k (k.wrap (m.tdiv n))) w := by
  simp [binOp, Op.intDiv, go_sem, hn]
theorem r_rem (t : TypeId) (k : IntKind) {m n : Int} (hn : n ≠ 0) (w : World) : (binOp .rem t (.int k m) (.int k n)).run P w = .ok (.int k (m.tmod n)) w := by
  simp [binOp, Op.intDiv, go_sem, hn]
theorem tdiv_nn {m n : Int} (hm : 0 ≤ m) (hn : 0 < n) : m.tdiv n = m / n := Int.tdiv_eq_ediv_of_nonneg hm
theorem tmod_nn {m n : Int} (hm : 0 ≤ m) (hn : 0 < n) : m.tmod n = m % n := Int.tmod_eq_emod_of_nonneg hm
theorem r_quon (t : TypeId) {m n : Int} (hm : 0 ≤ m) (hn : 0 < n) (hb : m ≤ 9223372036854775807) (w : World) : (binOp .quo t (.int .i64 m) (.int .i64 n)).run P w = .ok (.int .i64 (m / n)) w := by
  rw [r_quo _ _ (by omega), tdiv_nn hm hn, wrap_i64]
  · have := Int.ediv_nonneg hm (Int.le_of_lt hn); omega
  · have := Int.ediv_le_self n hm; omega
theorem r_remn (t : TypeId) (k : IntKind) {m n : Int} (hm : 0 ≤ m) (hn : 0 < n) (w : World) : (binOp .rem t (.int k m) (.int k n)).run P w = .ok (.int k (m % n)) w := by
  rw [r_rem _ _ (by omega), tmod_nn hm hn]
end
end Vw
