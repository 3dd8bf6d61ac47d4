/- The small proof library: control, results, literals, conversions. -/
import Derived.Test.YtehakfbfjpolfaaDoorV8
import Derived.Laws.Pointers
import Derived.Laws.Small
set_option linter.all false
namespace Vw
open Go

/-- A loop with a number that every round lowers. -/
theorem wp_loop_ind {P : Program} {Q : Exit → Act → World → Prop} {a : Act} {w : World} (c : Code) (I : Act → World → Nat → Prop) (m0 : Nat) (h0 : I a w m0)
    (round : ∀ m a w, I a w m → c.wp P (Exit.then (fun a' w' => ∃ m', m' < m ∧ I a' w' m') Q) a w) : (Code.loop c).wp P Q a w := by
  intro b k cs
  have key : ∀ n a w, I a w n → ∃ e a' w', Q e a' w' ∧ Arrives P (lone (b.at a (.code c :: .inLoop c :: k)) cs w) b k cs e a' w' := by
    intro n
    induction n using Nat.strongRecOn with
    | _ n ih =>
      intro a w hI
      obtain ⟨e, a₁, w₁, hq, harr⟩ := round n a w hI b (.inLoop c :: k) cs
      cases e with
      | normal =>
        obtain ⟨m', hlt, hI₁⟩ := hq
        obtain ⟨e₂, a₂, w₂, hq₂, harr₂⟩ := ih m' hlt a₁ w₁ hI₁
        exact ⟨e₂, a₂, w₂, hq₂, .of_steps (Steps.trans harr (.one step_inLoop)) harr₂⟩
      | exit id => exact ⟨_, a₁, w₁, hq, .pass (x := .inLoop c) rfl (fun _ _ => .inl (by simp)) harr⟩
      | goto l => exact ⟨_, a₁, w₁, hq, .pass (x := .inLoop c) rfl (fun _ _ => .inl (by simp)) harr⟩
      | ret => exact ⟨_, a₁, w₁, hq, .pass (x := .inLoop c) rfl (fun _ _ => .inl (by simp)) harr⟩
      | panic ch => exact ⟨_, a₁, w₁, hq, .pass (x := .inLoop c) rfl (fun _ _ => .inl (by simp)) harr⟩
      | outgrown => exact ⟨_, a₁, w₁, hq, .pass (x := .inLoop c) rfl (fun _ _ => .inl (by simp)) harr⟩
  obtain ⟨e, a', w', hq, harr⟩ := key _ a w h0
  exact ⟨e, a', w', hq, .of_steps (.one step_loop) harr⟩


section
variable {P : Program} {ops : Array Oper} {Q : Exit → Act → World → Prop} {rest : List Oper} {a : Act} {w : World} {N : Nat} {L : List (Nat × Value)}
variable {d : Nat} {op : Op} {ty : TypeId} {pos : String} {after : Array Edge} {g : Option (Nat × Bool)}

/-- An operation that leaves the world alone; its run. -/
theorem s_v {v : Value} (hf : Has N a L) (hr : ∀ w, (execOp a.eval ⟨some d, op, ty, pos, after, none⟩).run P w = .ok (.value v) w)
    (h : ∀ a', Has N a' ((d, v) :: L) → wpList P ops Q rest a' w) (hd : d < N := by decide) : wpList P ops Q (⟨some d, op, ty, pos, after, none⟩ :: rest) a w :=
  s_do hf rfl (.value (hr w) h) hd

/-- The same, at this world alone. -/
theorem s_r {v : Value} (hf : Has N a L) (hr : (execOp a.eval ⟨some d, op, ty, pos, after, none⟩).run P w = .ok (.value v) w)
    (h : ∀ a', Has N a' ((d, v) :: L) → wpList P ops Q rest a' w) (hd : d < N := by decide) : wpList P ops Q (⟨some d, op, ty, pos, after, none⟩ :: rest) a w :=
  s_do hf rfl (.value hr h) hd

/-- moves and assignments. -/
theorem s_m {x : Operand} {v : Value} (hf : Has N a L) (hx : ev L x = some v)
    (h : ∀ a', Has N a' ((d, v) :: L) → wpList P ops Q rest a' w) (hd : d < N := by decide) : wpList P ops Q (⟨some d, .move x, ty, pos, after, none⟩ :: rest) a w :=
  s_v hf (x_move (hf.eval hx)) h hd
theorem s_a {x : Operand} {v : Value} (hf : Has N a L) (hx : ev L x = some v)
    (h : ∀ a', Has N a' ((d, v) :: L) → wpList P ops Q rest a' w) (hd : d < N := by decide) : wpList P ops Q (⟨some d, .assign x, ty, pos, after, none⟩ :: rest) a w :=
  s_v hf (x_assign (hf.eval hx)) h hd

/-- A guard that is met: the guarding operation's slot holds what is wanted. -/
theorem wanted_of {o : Oper} {j k : Nat} {want : Bool} (hf : Has N a L) (hg : o.guard = some (j, want)) (hj : (ops[j]?).bind (·.dst) = some k) (hk : look L k = some (.bool want)) :
    Region.wanted o (yielded ops a.tmps) = true := by
  have := hf.get k _ hk
  simp [Region.wanted, hg, yielded, hj, this]

/-- A guard that isn't met: the operation is passed over. -/
theorem s_pass {j k : Nat} {want : Bool} (hf : Has N a L) (hj : (ops[j]?).bind (·.dst) = some k) (hk : look L k = some (.bool (!want)))
    (h : ∀ a', Has N a' ((d, undef) :: L) → wpList P ops Q rest a' w) (hd : d < N := by decide) : wpList P ops Q (⟨some d, op, ty, pos, after, some (j, want)⟩ :: rest) a w := by
  have := hf.get k _ hk
  unfold wpList
  rw [if_neg (by simp [Region.wanted, yielded, hj, this])]
  exact h _ (hf.put _ hd)

/-- A slot's value under another name. -/
theorem Has.now {v v' : Value} {k : Nat} (hf : Has N a L) (hk : look L k = some v) (e : v = v') : Has N a ((k, v') :: L) :=
  ⟨hf.size, hf.defers, fun n u hu => by
    by_cases h : k = n
    · subst h; rw [look_cons_self] at hu; cases hu; subst e; exact hf.get _ _ hk
    · rw [look_cons_ne _ _ h] at hu; exact hf.get _ _ hu⟩

/-- A slot that holds a test: both ways. -/
theorem s_bool {b : Bool} {k : Nat} {G : Prop} (hf : Has N a L) (hk : look L k = some (.bool b)) (h1 : b = true → Has N a ((k, .bool true) :: L) → G) (h0 : b = false → Has N a ((k, .bool false) :: L) → G) : G := by
  cases b with
  | true => exact h1 rfl (hf.now hk rfl)
  | false => exact h0 rfl (hf.now hk rfl)

theorem c_cond {x y : Code} {c : Operand} {b : Bool} (hf : Has N a L) (hc : ev L c = some (.bool b)) (h1 : b = true → x.wp P Q a w) (h0 : b = false → y.wp P Q a w) : (Code.cond c x y).wp P Q a w :=
  wp_cond_split (hf.eval hc) h1 h0
theorem c_cond_t {x y : Code} {c : Operand} {b : Bool} (hf : Has N a L) (hc : ev L c = some (.bool b)) (hb : b = true) (h1 : x.wp P Q a w) : (Code.cond c x y).wp P Q a w :=
  wp_cond_true (by rw [hf.eval hc, hb]) h1
theorem c_cond_f {x y : Code} {c : Operand} {b : Bool} (hf : Has N a L) (hc : ev L c = some (.bool b)) (hb : b = false) (h0 : y.wp P Q a w) : (Code.cond c x y).wp P Q a w :=
  wp_cond_false (by rw [hf.eval hc, hb]) h0

theorem then_n {next : Act → World → Prop} (h : next a w) : Exit.then next Q .normal a w := h
theorem blk_n {id : Nat} (h : Q .normal a w) : Exit.inBlock id Q .normal a w := h
theorem blk_x {id : Nat} (h : Q .normal a w) : Exit.inBlock id Q (.exit id) a w := by simp [Exit.inBlock, h]
theorem then_x {id : Nat} {next : Act → World → Prop} (h : Q (.exit id) a w) : Exit.then next Q (.exit id) a w := h
theorem then_r {next : Act → World → Prop} (h : Q .ret a w) : Exit.then next Q .ret a w := h
theorem blk_r {id : Nat} (h : Q .ret a w) : Exit.inBlock id Q .ret a w := h
theorem blk_o {id id' : Nat} (hne : id' ≠ id) (h : Q (.exit id') a w) : Exit.inBlock id Q (.exit id') a w := by simp [Exit.inBlock, hne, h]

/-- A loop: M: the slots that it turns; L0: those that it leaves alone. -/
theorem c_loop {c : Code} {L0 : List (Nat × Value)} (I : List (Nat × Value) → World → Nat → Prop) {M0 : List (Nat × Value)} {m0 : Nat} (h0 : I M0 w m0) (hf : Has N a (M0 ++ L0))
    (round : ∀ M m a w, I M w m → Has N a (M ++ L0) → c.wp P (Exit.then (fun a' w' => ∃ M' m', I M' w' m' ∧ m' < m ∧ Has N a' (M' ++ L0)) Q) a w) : (Code.loop c).wp P Q a w := by
  refine wp_loop_ind c (fun a w m => ∃ M, I M w m ∧ Has N a (M ++ L0)) m0 ⟨M0, h0, hf⟩ ?_
  rintro m a w ⟨M, hi, hf⟩
  exact wp_mono (round M m a w hi hf) fun e a' w' q => by
    cases e with
    | normal => obtain ⟨M', m', h1, h2, h3⟩ := q; exact ⟨m', h2, M', h1, h3⟩
    | _ => exact q

/-! ### Entering a function, leaving it -/

def enumL : Nat → List Value → List (Nat × Value)
  | _, [] => []
  | n, v :: r => (n, v) :: enumL (n + 1) r

theorem look_enumL : ∀ (vs : List Value) (n k : Nat) (v : Value), look (enumL n vs) k = some v → n ≤ k ∧ vs[k - n]? = some v
  | [], n, k, v, h => by simp [enumL, look] at h
  | x :: r, n, k, v, h => by
    unfold enumL at h
    by_cases e : n = k
    · subst e; rw [look_cons_self] at h; cases h; simp
    · rw [look_cons_ne _ _ e] at h
      obtain ⟨h1, h2⟩ := look_enumL r (n + 1) k v h
      refine ⟨by omega, ?_⟩
      rw [show k - n = (k - (n + 1)) + 1 by omega]
      simpa using h2

theorem c_enter {f : FuncId} {fn : Func} {c : Code} {vs : List Value} {R : Ending → World → Prop} (hfn : P.funcs[f]? = some fn) (hb : fn.body = some c) (hn : fn.ntmps = N) (hle : vs.length ≤ N)
    (h : ∀ a, Has N a (enumL 0 vs) → c.wp P (bodyPost P fn R) a w) : Calls P f vs.toArray w R := by
  refine calls_of_wp hfn hb (h _ ⟨by simp [hn]; omega, rfl, fun n v hv => ?_⟩)
  obtain ⟨_, h2⟩ := look_enumL vs 0 n v hv
  have hlt : n < vs.length := by simpa using (List.getElem?_eq_some_iff.1 h2).1
  simp only [Nat.sub_zero] at h2
  have h3 := (List.getElem?_eq_some_iff.1 h2).2
  simp [Array.getElem?_append, hlt, h3]

theorem r_1 {fn : Func} {t : Nat} {v : Value} {R : Ending → World → Prop} (hf : Has N a L) (hr : fn.results = #[.tmp t]) (hv : look L t = some v) (h : R (.returned v) w) : bodyPost P fn R .ret a w := by
  refine bodyPost_ret ?_ hf.defers h
  rw [results_tmp hr]
  simp [Array.getD_eq_getD_getElem?, hf.get t v hv]
theorem r_2 {fn : Func} {t u : Nat} {v v' : Value} {R : Ending → World → Prop} (hf : Has N a L) (hr : fn.results = #[.tmp t, .tmp u]) (hv : look L t = some v) (hv' : look L u = some v')
    (h : R (.returned (.tuple #[v, v'])) w) : bodyPost P fn R .ret a w := by
  refine bodyPost_ret ?_ hf.defers h
  rw [results_tmp2 hr]
  simp [Array.getD_eq_getD_getElem?, hf.get t v hv, hf.get u v' hv']
theorem r_3 {fn : Func} {t u s : Nat} {v v' v'' : Value} {R : Ending → World → Prop} (hf : Has N a L) (hr : fn.results = #[.tmp t, .tmp u, .tmp s]) (hv : look L t = some v) (hv' : look L u = some v') (hv'' : look L s = some v'')
    (h : R (.returned (.tuple #[v, v', v''])) w) : bodyPost P fn R .ret a w := by
  refine bodyPost_ret ?_ hf.defers h
  simp [results, hr, hf.get t v hv, hf.get u v' hv', hf.get s v'' hv'', go_sem]
theorem r_0 {fn : Func} {R : Ending → World → Prop} (hf : Has N a L) (hr : fn.results = #[]) (h : R (.returned (.tuple #[])) w) : bodyPost P fn R .ret a w :=
  bodyPost_ret (results_none hr _ _ _) hf.defers h
theorem r_0n {fn : Func} {R : Ending → World → Prop} (hf : Has N a L) (hr : fn.results = #[]) (h : R (.returned (.tuple #[])) w) : bodyPost P fn R .normal a w :=
  bodyPost_end (results_none hr _ _ _) hf.defers h
end
end Vw
namespace Vw
open Go
section
variable {P : Program} {ρ : Operand → Value} {K : Value → World → Prop} {w : World}
variable {d : Option Nat} {ty : TypeId} {pos : String} {after : Array Edge} {g : Option (Nat × Bool)}
variable {σ : Sig} {L L' R : List Asrt}

theorem x_pick_t {c x y : Operand} {v : Value} (hc : ρ c = .bool true) (hx : ρ x = v) (w : World) :
    (execOp ρ ⟨d, .pick c x y, ty, pos, after, g⟩).run P w = .ok (.value v) w := by
  have := x_pick (P := P) (d := d) (ty := ty) (pos := pos) (after := after) (g := g) hc hx (rfl : ρ y = ρ y) w
  simpa using this
theorem x_pick_f {c x y : Operand} {v : Value} (hc : ρ c = .bool false) (hy : ρ y = v) (w : World) :
    (execOp ρ ⟨d, .pick c x y, ty, pos, after, g⟩).run P w = .ok (.value v) w := by
  have := x_pick (P := P) (d := d) (ty := ty) (pos := pos) (after := after) (g := g) hc (rfl : ρ x = ρ x) hy w
  simpa using this

/-- A conversion between integer kinds. -/
theorem x_conv {s t : TypeId} {x : Operand} {k k' : IntKind} {n : Int} {sd : TypeDesc} (h1 : P.underlying s = some sd) (h2 : P.underlying t = some (.int k)) (hx : ρ x = .int k' n) (w : World) :
    (execOp ρ ⟨d, .convert s t x, ty, pos, after, g⟩).run P w = .ok (.value (.int k (k.wrap n))) w := by
  simp [execOp, convert, go_sem, hx, run_underlying h1, run_underlying h2, Conv.intToInt]

theorem pointee_of {t e : TypeId} (h1 : P.underlying t = some (.pointer e)) : P.underlying t = some (.pointer (P.pointee t)) := by
  simp [Program.pointee, h1]

/-- A pointer held against nil. -/
theorem x_eqNil {t e u : TypeId} {x y : Operand} {p : Option Addr} (h1 : P.underlying t = some (.pointer e)) (hx : ρ x = .pointer p) (hy : ρ y = .pointer none) (w : World) :
    (execOp ρ ⟨d, .binOp .eql t x y u, ty, pos, after, g⟩).run P w = .ok (.value (.bool p.isNone)) w := by
  have h2 := run_eql_pointer_nil (P := P) (w := w) t p (pointee_of h1)
  have h3 : (eqGuard .eql t x y (.pointer p) (.pointer none)).run P w = .ok () w := rfl
  simp only [execOp, hx, hy, Sem.run_bind, h3, h2, Result.andThen_ok, Sem.run_pure]
theorem x_neNil {t e u : TypeId} {x y : Operand} {p : Option Addr} (h1 : P.underlying t = some (.pointer e)) (hx : ρ x = .pointer p) (hy : ρ y = .pointer none) (w : World) :
    (execOp ρ ⟨d, .binOp .neq t x y u, ty, pos, after, g⟩).run P w = .ok (.value (.bool (!p.isNone))) w := by
  have h2 := run_neq_pointer_nil (P := P) (w := w) t p (pointee_of h1)
  have h3 : (eqGuard .neq t x y (.pointer p) (.pointer none)).run P w = .ok () w := rfl
  simp only [execOp, hx, hy, Sem.run_bind, h3, h2, Result.andThen_ok, Sem.run_pure]

theorem x_strEq {t u : TypeId} {x y : Operand} {s s' : ByteArray} (hx : ρ x = .string s) (hy : ρ y = .string s') (w : World) :
    (execOp ρ ⟨d, .binOp .eql t x y u, ty, pos, after, g⟩).run P w = .ok (.value (.bool (s.toList == s'.toList))) w := by
  simp only [execOp, hx, hy]
  simp [eqGuard, binOp, Op.stringOp, go_sem]
theorem x_strNe {t u : TypeId} {x y : Operand} {s s' : ByteArray} (hx : ρ x = .string s) (hy : ρ y = .string s') (w : World) :
    (execOp ρ ⟨d, .binOp .neq t x y u, ty, pos, after, g⟩).run P w = .ok (.value (.bool (!(s.toList == s'.toList)))) w := by
  simp only [execOp, hx, hy]
  simp [eqGuard, binOp, Op.stringOp, go_sem]
theorem x_boolEq {t u : TypeId} {x y : Operand} {s s' : Bool} (h1 : P.underlying t = some .bool) (hx : ρ x = .bool s) (hy : ρ y = .bool s') (w : World) :
    (execOp ρ ⟨d, .binOp .eql t x y u, ty, pos, after, g⟩).run P w = .ok (.value (.bool (s == s'))) w := by
  have h2 := run_eql_bool (P := P) (w := w) t s s' h1
  have h3 : (eqGuard .eql t x y (.bool s) (.bool s')).run P w = .ok () w := rfl
  simp only [execOp, hx, hy, Sem.run_bind, h3, h2, Result.andThen_ok, Sem.run_pure]
theorem x_boolNe {t u : TypeId} {x y : Operand} {s s' : Bool} (h1 : P.underlying t = some .bool) (hx : ρ x = .bool s) (hy : ρ y = .bool s') (w : World) :
    (execOp ρ ⟨d, .binOp .neq t x y u, ty, pos, after, g⟩).run P w = .ok (.value (.bool (!(s == s')))) w := by
  have h2 := run_neq_bool (P := P) (w := w) t s s' h1
  have h3 : (eqGuard .neq t x y (.bool s) (.bool s')).run P w = .ok () w := rfl
  simp only [execOp, hx, hy, Sem.run_bind, h3, h2, Result.andThen_ok, Sem.run_pure]
end
end Vw
