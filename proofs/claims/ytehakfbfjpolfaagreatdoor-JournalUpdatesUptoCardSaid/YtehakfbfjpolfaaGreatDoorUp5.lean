/- Texts 5 of 17 that the law rests on: the small library, contracts of functions, printed by a program. -/
import Derived.Laws.Pointers
import Derived.Laws.Small
import Derived.Test.YtehakfbfjpolfaaGreatDoorUp1
import Derived.Test.YtehakfbfjpolfaaGreatDoorUp2
import Derived.Test.YtehakfbfjpolfaaGreatDoorUp3
import Derived.Test.YtehakfbfjpolfaaGreatDoorUp4
set_option maxRecDepth 100000
set_option linter.all false
namespace Vw
open Go
theorem wp_loop_ind {P : Program} {Q : Exit → Act → World → Prop} {a : Act} {w : World} (c : Code) (I : Act → World → Nat → Prop) (m0 : Nat) (h0 : I a w m0)
    (round : ∀ m a w, I a w m → c.wp P (Exit.then (fun a' w' => ∃ m', m' < m ∧ I a' w' m') Q) a w) : (Code.loop c).wp P Q a w := by
  intro b k cs
  have key : ∀ n a w, I a w n → ∃ e a' w', Q e a' w' ∧ Arrives P (lone (b.at a (.code c :: .inLoop c :: k)) cs w) b k cs e a' w' := by
    intro n
    induction n using Nat.strongRecOn with
    | _ n ih =>
      intro a w hI
      obtain ⟨e, a₁, w₁, hq, harr⟩ := round n a w hI b (.inLoop c :: k) cs
      cases e with
      | normal =>
        obtain ⟨m', hlt, hI₁⟩ := hq
        obtain ⟨e₂, a₂, w₂, hq₂, harr₂⟩ := ih m' hlt a₁ w₁ hI₁
        exact ⟨e₂, a₂, w₂, hq₂, .of_steps (Steps.trans harr (.one step_inLoop)) harr₂⟩
      | exit id => exact ⟨_, a₁, w₁, hq, .pass (x := .inLoop c) rfl (fun _ _ => .inl (by simp)) harr⟩
      | goto l => exact ⟨_, a₁, w₁, hq, .pass (x := .inLoop c) rfl (fun _ _ => .inl (by simp)) harr⟩
      | ret => exact ⟨_, a₁, w₁, hq, .pass (x := .inLoop c) rfl (fun _ _ => .inl (by simp)) harr⟩
      | panic ch => exact ⟨_, a₁, w₁, hq, .pass (x := .inLoop c) rfl (fun _ _ => .inl (by simp)) harr⟩
      | outgrown => exact ⟨_, a₁, w₁, hq, .pass (x := .inLoop c) rfl (fun _ _ => .inl (by simp)) harr⟩
  obtain ⟨e, a', w', hq, harr⟩ := key _ a w h0
  exact ⟨e, a', w', hq, .of_steps (.one step_loop) harr⟩
section
variable {P : Program} {ops : Array Oper} {Q : Exit → Act → World → Prop} {rest : List Oper} {a : Act} {w : World} {N : Nat} {L : List (Nat × Value)}
variable {d : Nat} {op : Op} {ty : TypeId} {pos : String} {after : Array Edge} {g : Option (Nat × Bool)}
theorem s_v {v : Value} (hf : Has N a L) (hr : ∀ w, (execOp a.eval ⟨some d, op, ty, pos, after, none⟩).run P w = .ok (.value v) w)
    (h : ∀ a', Has N a' ((d, v) :: L) → wpList P ops Q rest a' w) (hd : d < N := by decide) : wpList P ops Q (⟨some d, op, ty, pos, after, none⟩ :: rest) a w :=
  s_do hf rfl (.value (hr w) h) hd
theorem s_r {v : Value} (hf : Has N a L) (hr : (execOp a.eval ⟨some d, op, ty, pos, after, none⟩).run P w = .ok (.value v) w)
    (h : ∀ a', Has N a' ((d, v) :: L) → wpList P ops Q rest a' w) (hd : d < N := by decide) : wpList P ops Q (⟨some d, op, ty, pos, after, none⟩ :: rest) a w :=
  s_do hf rfl (.value hr h) hd
theorem s_m {x : Operand} {v : Value} (hf : Has N a L) (hx : ev L x = some v)
    (h : ∀ a', Has N a' ((d, v) :: L) → wpList P ops Q rest a' w) (hd : d < N := by decide) : wpList P ops Q (⟨some d, .move x, ty, pos, after, none⟩ :: rest) a w :=
  s_v hf (x_move (hf.eval hx)) h hd
theorem s_a {x : Operand} {v : Value} (hf : Has N a L) (hx : ev L x = some v)
    (h : ∀ a', Has N a' ((d, v) :: L) → wpList P ops Q rest a' w) (hd : d < N := by decide) : wpList P ops Q (⟨some d, .assign x, ty, pos, after, none⟩ :: rest) a w :=
  s_v hf (x_assign (hf.eval hx)) h hd
theorem wanted_of {o : Oper} {j k : Nat} {want : Bool} (hf : Has N a L) (hg : o.guard = some (j, want)) (hj : (ops[j]?).bind (·.dst) = some k) (hk : look L k = some (.bool want)) :
    Region.wanted o (yielded ops a.tmps) = true := by
  have := hf.get k _ hk
  simp [Region.wanted, hg, yielded, hj, this]
theorem s_pass {j k : Nat} {want : Bool} (hf : Has N a L) (hj : (ops[j]?).bind (·.dst) = some k) (hk : look L k = some (.bool (!want)))
    (h : ∀ a', Has N a' ((d, undef) :: L) → wpList P ops Q rest a' w) (hd : d < N := by decide) : wpList P ops Q (⟨some d, op, ty, pos, after, some (j, want)⟩ :: rest) a w := by
  have := hf.get k _ hk
  unfold wpList
  rw [if_neg (by simp [Region.wanted, yielded, hj, this])]
  exact h _ (hf.put _ hd)
theorem Has.now {v v' : Value} {k : Nat} (hf : Has N a L) (hk : look L k = some v) (e : v = v') : Has N a ((k, v') :: L) :=
  ⟨hf.size, hf.defers, fun n u hu => by
    by_cases h : k = n
    · subst h; rw [look_cons_self] at hu; cases hu; subst e; exact hf.get _ _ hk
    · rw [look_cons_ne _ _ h] at hu; exact hf.get _ _ hu⟩
theorem s_bool {b : Bool} {k : Nat} {G : Prop} (hf : Has N a L) (hk : look L k = some (.bool b)) (h1 : b = true → Has N a ((k, .bool true) :: L) → G) (h0 : b = false → Has N a ((k, .bool false) :: L) → G) : G := by
  cases b with
  | true => exact h1 rfl (hf.now hk rfl)
  | false => exact h0 rfl (hf.now hk rfl)
theorem c_cond {x y : Code} {c : Operand} {b : Bool} (hf : Has N a L) (hc : ev L c = some (.bool b)) (h1 : b = true → x.wp P Q a w) (h0 : b = false → y.wp P Q a w) : (Code.cond c x y).wp P Q a w :=
  wp_cond_split (hf.eval hc) h1 h0
theorem c_cond_t {x y : Code} {c : Operand} {b : Bool} (hf : Has N a L) (hc : ev L c = some (.bool b)) (hb : b = true) (h1 : x.wp P Q a w) : (Code.cond c x y).wp P Q a w :=
  wp_cond_true (by rw [hf.eval hc, hb]) h1
theorem c_cond_f {x y : Code} {c : Operand} {b : Bool} (hf : Has N a L) (hc : ev L c = some (.bool b)) (hb : b = false) (h0 : y.wp P Q a w) : (Code.cond c x y).wp P Q a w :=
  wp_cond_false (by rw [hf.eval hc, hb]) h0
theorem then_n {next : Act → World → Prop} (h : next a w) : Exit.then next Q .normal a w := h
theorem blk_n {id : Nat} (h : Q .normal a w) : Exit.inBlock id Q .normal a w := h
theorem blk_x {id : Nat} (h : Q .normal a w) : Exit.inBlock id Q (.exit id) a w := by simp [Exit.inBlock, h]
theorem then_x {id : Nat} {next : Act → World → Prop} (h : Q (.exit id) a w) : Exit.then next Q (.exit id) a w := h
theorem then_r {next : Act → World → Prop} (h : Q .ret a w) : Exit.then next Q .ret a w := h
theorem blk_r {id : Nat} (h : Q .ret a w) : Exit.inBlock id Q .ret a w := h
theorem c_loop {c : Code} {L0 : List (Nat × Value)} (I : List (Nat × Value) → World → Nat → Prop) {M0 : List (Nat × Value)} {m0 : Nat} (h0 : I M0 w m0) (hf : Has N a (M0 ++ L0))
    (round : ∀ M m a w, I M w m → Has N a (M ++ L0) → c.wp P (Exit.then (fun a' w' => ∃ M' m', I M' w' m' ∧ m' < m ∧ Has N a' (M' ++ L0)) Q) a w) : (Code.loop c).wp P Q a w := by
  refine wp_loop_ind c (fun a w m => ∃ M, I M w m ∧ Has N a (M ++ L0)) m0 ⟨M0, h0, hf⟩ ?_
  rintro m a w ⟨M, hi, hf⟩
  exact wp_mono (round M m a w hi hf) fun e a' w' q => by
    cases e with
    | normal => obtain ⟨M', m', h1, h2, h3⟩ := q; exact ⟨m', h2, M', h1, h3⟩
    | _ => exact q
def enumL : Nat → List Value → List (Nat × Value)
  | _, [] => []
  | n, v :: r => (n, v) :: enumL (n + 1) r
theorem look_enumL : ∀ (vs : List Value) (n k : Nat) (v : Value), look (enumL n vs) k = some v → n ≤ k ∧ vs[k - n]? = some v
  | [], n, k, v, h => by simp [enumL, look] at h
  | x :: r, n, k, v, h => by
    unfold enumL at h
    by_cases e : n = k
    · subst e; rw [look_cons_self] at h; cases h; simp
    · rw [look_cons_ne _ _ e] at h
      obtain ⟨h1, h2⟩ := look_enumL r (n + 1) k v h
      refine ⟨by omega, ?_⟩
      rw [show k - n = (k - (n + 1)) + 1 by omega]
      simpa using h2
theorem c_enter {f : FuncId} {fn : Func} {c : Code} {vs : List Value} {R : Ending → World → Prop} (hfn : P.funcs[f]? = some fn) (hb : fn.body = some c) (hn : fn.ntmps = N) (hle : vs.length ≤ N)
    (h : ∀ a, Has N a (enumL 0 vs) → c.wp P (bodyPost P fn R) a w) : Calls P f vs.toArray w R := by
  refine calls_of_wp hfn hb (h _ ⟨by simp [hn]; omega, rfl, fun n v hv => ?_⟩)
  obtain ⟨_, h2⟩ := look_enumL vs 0 n v hv
  have hlt : n < vs.length := by simpa using (List.getElem?_eq_some_iff.1 h2).1
  simp only [Nat.sub_zero] at h2
  have h3 := (List.getElem?_eq_some_iff.1 h2).2
  simp [Array.getElem?_append, hlt, h3]
theorem r_1 {fn : Func} {t : Nat} {v : Value} {R : Ending → World → Prop} (hf : Has N a L) (hr : fn.results = #[.tmp t]) (hv : look L t = some v) (h : R (.returned v) w) : bodyPost P fn R .ret a w := by
  refine bodyPost_ret ?_ hf.defers h
  rw [results_tmp hr]
  simp [Array.getD_eq_getD_getElem?, hf.get t v hv]
theorem r_2 {fn : Func} {t u : Nat} {v v' : Value} {R : Ending → World → Prop} (hf : Has N a L) (hr : fn.results = #[.tmp t, .tmp u]) (hv : look L t = some v) (hv' : look L u = some v')
    (h : R (.returned (.tuple #[v, v'])) w) : bodyPost P fn R .ret a w := by
  refine bodyPost_ret ?_ hf.defers h
  rw [results_tmp2 hr]
  simp [Array.getD_eq_getD_getElem?, hf.get t v hv, hf.get u v' hv']
theorem r_0 {fn : Func} {R : Ending → World → Prop} (hf : Has N a L) (hr : fn.results = #[]) (h : R (.returned (.tuple #[])) w) : bodyPost P fn R .ret a w :=
  bodyPost_ret (results_none hr _ _ _) hf.defers h
theorem r_0n {fn : Func} {R : Ending → World → Prop} (hf : Has N a L) (hr : fn.results = #[]) (h : R (.returned (.tuple #[])) w) : bodyPost P fn R .normal a w :=
  bodyPost_end (results_none hr _ _ _) hf.defers h
end
end Vw
namespace Vw
open Go
section
variable {P : Program} {ρ : Operand → Value} {K : Value → World → Prop} {w : World}
variable {d : Option Nat} {ty : TypeId} {pos : String} {after : Array Edge} {g : Option (Nat × Bool)}
variable {σ : Sig} {L L' R : List Asrt}
theorem x_pick_t {c x y : Operand} {v : Value} (hc : ρ c = .bool true) (hx : ρ x = v) (w : World) :
    (execOp ρ ⟨d, .pick c x y, ty, pos, after, g⟩).run P w = .ok (.value v) w := by
  have := x_pick (P := P) (d := d) (ty := ty) (pos := pos) (after := after) (g := g) hc hx (rfl : ρ y = ρ y) w
  simpa using this
theorem x_pick_f {c x y : Operand} {v : Value} (hc : ρ c = .bool false) (hy : ρ y = v) (w : World) :
    (execOp ρ ⟨d, .pick c x y, ty, pos, after, g⟩).run P w = .ok (.value v) w := by
  have := x_pick (P := P) (d := d) (ty := ty) (pos := pos) (after := after) (g := g) hc (rfl : ρ x = ρ x) hy w
  simpa using this
theorem x_conv {s t : TypeId} {x : Operand} {k k' : IntKind} {n : Int} {sd : TypeDesc} (h1 : P.underlying s = some sd) (h2 : P.underlying t = some (.int k)) (hx : ρ x = .int k' n) (w : World) :
    (execOp ρ ⟨d, .convert s t x, ty, pos, after, g⟩).run P w = .ok (.value (.int k (k.wrap n))) w := by
  simp [execOp, convert, go_sem, hx, run_underlying h1, run_underlying h2, Conv.intToInt]
theorem pointee_of {t e : TypeId} (h1 : P.underlying t = some (.pointer e)) : P.underlying t = some (.pointer (P.pointee t)) := by
  simp [Program.pointee, h1]
theorem x_eqNil {t e u : TypeId} {x y : Operand} {p : Option Addr} (h1 : P.underlying t = some (.pointer e)) (hx : ρ x = .pointer p) (hy : ρ y = .pointer none) (w : World) :
    (execOp ρ ⟨d, .binOp .eql t x y u, ty, pos, after, g⟩).run P w = .ok (.value (.bool p.isNone)) w := by
  have h2 := run_eql_pointer_nil (P := P) (w := w) t p (pointee_of h1)
  have h3 : (eqGuard .eql t x y (.pointer p) (.pointer none)).run P w = .ok () w := rfl
  simp only [execOp, hx, hy, Sem.run_bind, h3, h2, Result.andThen_ok, Sem.run_pure]
theorem x_neNil {t e u : TypeId} {x y : Operand} {p : Option Addr} (h1 : P.underlying t = some (.pointer e)) (hx : ρ x = .pointer p) (hy : ρ y = .pointer none) (w : World) :
    (execOp ρ ⟨d, .binOp .neq t x y u, ty, pos, after, g⟩).run P w = .ok (.value (.bool (!p.isNone))) w := by
  have h2 := run_neq_pointer_nil (P := P) (w := w) t p (pointee_of h1)
  have h3 : (eqGuard .neq t x y (.pointer p) (.pointer none)).run P w = .ok () w := rfl
  simp only [execOp, hx, hy, Sem.run_bind, h3, h2, Result.andThen_ok, Sem.run_pure]
theorem x_strEq {t u : TypeId} {x y : Operand} {s s' : ByteArray} (hx : ρ x = .string s) (hy : ρ y = .string s') (w : World) :
    (execOp ρ ⟨d, .binOp .eql t x y u, ty, pos, after, g⟩).run P w = .ok (.value (.bool (s.toList == s'.toList))) w := by
  simp only [execOp, hx, hy]
  simp [eqGuard, binOp, Op.stringOp, go_sem]
theorem x_boolNe {t u : TypeId} {x y : Operand} {s s' : Bool} (h1 : P.underlying t = some .bool) (hx : ρ x = .bool s) (hy : ρ y = .bool s') (w : World) :
    (execOp ρ ⟨d, .binOp .neq t x y u, ty, pos, after, g⟩).run P w = .ok (.value (.bool (!(s == s')))) w := by
  have h2 := run_neq_bool (P := P) (w := w) t s s' h1
  have h3 : (eqGuard .neq t x y (.bool s) (.bool s')).run P w = .ok () w := rfl
  simp only [execOp, hx, hy, Sem.run_bind, h3, h2, Result.andThen_ok, Sem.run_pure]
end
end Vw

namespace Vw
open Go
def enumP : Nat → List Value → List (Nat × Value)
  | _, [] => []
  | n, v :: r => (n, v) :: enumP (n + 1) r
theorem fill_row {sz : Nat} : ∀ (vs : List Value) (n : Nat) (pre post : List Value), (∀ v ∈ vs, v.cells.size = sz) → pre.length = n * sz → post.length = vs.length * sz →
    Instr.fill (fun i => some (i * sz, sz)) (pre ++ post).toArray (enumP n vs) = some (pre ++ vs.flatMap (fun v => v.cells.toList)).toArray := by
  intro vs
  induction vs with
  | nil =>
    intro n pre post _ _ h
    have : post = [] := List.eq_nil_of_length_eq_zero (by simpa using h)
    subst this
    simp [enumP, Instr.fill]
  | cons v r ih =>
    intro n pre post hv hpre hpost
    have hvs : v.cells.size = sz := hv v (by simp)
    have hfit : ¬ ((pre ++ post).toArray.size < n * sz + v.cells.size) := by
      simp only [List.size_toArray, List.length_append, hpre, hpost, hvs, List.length_cons, Nat.add_mul]
      omega
    unfold enumP Instr.fill
    simp only [hvs, ne_eq, not_true_eq_false, gt_iff_lt, Bool.or_eq_true, decide_eq_true_eq]
    rw [if_neg (by simp [← hvs] at hfit ⊢; omega)]
    have key : ∀ (cs : List Value) (k : Nat) (p q : List Value), p.length = n * sz + k → cs.length ≤ q.length →
        (cs.zipIdx k).foldl (fun (x : Array Value) (y : Value × Nat) => x.setIfInBounds (n * sz + y.2) y.1) (p ++ q).toArray = (p ++ cs ++ q.drop cs.length).toArray := by
      intro cs
      induction cs with
      | nil => intro k p q _ _; simp
      | cons c cs ih2 =>
        intro k p q hp hq
        match q, hq with
        | [], hq => simp at hq
        | q0 :: q, hq =>
          have e1 : (p ++ q0 :: q).toArray.setIfInBounds (n * sz + k) c = ((p ++ [c]) ++ q).toArray := by
            rw [← hp]
            simp
          simp only [List.zipIdx_cons, List.foldl_cons, e1]
          rw [ih2 (k + 1) (p ++ [c]) q (by simp; omega) (by simpa using hq)]
          simp
    have hk := key v.cells.toList 0 pre post (by omega) (by simp only [Array.length_toList, hvs, hpost, List.length_cons, Nat.add_mul]; omega)
    have e2 : v.cells.zipIdx.foldl (fun (cs : Array Value) (x : Value × Nat) => cs.setIfInBounds (n * sz + x.2) x.1) (pre ++ post).toArray = (pre ++ v.cells.toList ++ post.drop v.cells.toList.length).toArray := by
      rw [← hk, ← Array.foldl_toList]
      simp
    rw [show (fun (cs : Array Value) (x : Value × Nat) => match x with | (c, j) => cs.setIfInBounds (n * sz + j) c) = (fun (cs : Array Value) (x : Value × Nat) => cs.setIfInBounds (n * sz + x.2) x.1) from rfl, e2]
    rw [ih (n + 1) (pre ++ v.cells.toList) (post.drop v.cells.toList.length) (fun u hu => hv u (by simp [hu])) (by simp [hpre, hvs, Nat.add_mul]) (by simp [hpost, hvs, Nat.add_mul])]
    simp
def evp (L : List (Nat × Value)) : List (Nat × Operand) → Option (List (Nat × Value))
  | [] => some []
  | p :: r => match ev L p.2, evp L r with
    | some v, some vs => some ((p.1, v) :: vs)
    | _, _ => none
theorem Has.parts {N : Nat} {a : Act} {L : List (Nat × Value)} (h : Has N a L) {xs : List (Nat × Operand)} {vs : List (Nat × Value)} (hx : evp L xs = some vs) :
    xs.toArray.map (fun p => (p.1, a.eval p.2)) = vs.toArray := by
  induction xs generalizing vs with
  | nil => simp [evp] at hx; subst hx; simp
  | cons x r ih =>
    unfold evp at hx
    cases h1 : ev L x.2 with
    | none => simp [h1] at hx
    | some v =>
      cases h2 : evp L r with
      | none => simp [h1, h2] at hx
      | some vs' =>
        simp [h1, h2] at hx
        subst hx
        have := ih h2
        simp at this
        simp [h.eval h1, this]
def enumX : Nat → List Operand → List (Nat × Operand)
  | _, [] => []
  | n, v :: r => (n, v) :: enumX (n + 1) r
theorem enumX_map (ρ : Operand → Value) : ∀ (n : Nat) (xs : List Operand), (enumX n xs).map (fun p => (p.1, ρ p.2)) = enumP n (xs.map ρ)
  | _, [] => rfl
  | n, x :: r => by simp [enumX, enumP, enumX_map ρ (n + 1) r]
section
variable {P : Program} {ρ : Operand → Value} {K : Value → World → Prop} {w : World}
variable {d : Option Nat} {ty : TypeId} {pos : String} {after : Array Edge} {g : Option (Nat × Bool)}
variable {σ : Sig} {L L' R : List Asrt}
theorem x_build {t : Nat} {xs : List (Nat × Operand)} {vs : List (Nat × Value)} {v : Value} (hp : xs.toArray.map (fun p => (p.1, ρ p.2)) = vs.toArray)
    (hb : ∀ w, (Instr.build t vs.toArray).run P w = .ok v w) (w : World) :
    (execOp ρ ⟨d, .build t xs.toArray, ty, pos, after, g⟩).run P w = .ok (.value v) w := by
  have e : (fun (x : Nat × Operand) => match x with | (i, x) => (i, ρ x)) = (fun p => (p.1, ρ p.2)) := rfl
  simp only [execOp, e, hp, Sem.run_bind, hb, Result.andThen_ok, Sem.run_pure]
theorem y_lit {t e sz by_ n : Nat} {z : Value} {xs : List Operand} {vs : List Value} (hs : St σ w L) (ht : SlT P t e sz by_ z) (hxs : xs.toArray.map ρ = vs.toArray)
    (hn : vs.length = n) (hsz : ∀ v ∈ vs, v.cells.size = sz) (hlim : n * sz ≤ 16777216)
    (h : ∀ b w', St σ w' (cb b e (vs.flatMap fun v => v.cells.toList) :: L) → K (.slice (some ⟨b, 0, none⟩) n n) w') :
    Does P ρ ⟨d, .buildSlice t n (enumX 0 xs).toArray, ty, pos, after, g⟩ w K := by
  obtain ⟨inf, h4, h5, h6, h7⟩ := ht.info
  have e1 : (fun (x : Nat × Operand) => match x with | (i, x) => (i, ρ x)) = (fun p => (p.1, ρ p.2)) := rfl
  have e2 : (enumX 0 xs).toArray.map (fun p => (p.1, ρ p.2)) = (enumP 0 vs).toArray := by
    rw [List.map_toArray, enumX_map]
    have : xs.map ρ = vs := by simpa using hxs
    rw [this]
  have hlim' : ¬ (16777216 < n * sz) := by omega
  refine .value (v := .slice (some ⟨w.heap.size, 0, none⟩) n n) (w' := w.alloc (.cells (vs.flatMap fun v => v.cells.toList).toArray e (0, 0))) ?_ (h _ _ (hs.alloc _))
  have fill : ∀ zc : Array Value, (Instr.fill (fun i => some (i * sz, sz)) ((Array.range (n * sz)).map (zc[· % zc.size]!)) (enumP 0 vs)) = some (vs.flatMap fun v => v.cells.toList).toArray := by
    intro zc
    have := fill_row (sz := sz) vs 0 [] ((Array.range (n * sz)).map (zc[· % zc.size]!)).toList hsz (by simp) (by simp [hn])
    simpa only [List.nil_append, Array.toArray_toList] using this
  simp only [execOp, e1, e2]
  by_cases h0 : n * sz = 0
  · have hf := fill #[]
    simp [Instr.buildSlice, go_sem, run_underlying ht.und, Go.sizeOf, typeInfo, h4, h5, hlim', h0, newRow] at hf ⊢
    simp [hf]
  · have hf := fill z.cells
    simp [Instr.buildSlice, go_sem, run_underlying ht.und, Go.sizeOf, typeInfo, h4, h5, hlim', h0, newRow, zeroValue, h7] at hf ⊢
    simp [hf]
theorem y_call {t : Array TypeId} {f : FuncId} {args : List Operand} {vs : List Value} (hfn : ρ (.func f) = .func (.func f) #[] #[]) (hvs : args.toArray.map ρ = vs.toArray)
    (hc : ∀ vs w, (callFunc f vs).run P w = .ok (.enter f vs) w) (h : Calls P f vs.toArray w fun e w' => ∃ v, e = .returned v ∧ K v w') :
    Does P ρ ⟨d, .call ⟨.value (.func f), args.toArray, t⟩, ty, pos, after, g⟩ w K :=
  .enter (x_call hfn hvs hc w) h
theorem St.join {w' : World} (hs : St σ w R) (h : St ⟨w, None_⟩ w' L) : St σ w' (L ++ R) := by
  obtain ⟨h1, hh1, hb1⟩ := hs.has
  obtain ⟨h2, hh2, hb2⟩ := h.has
  have hk : Kept w w' None_ := h.kept
  have hlt : ∀ k o, h1 k = some o → k < w.heap.size := fun k o e => (Array.getElem?_eq_some_iff.1 (hh1 k o e).1).1
  have hge : ∀ k o, h2 k = some o → w.heap.size ≤ k := fun k o e => (hh2 k o e).2.resolve_left (fun x => x)
  have hd : hdis h2 h1 := fun k => by
    cases e1 : h1 k with
    | none => exact .inr rfl
    | some o1 =>
      cases e2 : h2 k with
      | none => exact .inl rfl
      | some o2 => have := hlt k _ e1; have := hge k _ e2; omega
  have app : ∀ (L : List Asrt) (x : Heaplet), bigS L x → hdis x h1 → bigS (L ++ R) (hjoin x h1) := by
    intro L
    induction L with
    | nil =>
      intro x _ dx
      have : hle h1 (hjoin x h1) := hle_join_right dx
      simp only [List.nil_append]
      have up : ∀ (R : List Asrt) (y z : Heaplet), hle y z → bigS R y → bigS R z := by
        intro R
        cases R with
        | nil => intro _ _ _ _; trivial
        | cons A R =>
          intro y z l ⟨a, b, d, la, lb, ha, hb⟩
          exact ⟨a, b, d, la.trans l, lb.trans l, ha, hb⟩
      exact up R h1 _ this hb1
    | cons A L ih =>
      intro x ⟨a, b, d, la, lb, ha, hb⟩ dx
      refine ⟨a, hjoin b h1, ?_, la.trans (hle_join_left _ _), hjoin_le (lb.trans (hle_join_left _ _)) (hle_join_right dx), ha, ih b hb (dx.mono lb (hle.refl _))⟩
      exact (hdis_join d.symm (dx.mono la (hle.refl _)).symm).symm
  refine ⟨hs.kept.trans (hk.mono fun _ x => x.elim), hjoin h2 h1, fun k o e => ?_, app L h2 hb2 hd⟩
  unfold hjoin at e
  cases e2 : h2 k with
  | some u =>
    rw [e2] at e
    cases e
    exact ⟨(hh2 k _ e2).1, .inr (Nat.le_trans hs.kept.size (hge k _ e2))⟩
  | none =>
    rw [e2] at e
    have := hh1 k o e
    exact ⟨(hk.block k (hlt k o e) (fun x => x)).trans this.1, this.2⟩
end
end Vw

namespace Vw
open Go
def slB (T : Nat) (v : Value) (l : List UInt8) : Asrt := sl T 1 v l.length (l.map u8v)
abbrev bb (b T : Nat) (l : List UInt8) : Asrt := cb b T (l.map u8v)
theorem slB_rd {T : Nat} {v : Value} {l : List UInt8} {h : Heaplet} (hh : slB T v l h) : RdB h v l := sl_rd hh
theorem slB_nil (T : Nat) (h : Heaplet) : slB T (.slice none 0 0) [] h := ⟨by simp, .inl ⟨rfl, rfl⟩⟩
theorem slB_of_bb {b T n : Nat} {l : List UInt8} {h : Heaplet} (hn : n ≤ l.length) (hm : l.length ≤ maxLen) (hb : bb b T l h) : slB T (.slice (some ⟨b, 0, none⟩) n l.length) (l.take n) h := by
  have e : (l.take n).length = n := by simp; omega
  refine ⟨by simp, .inr ⟨b, l.length, l.map u8v, by rw [e], by rw [e]; exact hn, hm, by simp, ?_, hb⟩⟩
  rw [e]
  simp [List.map_take]
theorem rdB_of_bb {b T : Nat} {l : List UInt8} {h : Heaplet} (hb : bb b T l h) {n c : Nat} (hn : n ≤ l.length) (hc : n ≤ c) : RdB h (.slice (some ⟨b, 0, none⟩) n c) (l.take n) := by
  have e : (l.take n).length = n := by simp; omega
  refine ⟨by simp, .inr ⟨_, c, by rw [e], by rw [e]; exact hc, fun j u hu => ?_⟩⟩
  have hadd : (⟨b, 0, none⟩ : Addr).add j = ⟨b, j, none⟩ := by unfold Addr.add; split <;> simp_all
  rw [hadd]
  have hb' : h b = some (.cells (l.map u8v).toArray T (0, 0)) := hb
  simp only [cellH, hb']
  rw [List.map_take, List.getElem?_take] at hu
  split at hu
  · simpa using hu
  · cases hu
def spl {α : Type} (l : List α) (o : Nat) (s : List α) : List α := l.take o ++ s ++ l.drop (o + s.length)
theorem spl_length {α : Type} (l : List α) (o : Nat) (s : List α) (h : o + s.length ≤ l.length) : (spl l o s).length = l.length := by
  simp [spl]; omega
theorem madeCells_u8 (n : Nat) : (madeCells (Value.int .u8 0).cells n).toList = (List.replicate n (0 : UInt8)).map u8v := by
  apply List.ext_getElem?
  intro i
  simp only [madeCells, List.map_replicate]
  rw [List.getElem?_replicate]
  by_cases h : i < n
  · simp [h, Value.cells, u8v, Nat.mod_one]
  · simp [h]
section
variable {P : Program} {ρ : Operand → Value} {K : Value → World → Prop} {w : World}
variable {d : Option Nat} {ty : TypeId} {pos : String} {after : Array Edge} {g : Option (Nat × Bool)}
variable {σ : Sig} {L L' R : List Asrt}
theorem y_makeB {t e m c : Nat} {x y : Operand} {k k' : IntKind} {mi ci : Int} (hs : St σ w L) (ht : SlT P t e 1 1 (.int .u8 0))
    (hx : ρ x = .int k mi) (hy : ρ y = .int k' ci) (hm : mi = m) (hc : ci = c) (h1 : m ≤ c) (h2 : c ≤ 281474976710656)
    (h : ∀ b w', St σ w' (bb b e (List.replicate c 0) :: L) → K (.slice (some ⟨b, 0, none⟩) m c) w') :
    Does P ρ ⟨d, .makeSlice t x y, ty, pos, after, g⟩ w K := by
  subst hm hc
  refine y_makeSlice hs ht hx hy (by omega) (by omega) (by omega) (by omega) fun b w' hs' => ?_
  rw [madeCells_u8] at hs'
  simp only [Nat.mul_one, Int.toNat_natCast] at hs' ⊢
  exact h b w' hs'
theorem y_copyB {t u e by_ sn dn dc : Nat} {z : Value} {x y : Operand} {p : Addr} {b o T : Nat} {cur cur' src : List UInt8} {sv : Value} (hs : St σ w L) (ht : SlT P t e 1 by_ z)
    (hx : ρ x = .slice (some p) dn dc) (hy : ρ y = sv) (hpd : dn ≠ 0 → p = ⟨b, o, none⟩) (hr : RdB (hp w) sv src) (hsn : src.length = sn)
    (up : Up (bb b T cur) (bb b T cur') L L') (hcur : cur' = spl cur o (src.take (min sn dn))) (hfit : o + dn ≤ cur.length)
    (h : ∀ w', St σ w' L' → K (.int .i64 (min sn dn : Nat)) w') :
    Does P ρ ⟨d, .call ⟨.builtin .copy, #[x, y], #[t, u]⟩, ty, pos, after, g⟩ w K := by
  subst hsn
  refine y_copy (T := T) (vs := cur.map u8v) (xs := src.map u8v) hs ht hx hy hpd hr (oneCell_of_bytes _) ?_ (by simpa using hfit) h
  have e : (cur.map u8v).take o ++ (src.map u8v).take (min src.length dn) ++ (cur.map u8v).drop (o + min src.length dn) = cur'.map u8v := by
    rw [hcur]
    have : (src.take (min src.length dn)).length = min src.length dn := by simp
    simp [spl, List.map_take, List.map_drop]
  rw [e]
  exact up
theorem y_appendB {t e by_ : Nat} {z : Value} {x y : Operand} {v sv : Value} {l s : List UInt8} (hs : St σ w L) (ht : SlT P t e 1 by_ z) (hb1 : by_ = 1)
    (hx : ρ x = v) (hy : ρ y = sv) (tk : Take (slB e v l) L R) (hr : RdB (hp w) sv s) (hb : l.length + s.length ≤ 140737488355328)
    (h : ∀ v' w', St σ w' (slB e v' (l ++ s) :: R) → (v' = .slice none 0 0 ↔ v = .slice none 0 0 ∧ s = []) → K v' w') :
    Does P ρ ⟨d, .call ⟨.builtin .append, #[x, y], #[t, t]⟩, ty, pos, after, g⟩ w K := by
  subst hb1
  refine y_append (xs := l.map u8v) (ys := s.map u8v) hs ht hx hy tk hr (oneCell_of_bytes _) (by omega) (by rw [maxLen_eq]; omega) fun v' w' hs' hv => h v' w' ?_ ?_
  · unfold slB
    simpa using hs'
  · rw [hv]; simp
theorem getB {h : Heaplet} {a : Addr} {n c : Nat} {l : List UInt8} (hr : RdB h (.slice (some a) n c) l) {i : Nat} (hi : i < l.length) : cellH h (a.add i) = some (u8v l[i]) := by
  rcases hr.2 with ⟨c', e, hn⟩ | ⟨a', c', e, _, hc⟩
  · cases e
  · cases e
    exact hc i _ (by simp [hi])
theorem x_loadB {t : Nat} {x : Operand} {a : Addr} {n c : Nat} {l : List UInt8} {i : Int} (ht : ScT P t) (hr : RdB (hp w) (.slice (some a) n c) l) (hx : ρ x = .pointer (some (a.add (i.toNat * 1)))) (hi : i.toNat < l.length) :
    (execOp ρ ⟨d, .load t x, ty, pos, after, g⟩).run P w = .ok (.value (u8v l[i.toNat])) w :=
  x_load ht hx (by rw [Nat.mul_one, cell_hp]; exact getB hr hi)
theorem y_storeB {t : Nat} {x y : Operand} {b k T : Nat} {v : Value} {l : List UInt8} {u : UInt8} (hs : St σ w L) (ht : ScT P t) (hx : ρ x = .pointer (some ⟨b, k, none⟩)) (hy : ρ y = v) (hv : v = u8v u)
    (up : Up (bb b T l) (bb b T (l.set k u)) L L') (hk : k < l.length) (h : ∀ w', St σ w' L' → K undef w') :
    Does P ρ ⟨d, .store t x y, ty, pos, after, g⟩ w K := by
  subst hv
  refine y_store (T := T) (vs := l.map u8v) hs ht hx hy rfl ?_ (by simpa using hk) h
  rw [← List.map_set]
  exact up
end
end Vw
namespace Vw
theorem St.lose {σ : Sig} {w : Go.World} {L R : List Asrt} {A : Asrt} (hs : St σ w L) (t : Take A L R) : St σ w R := (hs.take t).drop
end Vw
