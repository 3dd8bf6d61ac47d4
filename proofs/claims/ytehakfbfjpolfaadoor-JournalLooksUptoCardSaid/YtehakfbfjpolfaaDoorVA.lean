/- The small proof library: literals; calls; strings. -/
import Derived.Test.YtehakfbfjpolfaaDoorV9
set_option linter.all false
namespace Vw
open Go

/-- So many parts, each of sz cells, one behind the other. -/
def enumP : Nat → List Value → List (Nat × Value)
  | _, [] => []
  | n, v :: r => (n, v) :: enumP (n + 1) r

theorem fill_row {sz : Nat} : ∀ (vs : List Value) (n : Nat) (pre post : List Value), (∀ v ∈ vs, v.cells.size = sz) → pre.length = n * sz → post.length = vs.length * sz →
    Instr.fill (fun i => some (i * sz, sz)) (pre ++ post).toArray (enumP n vs) = some (pre ++ vs.flatMap (fun v => v.cells.toList)).toArray := by
  intro vs
  induction vs with
  | nil =>
    intro n pre post _ _ h
    have : post = [] := List.eq_nil_of_length_eq_zero (by simpa using h)
    subst this
    simp [enumP, Instr.fill]
  | cons v r ih =>
    intro n pre post hv hpre hpost
    have hvs : v.cells.size = sz := hv v (by simp)
    have hfit : ¬ ((pre ++ post).toArray.size < n * sz + v.cells.size) := by
      simp only [List.size_toArray, List.length_append, hpre, hpost, hvs, List.length_cons, Nat.add_mul]
      omega
    unfold enumP Instr.fill
    simp only [hvs, ne_eq, not_true_eq_false, gt_iff_lt, Bool.or_eq_true, decide_eq_true_eq]
    rw [if_neg (by simp [← hvs] at hfit ⊢; omega)]
    have key : ∀ (cs : List Value) (k : Nat) (p q : List Value), p.length = n * sz + k → cs.length ≤ q.length →
        (cs.zipIdx k).foldl (fun (x : Array Value) (y : Value × Nat) => x.setIfInBounds (n * sz + y.2) y.1) (p ++ q).toArray = (p ++ cs ++ q.drop cs.length).toArray := by
      intro cs
      induction cs with
      | nil => intro k p q _ _; simp
      | cons c cs ih2 =>
        intro k p q hp hq
        match q, hq with
        | [], hq => simp at hq
        | q0 :: q, hq =>
          have e1 : (p ++ q0 :: q).toArray.setIfInBounds (n * sz + k) c = ((p ++ [c]) ++ q).toArray := by
            rw [← hp]
            simp
          simp only [List.zipIdx_cons, List.foldl_cons, e1]
          rw [ih2 (k + 1) (p ++ [c]) q (by simp; omega) (by simpa using hq)]
          simp
    have hk := key v.cells.toList 0 pre post (by omega) (by simp only [Array.length_toList, hvs, hpost, List.length_cons, Nat.add_mul]; omega)
    have e2 : v.cells.zipIdx.foldl (fun (cs : Array Value) (x : Value × Nat) => cs.setIfInBounds (n * sz + x.2) x.1) (pre ++ post).toArray = (pre ++ v.cells.toList ++ post.drop v.cells.toList.length).toArray := by
      rw [← hk, ← Array.foldl_toList]
      simp
    rw [show (fun (cs : Array Value) (x : Value × Nat) => match x with | (c, j) => cs.setIfInBounds (n * sz + j) c) = (fun (cs : Array Value) (x : Value × Nat) => cs.setIfInBounds (n * sz + x.2) x.1) from rfl, e2]
    rw [ih (n + 1) (pre ++ v.cells.toList) (post.drop v.cells.toList.length) (fun u hu => hv u (by simp [hu])) (by simp [hpre, hvs, Nat.add_mul]) (by simp [hpost, hvs, Nat.add_mul])]
    simp

/-- The values of a list of parts. -/
def evp (L : List (Nat × Value)) : List (Nat × Operand) → Option (List (Nat × Value))
  | [] => some []
  | p :: r => match ev L p.2, evp L r with
    | some v, some vs => some ((p.1, v) :: vs)
    | _, _ => none

theorem Has.parts {N : Nat} {a : Act} {L : List (Nat × Value)} (h : Has N a L) {xs : List (Nat × Operand)} {vs : List (Nat × Value)} (hx : evp L xs = some vs) :
    xs.toArray.map (fun p => (p.1, a.eval p.2)) = vs.toArray := by
  induction xs generalizing vs with
  | nil => simp [evp] at hx; subst hx; simp
  | cons x r ih =>
    unfold evp at hx
    cases h1 : ev L x.2 with
    | none => simp [h1] at hx
    | some v =>
      cases h2 : evp L r with
      | none => simp [h1, h2] at hx
      | some vs' =>
        simp [h1, h2] at hx
        subst hx
        have := ih h2
        simp at this
        simp [h.eval h1, this]

def enumX : Nat → List Operand → List (Nat × Operand)
  | _, [] => []
  | n, v :: r => (n, v) :: enumX (n + 1) r

theorem enumX_map (ρ : Operand → Value) : ∀ (n : Nat) (xs : List Operand), (enumX n xs).map (fun p => (p.1, ρ p.2)) = enumP n (xs.map ρ)
  | _, [] => rfl
  | n, x :: r => by simp [enumX, enumP, enumX_map ρ (n + 1) r]

section
variable {P : Program} {ρ : Operand → Value} {K : Value → World → Prop} {w : World}
variable {d : Option Nat} {ty : TypeId} {pos : String} {after : Array Edge} {g : Option (Nat × Bool)}
variable {σ : Sig} {L L' R : List Asrt}

theorem x_build {t : Nat} {xs : List (Nat × Operand)} {vs : List (Nat × Value)} {v : Value} (hp : xs.toArray.map (fun p => (p.1, ρ p.2)) = vs.toArray)
    (hb : ∀ w, (Instr.build t vs.toArray).run P w = .ok v w) (w : World) :
    (execOp ρ ⟨d, .build t xs.toArray, ty, pos, after, g⟩).run P w = .ok (.value v) w := by
  have e : (fun (x : Nat × Operand) => match x with | (i, x) => (i, ρ x)) = (fun p => (p.1, ρ p.2)) := rfl
  simp only [execOp, e, hp, Sem.run_bind, hb, Result.andThen_ok, Sem.run_pure]

/-- A slice literal. -/
theorem y_lit {t e sz by_ n : Nat} {z : Value} {xs : List Operand} {vs : List Value} (hs : St σ w L) (ht : SlT P t e sz by_ z) (hxs : xs.toArray.map ρ = vs.toArray)
    (hn : vs.length = n) (hsz : ∀ v ∈ vs, v.cells.size = sz) (hlim : n * sz ≤ 16777216)
    (h : ∀ b w', St σ w' (cb b e (vs.flatMap fun v => v.cells.toList) :: L) → K (.slice (some ⟨b, 0, none⟩) n n) w') :
    Does P ρ ⟨d, .buildSlice t n (enumX 0 xs).toArray, ty, pos, after, g⟩ w K := by
  obtain ⟨inf, h4, h5, h6, h7⟩ := ht.info
  have e1 : (fun (x : Nat × Operand) => match x with | (i, x) => (i, ρ x)) = (fun p => (p.1, ρ p.2)) := rfl
  have e2 : (enumX 0 xs).toArray.map (fun p => (p.1, ρ p.2)) = (enumP 0 vs).toArray := by
    rw [List.map_toArray, enumX_map]
    have : xs.map ρ = vs := by simpa using hxs
    rw [this]
  have hlim' : ¬ (16777216 < n * sz) := by omega
  refine .value (v := .slice (some ⟨w.heap.size, 0, none⟩) n n) (w' := w.alloc (.cells (vs.flatMap fun v => v.cells.toList).toArray e (0, 0))) ?_ (h _ _ (hs.alloc _))
  have fill : ∀ zc : Array Value, (Instr.fill (fun i => some (i * sz, sz)) ((Array.range (n * sz)).map (zc[· % zc.size]!)) (enumP 0 vs)) = some (vs.flatMap fun v => v.cells.toList).toArray := by
    intro zc
    have := fill_row (sz := sz) vs 0 [] ((Array.range (n * sz)).map (zc[· % zc.size]!)).toList hsz (by simp) (by simp [hn])
    simpa only [List.nil_append, Array.toArray_toList] using this
  simp only [execOp, e1, e2]
  by_cases h0 : n * sz = 0
  · have hf := fill #[]
    simp [Instr.buildSlice, go_sem, run_underlying ht.und, Go.sizeOf, typeInfo, h4, h5, hlim', h0, newRow] at hf ⊢
    simp [hf]
  · have hf := fill z.cells
    simp [Instr.buildSlice, go_sem, run_underlying ht.und, Go.sizeOf, typeInfo, h4, h5, hlim', h0, newRow, zeroValue, h7] at hf ⊢
    simp [hf]

/-- A call. -/
theorem y_call {t : Array TypeId} {f : FuncId} {args : List Operand} {vs : List Value} (hfn : ρ (.func f) = .func (.func f) #[] #[]) (hvs : args.toArray.map ρ = vs.toArray)
    (hc : ∀ vs w, (callFunc f vs).run P w = .ok (.enter f vs) w) (h : Calls P f vs.toArray w fun e w' => ∃ v, e = .returned v ∧ K v w') :
    Does P ρ ⟨d, .call ⟨.value (.func f), args.toArray, t⟩, ty, pos, after, g⟩ w K :=
  .enter (x_call hfn hvs hc w) h

/-- What a call made of its own comes to what one has. -/
theorem St.join {w' : World} (hs : St σ w R) (h : St ⟨w, None_⟩ w' L) : St σ w' (L ++ R) := by
  obtain ⟨h1, hh1, hb1⟩ := hs.has
  obtain ⟨h2, hh2, hb2⟩ := h.has
  have hk : Kept w w' None_ := h.kept
  have hlt : ∀ k o, h1 k = some o → k < w.heap.size := fun k o e => (Array.getElem?_eq_some_iff.1 (hh1 k o e).1).1
  have hge : ∀ k o, h2 k = some o → w.heap.size ≤ k := fun k o e => (hh2 k o e).2.resolve_left (fun x => x)
  have hd : hdis h2 h1 := fun k => by
    cases e1 : h1 k with
    | none => exact .inr rfl
    | some o1 =>
      cases e2 : h2 k with
      | none => exact .inl rfl
      | some o2 => have := hlt k _ e1; have := hge k _ e2; omega
  have app : ∀ (L : List Asrt) (x : Heaplet), bigS L x → hdis x h1 → bigS (L ++ R) (hjoin x h1) := by
    intro L
    induction L with
    | nil =>
      intro x _ dx
      have : hle h1 (hjoin x h1) := hle_join_right dx
      simp only [List.nil_append]
      have up : ∀ (R : List Asrt) (y z : Heaplet), hle y z → bigS R y → bigS R z := by
        intro R
        cases R with
        | nil => intro _ _ _ _; trivial
        | cons A R =>
          intro y z l ⟨a, b, d, la, lb, ha, hb⟩
          exact ⟨a, b, d, la.trans l, lb.trans l, ha, hb⟩
      exact up R h1 _ this hb1
    | cons A L ih =>
      intro x ⟨a, b, d, la, lb, ha, hb⟩ dx
      refine ⟨a, hjoin b h1, ?_, la.trans (hle_join_left _ _), hjoin_le (lb.trans (hle_join_left _ _)) (hle_join_right dx), ha, ih b hb (dx.mono lb (hle.refl _))⟩
      exact (hdis_join d.symm (dx.mono la (hle.refl _)).symm).symm
  refine ⟨hs.kept.trans (hk.mono fun _ x => x.elim), hjoin h2 h1, fun k o e => ?_, app L h2 hb2 hd⟩
  unfold hjoin at e
  cases e2 : h2 k with
  | some u =>
    rw [e2] at e
    cases e
    exact ⟨(hh2 k _ e2).1, .inr (Nat.le_trans hs.kept.size (hge k _ e2))⟩
  | none =>
    rw [e2] at e
    have := hh1 k o e
    exact ⟨(hk.block k (hlt k o e) (fun x => x)).trans this.1, this.2⟩
end
end Vw
