/- Texts 6 of 17 that the law rests on: the small library, contracts of functions, printed by a program. -/
import Derived.Still
import Derived.Test.YtehakfbfjpolfaaGreatDoorUp1
import Derived.Test.YtehakfbfjpolfaaGreatDoorUp2
import Derived.Test.YtehakfbfjpolfaaGreatDoorUp3
import Derived.Test.YtehakfbfjpolfaaGreatDoorUp4
import Derived.Test.YtehakfbfjpolfaaGreatDoorUp5
set_option maxRecDepth 100000
set_option linter.all false
namespace Vw
open Go
inductive Kd where
  | held | read | eff | fin
  deriving DecidableEq
def Kd.ok : Kd → Kd → Bool
  | .fin, _ => false
  | _, .fin => false
  | .held, _ => true
  | _, .held => true
  | .read, .read => true
  | _, _ => false
section
variable {P : Program} {ops : Array Oper} {C : World → Prop} {Q : Act → World → Prop}
def stepM (P : Program) (C : World → Prop) (k : Kd) (o : Oper) (a : Act) (w : World) (last : Prop) (next : Act → World → Prop) : Prop :=
  match k with
  | .held => ∃ v, (∀ w', C w' → (execOp a.eval o).run P w' = .ok (.value v) w') ∧ next (a.put o.dst v) w
  | .read => ∃ v, (execOp a.eval o).run P w = .ok (.value v) w ∧ next (a.put o.dst v) w
  | .eff => Does P a.eval o w fun v w' => C w' ∧ next (a.put o.dst v) w'
  | .fin => last ∧ Does P a.eval o w fun v w' => next (a.put o.dst v) w'
def wpM (P : Program) (ops : Array Oper) (C : World → Prop) (Q : Act → World → Prop) : List (Nat × Oper × Kd) → Act → World → Prop
  | [], a, w => Q a w
  | (_, o, k) :: r, a, w => if Region.wanted o (yielded ops a.tmps) then stepM P C k o a w (r = []) (wpM P ops C Q r) else wpM P ops C Q r (a.put o.dst undef) w
theorem Does.mono {ρ : Operand → Value} {o : Oper} {w : World} {K K' : Value → World → Prop} (h : Does P ρ o w K) (hk : ∀ v w', K v w' → K' v w') : Does P ρ o w K' := by
  unfold Does at *
  generalize (execOp ρ o).run P w = r at *
  cases r with
  | halt x w' => exact h.elim
  | ok n w' => cases n <;> first
    | exact h.elim
    | exact hk _ _ h
    | exact h.mono fun e w'' ⟨v, he, hv⟩ => ⟨v, he, hk _ _ hv⟩
theorem Does.some {ρ : Operand → Value} {o : Oper} {w : World} {K : Value → World → Prop} (h : Does P ρ o w K) : ∃ v w', K v w' := by
  unfold Does at h
  generalize (execOp ρ o).run P w = r at *
  cases r with
  | halt x w' => exact h.elim
  | ok n w' => cases n <;> first
    | exact h.elim
    | exact ⟨_, _, h⟩
    | (obtain ⟨e, w'', fr, ⟨v, _, hv⟩, _⟩ := h []; exact ⟨v, w'', hv⟩)
theorem stepM_mono {k : Kd} {o : Oper} {a : Act} {w : World} {last last' : Prop} {next next' : Act → World → Prop} (hC : C w) (hl : last → last' ∧ ∀ a w, next a w → next' a w) (hn : ∀ a w, C w → next a w → next' a w)
    (h : stepM P C k o a w last next) : stepM P C k o a w last' next' := by
  cases k with
  | held => obtain ⟨v, h1, h2⟩ := h; exact ⟨v, h1, hn _ _ hC h2⟩
  | read => obtain ⟨v, h1, h2⟩ := h; exact ⟨v, h1, hn _ _ hC h2⟩
  | eff => exact Does.mono h fun v w' ⟨h1, h2⟩ => ⟨h1, hn _ _ h1 h2⟩
  | fin => exact ⟨(hl h.1).1, Does.mono h.2 fun v w' h2 => (hl h.1).2 _ _ h2⟩
theorem wpM_pos {i : Nat} {o : Oper} {k : Kd} {r : List (Nat × Oper × Kd)} {a : Act} {w : World} (h : Region.wanted o (yielded ops a.tmps) = true) :
    wpM P ops C Q ((i, o, k) :: r) a w = stepM P C k o a w (r = []) (wpM P ops C Q r) := by rw [wpM, if_pos h]
theorem wpM_neg {i : Nat} {o : Oper} {k : Kd} {r : List (Nat × Oper × Kd)} {a : Act} {w : World} (h : Region.wanted o (yielded ops a.tmps) = false) :
    wpM P ops C Q ((i, o, k) :: r) a w = wpM P ops C Q r (a.put o.dst undef) w := by rw [wpM, if_neg (by simp [h])]
theorem swapM {i j : Nat} {x y : Oper} {kx ky : Kd} {r : List (Nat × Oper × Kd)} {a : Act} {w : World} (hk : Kd.ok kx ky = true) (hap : x.apart ops y = true)
    (hsx : ∀ cs b, x.op ≠ .select cs b) (hsy : ∀ cs b, y.op ≠ .select cs b) (hC : C w) (h : wpM P ops C Q ((i, x, kx) :: (j, y, ky) :: r) a w) : wpM P ops C Q ((j, y, ky) :: (i, x, kx) :: r) a w := by
  obtain ⟨h1, h2, h3⟩ := Oper.apart_spec hap
  have ey : ∀ (a : Act) u, execOp (a.put x.dst u).eval y = execOp a.eval y := fun a u => execOp_put y hsy a x.dst u h1
  have exx : ∀ (a : Act) u, execOp (a.put y.dst u).eval x = execOp a.eval x := fun a u => execOp_put x hsx a y.dst u h3
  have wy : ∀ (a : Act) u, Region.wanted y (yielded ops (a.put x.dst u).tmps) = Region.wanted y (yielded ops a.tmps) := fun a u => wanted_put y a x.dst u h1
  have wx : ∀ (a : Act) u, Region.wanted x (yielded ops (a.put y.dst u).tmps) = Region.wanted x (yielded ops a.tmps) := fun a u => wanted_put x a y.dst u h3
  have comm : ∀ (a : Act) u v, (a.put x.dst u).put y.dst v = (a.put y.dst v).put x.dst u := fun a u v => Act.put_comm a u v h2
  have dy : ∀ (a : Act) u (w : World) (K : Value → World → Prop), Does P (a.put x.dst u).eval y w K ↔ Does P a.eval y w K := fun a u w K => by unfold Does; rw [ey]
  have dx : ∀ (a : Act) u (w : World) (K : Value → World → Prop), Does P (a.put y.dst u).eval x w K ↔ Does P a.eval x w K := fun a u w K => by unfold Does; rw [exx]
  by_cases hx : Region.wanted x (yielded ops a.tmps) = true
  · rw [wpM_pos hx] at h
    by_cases hy : Region.wanted y (yielded ops a.tmps) = true
    · rw [wpM_pos hy]
      have ny : ∀ u w, wpM P ops C Q ((j, y, ky) :: r) (a.put x.dst u) w = stepM P C ky y (a.put x.dst u) w (r = []) (wpM P ops C Q r) := fun u w => wpM_pos (by rw [wy]; exact hy)
      have nx : ∀ u w, wpM P ops C Q ((i, x, kx) :: r) (a.put y.dst u) w = stepM P C kx x (a.put y.dst u) w (r = []) (wpM P ops C Q r) := fun u w => wpM_pos (by rw [wx]; exact hx)
      cases kx with
      | fin => cases ky <;> simp [Kd.ok] at hk
      | held =>
        obtain ⟨v, hv, h⟩ := h
        rw [ny] at h
        cases ky with
        | fin => simp [Kd.ok] at hk
        | held =>
          obtain ⟨u, hu, h⟩ := h
          refine ⟨u, fun w' c => by rw [← ey a v]; exact hu w' c, ?_⟩
          rw [nx]
          exact ⟨v, fun w' c => by rw [exx]; exact hv w' c, by rw [← comm]; exact h⟩
        | read =>
          obtain ⟨u, hu, h⟩ := h
          refine ⟨u, by rw [← ey a v]; exact hu, ?_⟩
          rw [nx]
          exact ⟨v, fun w' c => by rw [exx]; exact hv w' c, by rw [← comm]; exact h⟩
        | eff =>
          refine Does.mono ((dy a v w _).1 h) fun u w' ⟨c, h⟩ => ⟨c, ?_⟩
          rw [nx]
          exact ⟨v, fun w'' c' => by rw [exx]; exact hv w'' c', by rw [← comm]; exact h⟩
      | read =>
        obtain ⟨v, hv, h⟩ := h
        rw [ny] at h
        cases ky with
        | fin => simp [Kd.ok] at hk
        | eff => simp [Kd.ok] at hk
        | held =>
          obtain ⟨u, hu, h⟩ := h
          refine ⟨u, fun w' c => by rw [← ey a v]; exact hu w' c, ?_⟩
          rw [nx]
          exact ⟨v, by rw [exx]; exact hv, by rw [← comm]; exact h⟩
        | read =>
          obtain ⟨u, hu, h⟩ := h
          refine ⟨u, by rw [← ey a v]; exact hu, ?_⟩
          rw [nx]
          exact ⟨v, by rw [exx]; exact hv, by rw [← comm]; exact h⟩
      | eff =>
        cases ky with
        | fin => simp [Kd.ok] at hk
        | eff => simp [Kd.ok] at hk
        | read => simp [Kd.ok] at hk
        | held =>
          obtain ⟨v0, w0, _, h0⟩ := Does.some h
          rw [ny] at h0
          obtain ⟨u, hu, _⟩ := h0
          refine ⟨u, fun w' c => by rw [← ey a v0]; exact hu w' c, ?_⟩
          rw [nx]
          refine (dx a u w _).2 (Does.mono h fun v w' ⟨c, h'⟩ => ⟨c, ?_⟩)
          rw [ny] at h'
          obtain ⟨u', hu', h'⟩ := h'
          have e1 := hu w hC
          have e2 := hu' w hC
          rw [ey] at e1 e2
          rw [e1] at e2
          injection e2 with e2
          injection e2 with e2
          subst e2
          rw [← comm]
          exact h'
    · have hy' : Region.wanted y (yielded ops a.tmps) = false := by simpa using hy
      rw [wpM_neg hy', wpM_pos (by rw [wx]; exact hx)]
      have ny : ∀ u w, wpM P ops C Q ((j, y, ky) :: r) (a.put x.dst u) w = wpM P ops C Q r ((a.put x.dst u).put y.dst undef) w := fun u w => wpM_neg (by rw [wy]; exact hy')
      cases kx with
      | fin => cases ky <;> simp [Kd.ok] at hk
      | held => obtain ⟨v, hv, h⟩ := h; rw [ny] at h; exact ⟨v, fun w' c => by rw [exx]; exact hv w' c, by rw [← comm]; exact h⟩
      | read => obtain ⟨v, hv, h⟩ := h; rw [ny] at h; exact ⟨v, by rw [exx]; exact hv, by rw [← comm]; exact h⟩
      | eff => exact (dx a _ w _).2 (Does.mono h fun v w' ⟨c, h⟩ => ⟨c, by rw [ny] at h; rw [← comm]; exact h⟩)
  · have hx' : Region.wanted x (yielded ops a.tmps) = false := by simpa using hx
    rw [wpM_neg hx'] at h
    have nx : ∀ u w, wpM P ops C Q ((i, x, kx) :: r) (a.put y.dst u) w = wpM P ops C Q r ((a.put y.dst u).put x.dst undef) w := fun u w => wpM_neg (by rw [wx]; exact hx')
    by_cases hy : Region.wanted y (yielded ops a.tmps) = true
    · rw [wpM_pos (by rw [wy]; exact hy)] at h
      rw [wpM_pos hy]
      cases ky with
      | fin => cases kx <;> simp [Kd.ok] at hk
      | held => obtain ⟨v, hv, h⟩ := h; exact ⟨v, fun w' c => by rw [← ey a undef]; exact hv w' c, by rw [nx, ← comm]; exact h⟩
      | read => obtain ⟨v, hv, h⟩ := h; exact ⟨v, by rw [← ey a undef]; exact hv, by rw [nx, ← comm]; exact h⟩
      | eff => exact Does.mono ((dy a _ w _).1 h) fun v w' ⟨c, h⟩ => ⟨c, by rw [nx, ← comm]; exact h⟩
    · have hy' : Region.wanted y (yielded ops a.tmps) = false := by simpa using hy
      rw [wpM_neg (by rw [wy]; exact hy')] at h
      rw [wpM_neg hy', wpM_neg (by rw [wx]; exact hx'), ← comm]
      exact h
theorem frontM {i : Nat} {y : Oper} {ky : Kd} {post : List (Nat × Oper × Kd)} (hsy : ∀ cs b, y.op ≠ .select cs b) : ∀ (pre : List (Nat × Oper × Kd)) (a : Act) (w : World), C w →
    (∀ p ∈ pre, Kd.ok p.2.2 ky = true ∧ p.2.1.apart ops y = true ∧ ∀ cs b, p.2.1.op ≠ .select cs b) → wpM P ops C Q (pre ++ (i, y, ky) :: post) a w → wpM P ops C Q ((i, y, ky) :: (pre ++ post)) a w
  | [], _, _, _, _, h => h
  | (j, x, kx) :: pre, a, w, hC, hp, h => by
    obtain ⟨hk, hap, hsx⟩ := hp (j, x, kx) (by simp)
    refine swapM hk hap hsx hsy hC ?_
    by_cases hx : Region.wanted x (yielded ops a.tmps) = true
    · rw [List.cons_append, wpM_pos hx] at h
      rw [wpM_pos hx]
      refine stepM_mono hC (fun hl => ?_) (fun a' w' hC' h' => ?_) h
      · simp at hl
      · exact frontM hsy pre a' w' hC' (fun p hm => hp p (by simp [hm])) h'
    · have hx' : Region.wanted x (yielded ops a.tmps) = false := by simpa using hx
      rw [List.cons_append, wpM_neg hx'] at h
      rw [wpM_neg hx']
      exact frontM hsy pre _ w hC (fun p hm => hp p (by simp [hm])) h
def preds (o : Oper) : List Nat := o.after.toList.filterMap fun e => if Region.binds .any e then some e.on else none
def closed (ops : List Oper) : List (List Nat) :=
  ops.foldl (fun acc o => acc ++ [((preds o) ++ (preds o).flatMap fun p => acc.getD p []).eraseDups]) []
def okRegion (ops : List Oper) (ks : List Kd) (M : List (List Nat)) : Bool :=
  ops.zipIdx.all (fun p => (preds p.1).all (fun j => decide (j < p.2)) &&
    (M.getD p.2 []).all (fun j => (preds p.1).contains j || (preds p.1).any fun q => (M.getD q []).contains j)) &&
  ops.zipIdx.all (fun p => ops.zipIdx.all fun q => !decide (q.2 < p.2) || (M.getD p.2 []).contains q.2 || (Kd.ok (ks.getD q.2 .fin) (ks.getD p.2 .fin) && q.1.apart ops.toArray p.1)) &&
  Region.noSelect ops.toArray
theorem any_of_M {l : List Oper} {ks : List Kd} {M : List (List Nat)} {Qx : Exit → Act → World → Prop} (hB : okRegion l ks M = true) (hQ : ∀ a w, Q a w → Qx .normal a w) :
    ∀ (fuel : Nat) (listed : Array Bool) (its : List (Nat × Oper × Kd)) (a : Act) (w : World), its.length = fuel → listed.size = l.length →
      (its.map Prod.fst).Pairwise (· < ·) →
      (∀ i o k, (i, o, k) ∈ its ↔ l[i]? = some o ∧ k = ks.getD i .fin ∧ listed.getD i true = false) →
      (∀ i o, l[i]? = some o → listed.getD i false = true → ∀ j ∈ preds o, listed.getD j false = true) →
      (its ≠ [] → C w) → wpM P l.toArray C Q its a w → wpAny P .any l.toArray Qx fuel listed a w := by
  simp only [okRegion, Bool.and_eq_true, List.all_eq_true] at hB
  obtain ⟨⟨hB1, hB2⟩, hB3⟩ := hB
  have hback : ∀ (i : Nat) (o : Oper), l[i]? = some o → ∀ j ∈ preds o, j < i := by
    intro i o ho j hj
    have := (hB1 (o, i) (List.mem_zipIdx_iff_getElem?.2 ho))
    simpa using this.1 j hj
  have hcl : ∀ (i : Nat) (o : Oper), l[i]? = some o → ∀ j ∈ M.getD i [], j ∈ preds o ∨ ∃ q ∈ preds o, j ∈ M.getD q [] := by
    intro i o ho j hj
    have := (hB1 (o, i) (List.mem_zipIdx_iff_getElem?.2 ho)).2 j hj
    simp only [Bool.or_eq_true, List.contains_iff_mem, List.any_eq_true] at this
    rcases this with h | ⟨q, hq, h⟩
    · exact .inl (by simpa using h)
    · exact .inr ⟨q, hq, by simpa using h⟩
  have hpair : ∀ (i : Nat) (o : Oper) (j : Nat) (o' : Oper), l[i]? = some o → l[j]? = some o' → j < i → j ∉ M.getD i [] → Kd.ok (ks.getD j .fin) (ks.getD i .fin) = true ∧ o'.apart l.toArray o = true := by
    intro i o j o' ho ho' hji hn
    have := hB2 (o, i) (List.mem_zipIdx_iff_getElem?.2 ho) (o', j) (List.mem_zipIdx_iff_getElem?.2 ho')
    simp only [Bool.or_eq_true, Bool.not_eq_true', decide_eq_false_iff_not, Bool.and_eq_true] at this
    rcases this with (h | h) | h
    · exact absurd hji h
    · exact absurd (by simpa using h) hn
    · exact h
  have hsel : ∀ (i : Nat) (o : Oper), l[i]? = some o → ∀ cs b, o.op ≠ .select cs b := fun i o ho cs b => Region.noSelect_spec hB3 i o cs b (by simpa using ho)
  have mem_preds : ∀ (o : Oper) j, j ∈ preds o ↔ ∃ e ∈ o.after, Region.binds .any e = true ∧ e.on = j := by
    intro o j
    simp only [preds, List.mem_filterMap]
    constructor
    · rintro ⟨e, he, h⟩
      split at h
      · rename_i hb; exact ⟨e, by simpa using he, hb, by simpa using h⟩
      · cases h
    · rintro ⟨e, he, hb, rfl⟩
      exact ⟨e, by simpa using he, by simp [hb]⟩
  intro fuel
  induction fuel with
  | zero =>
    intro listed its a w hl hsz _ hmem _ _ h
    have : its = [] := List.eq_nil_of_length_eq_zero hl
    subst this
    refine ⟨?_, hQ _ _ h⟩
    apply List.eq_nil_iff_forall_not_mem.2
    intro i hi
    obtain ⟨h1, o, ho, _⟩ := mem_ready.1 hi
    have := (hmem i o _).2 ⟨by simpa using ho, rfl, h1⟩
    cases this
  | succ fuel ih =>
    intro listed its a w hl hsz hpw hmem hdown hC h
    have hne : its ≠ [] := fun e => by simp [e] at hl
    -- ancestors of what is listed, or may come now, are listed
    have anc : ∀ (n i : Nat) (o : Oper), i ≤ n → l[i]? = some o → (∀ j ∈ preds o, listed.getD j false = true) → ∀ j ∈ M.getD i [], listed.getD j false = true := by
      intro n
      induction n with
      | zero =>
        intro i o hi ho hp j hj
        rcases hcl i o ho j hj with h | ⟨q, hq, _⟩
        · exact hp j h
        · have := hback i o ho q hq; omega
      | succ n ihn =>
        intro i o hi ho hp j hj
        rcases hcl i o ho j hj with h | ⟨q, hq, h⟩
        · exact hp j h
        · have hlt := hback i o ho q hq
          have hql : q < l.length := by have := (List.getElem?_eq_some_iff.1 ho).1; omega
          exact ihn q _ (by omega) (List.getElem?_eq_getElem hql) (hdown q _ (List.getElem?_eq_getElem hql) (hp q hq)) j h
    refine ⟨fun hr => ?_, fun i hi => ?_⟩
    · -- the first of those left may come now
      exfalso
      match its, hne, hpw, hmem with
      | (i0, o0, k0) :: r, _, hpw, hmem =>
        obtain ⟨h1, h2, h3⟩ := (hmem i0 o0 k0).1 (by simp)
        have : i0 ∈ Region.ready .any l.toArray listed := by
          rw [mem_ready]
          refine ⟨h3, o0, by simpa using h1, fun e he hb => ?_⟩
          have hp : e.on ∈ preds o0 := (mem_preds _ _).2 ⟨e, he, hb, rfl⟩
          have hlt := hback i0 o0 h1 _ hp
          cases hv : listed.getD e.on false with
          | true => rfl
          | false =>
            exfalso
            have hel : e.on < l.length := by have := (List.getElem?_eq_some_iff.1 h1).1; omega
            have hv' : listed.getD e.on true = false := by
              have hs : e.on < listed.size := by omega
              simp [hs] at hv ⊢
              exact hv
            have hm := (hmem e.on _ _).2 ⟨List.getElem?_eq_getElem hel, rfl, hv'⟩
            rcases List.mem_cons.1 hm with hm | hm
            · have : e.on = i0 := congrArg Prod.fst hm; omega
            · have := (List.pairwise_cons.1 hpw).1 e.on (List.mem_map_of_mem (f := Prod.fst) hm)
              omega
        rw [hr] at this
        cases this
    · obtain ⟨h1, o, ho, hall⟩ := mem_ready.1 hi
      have ho' : l[i]? = some o := by simpa using ho
      have hpre : ∀ j ∈ preds o, listed.getD j false = true := fun j hj => by
        obtain ⟨e, he, hb, rfl⟩ := (mem_preds _ _).1 hj
        exact hall e he hb
      have hin : (i, o, ks.getD i .fin) ∈ its := (hmem i o _).2 ⟨ho', rfl, h1⟩
      obtain ⟨pre, post, rfl⟩ := List.append_of_mem hin
      have hlt : ∀ p ∈ pre, p.1 < i := by
        intro p hp
        rw [List.map_append, List.pairwise_append] at hpw
        exact hpw.2.2 p.1 (List.mem_map_of_mem hp) i (by simp)
      have hfront := frontM (ky := ks.getD i .fin) (post := post) (i := i) (hsel i o ho') pre a w (hC hne) (by
        intro p hp
        obtain ⟨j, x, kx⟩ := p
        obtain ⟨g1, g2, g3⟩ := (hmem j x kx).1 (by simp [hp])
        subst g2
        have hji := hlt _ hp
        have hnm : j ∉ M.getD i [] := fun hm => by
          have := anc i i o (Nat.le_refl _) ho' hpre j hm
          have hjs : j < listed.size := by have := (List.getElem?_eq_some_iff.1 g1).1; omega
          simp [hjs] at g3 this
          rw [this] at g3
          cases g3
        exact ⟨(hpair i o j x ho' g1 hji hnm).1, (hpair i o j x ho' g1 hji hnm).2, hsel j x g1⟩) h
      have hisz : i < listed.size := by have := (List.getElem?_eq_some_iff.1 ho').1; omega
      have next : ∀ a' w', (pre ++ post ≠ [] → C w') → wpM P l.toArray C Q (pre ++ post) a' w' → wpAny P .any l.toArray Qx fuel (listed.setIfInBounds i true) a' w' := by
        intro a' w' hC' h'
        refine ih _ (pre ++ post) a' w' (by simp at hl ⊢; omega) (by simpa using hsz) ?_ ?_ ?_ hC' h'
        · refine hpw.sublist ?_
          exact List.Sublist.map _ (List.Sublist.append_left (List.sublist_cons_self _ _) _)
        · intro j x kx
          constructor
          · intro hm
            have hm' : (j, x, kx) ∈ pre ++ (i, o, ks.getD i .fin) :: post := by
              rcases List.mem_append.1 hm with h | h
              · exact List.mem_append.2 (.inl h)
              · exact List.mem_append.2 (.inr (List.mem_cons_of_mem _ h))
            obtain ⟨g1, g2, g3⟩ := (hmem j x kx).1 hm'
            have hne' : i ≠ j := by
              intro e
              subst e
              rcases List.mem_append.1 hm with h | h
              · have := hlt _ h; simp at this
              · rw [List.map_append, List.pairwise_append, List.map_cons] at hpw
                have := (List.pairwise_cons.1 hpw.2.1).1 _ (List.mem_map_of_mem (f := Prod.fst) h)
                simp at this
            exact ⟨g1, g2, by rw [getD_set_ne true hne']; exact g3⟩
          · rintro ⟨g1, g2, g3⟩
            have hne' : i ≠ j := by
              intro e
              subst e
              simp [hisz] at g3
            rw [getD_set_ne true hne'] at g3
            have := (hmem j x kx).2 ⟨g1, g2, g3⟩
            rcases List.mem_append.1 this with h | h
            · exact List.mem_append.2 (.inl h)
            · rcases List.mem_cons.1 h with h | h
              · exact absurd (congrArg Prod.fst h).symm hne'
              · exact List.mem_append.2 (.inr h)
        · intro j x hx hj q hq
          by_cases e : i = j
          · subst e
            have : x = o := Option.some.inj (hx.symm.trans ho')
            subst this
            exact getD_set_true (hpre q hq)
          · rw [getD_set_ne false e] at hj
            exact getD_set_true (hdown j x hx hj q hq)
      unfold wpOp
      simp only [ho]
      by_cases hw : Region.wanted o (yielded l.toArray a.tmps) = true
      · rw [if_pos hw]
        rw [wpM_pos hw] at hfront
        left
        refine Does.wp ?_
        generalize hk : ks.getD i .fin = kk at hfront
        cases kk with
        | held => obtain ⟨v, hv, h'⟩ := hfront; exact .value (hv w (hC hne)) (next _ _ (fun _ => hC hne) h')
        | read => obtain ⟨v, hv, h'⟩ := hfront; exact .value hv (next _ _ (fun _ => hC hne) h')
        | eff => exact Does.mono hfront fun v w' ⟨c, h'⟩ => next _ _ (fun _ => c) h'
        | fin => exact Does.mono hfront.2 fun v w' h' => next _ _ (fun hn => absurd hfront.1 hn) h'
      · have hw' : Region.wanted o (yielded l.toArray a.tmps) = false := by simpa using hw
        rw [if_neg hw]
        rw [wpM_neg hw'] at hfront
        exact next _ _ (fun _ => hC hne) hfront
def itemsM (l : List Oper) (ks : List Kd) : List (Nat × Oper × Kd) := l.zipIdx.map fun p => (p.2, p.1, ks.getD p.2 .fin)
theorem wp_region_mixed {id : Nat} {l : List Oper} {Qx : Exit → Act → World → Prop} {a : Act} {w : World} (C : World → Prop) (ks : List Kd) (hm : P.follows .mixedOrders = true) (hB : okRegion l ks (closed l) = true)
    (hC : C { w with drawn := w.drawn + 1 })
    (h : wpM P l.toArray C (fun a w => Qx .normal a w) (itemsM l ks) a { w with drawn := w.drawn + 1 }) : (Code.region id l.toArray true).wp P Qx a w := by
  refine wp_region_any hm ?_
  have hlen : (itemsM l ks).length = l.length := by simp [itemsM]
  have := any_of_M (C := C) (Qx := Qx) hB (fun _ _ h => h) l.length (Array.replicate l.length false) (itemsM l ks) a { w with drawn := w.drawn + 1 } hlen (by simp) ?_ ?_ ?_ (fun _ => hC) h
  · simpa using this
  · have e : (itemsM l ks).map Prod.fst = List.range' 0 l.length := by
      simp only [itemsM, List.map_map]
      have : (Prod.fst ∘ fun (p : Oper × Nat) => (p.2, p.1, ks.getD p.2 .fin)) = Prod.snd := rfl
      rw [this]
      simp
    rw [e]
    exact List.pairwise_lt_range'
  · intro i o k
    simp only [itemsM, List.mem_map]
    constructor
    · rintro ⟨⟨o', i'⟩, hm, he⟩
      simp only [Prod.mk.injEq] at he
      obtain ⟨rfl, rfl, rfl⟩ := he
      have := List.mem_zipIdx_iff_getElem?.1 hm
      have hlt := (List.getElem?_eq_some_iff.1 this).1
      exact ⟨this, rfl, by simp [hlt]⟩
    · rintro ⟨h1, rfl, _⟩
      exact ⟨(o, i), List.mem_zipIdx_iff_getElem?.2 h1, rfl⟩
  · intro i o ho hi
    have hlt := (List.getElem?_eq_some_iff.1 ho).1
    simp [hlt] at hi
end
end Vw
namespace Vw
open Go
section
variable {P : Program} {ops : Array Oper} {C : World → Prop} {Q : Act → World → Prop} {r : List (Nat × Oper × Kd)} {a : Act} {w : World} {N i : Nat} {L : List (Nat × Value)}
variable {d : Nat} {op : Op} {ty : TypeId} {pos : String} {after : Array Edge} {g : Option (Nat × Bool)}
theorem m_held {v : Value} (hf : Has N a L) (hw : Region.wanted ⟨some d, op, ty, pos, after, g⟩ (yielded ops a.tmps) = true)
    (hr : ∀ w', C w' → (execOp a.eval ⟨some d, op, ty, pos, after, g⟩).run P w' = .ok (.value v) w')
    (h : ∀ a', Has N a' ((d, v) :: L) → wpM P ops C Q r a' w) (hd : d < N := by decide) : wpM P ops C Q ((i, ⟨some d, op, ty, pos, after, g⟩, .held) :: r) a w := by
  rw [wpM_pos hw]
  exact ⟨v, hr, h _ (hf.put v hd)⟩
theorem m_read {v : Value} (hf : Has N a L) (hw : Region.wanted ⟨some d, op, ty, pos, after, g⟩ (yielded ops a.tmps) = true)
    (hr : (execOp a.eval ⟨some d, op, ty, pos, after, g⟩).run P w = .ok (.value v) w)
    (h : ∀ a', Has N a' ((d, v) :: L) → wpM P ops C Q r a' w) (hd : d < N := by decide) : wpM P ops C Q ((i, ⟨some d, op, ty, pos, after, g⟩, .read) :: r) a w := by
  rw [wpM_pos hw]
  exact ⟨v, hr, h _ (hf.put v hd)⟩
theorem m_eff (hf : Has N a L) (hw : Region.wanted ⟨some d, op, ty, pos, after, g⟩ (yielded ops a.tmps) = true)
    (h : Does P a.eval ⟨some d, op, ty, pos, after, g⟩ w fun v w' => C w' ∧ ∀ a', Has N a' ((d, v) :: L) → wpM P ops C Q r a' w') (hd : d < N := by decide) :
    wpM P ops C Q ((i, ⟨some d, op, ty, pos, after, g⟩, .eff) :: r) a w := by
  rw [wpM_pos hw]
  exact Does.mono h fun v w' ⟨c, h⟩ => ⟨c, h _ (hf.put v hd)⟩
theorem m_eff0 (hf : Has N a L) (hw : Region.wanted ⟨none, op, ty, pos, after, g⟩ (yielded ops a.tmps) = true)
    (h : Does P a.eval ⟨none, op, ty, pos, after, g⟩ w fun _ w' => C w' ∧ ∀ a', Has N a' L → wpM P ops C Q r a' w') :
    wpM P ops C Q ((i, ⟨none, op, ty, pos, after, g⟩, .eff) :: r) a w := by
  rw [wpM_pos hw]
  exact Does.mono h fun v w' ⟨c, h⟩ => ⟨c, h _ hf⟩
theorem m_fin (hf : Has N a L) (hw : Region.wanted ⟨some d, op, ty, pos, after, g⟩ (yielded ops a.tmps) = true)
    (h : Does P a.eval ⟨some d, op, ty, pos, after, g⟩ w fun v w' => ∀ a', Has N a' ((d, v) :: L) → Q a' w') (hd : d < N := by decide) :
    wpM P ops C Q [(i, ⟨some d, op, ty, pos, after, g⟩, .fin)] a w := by
  rw [wpM_pos hw]
  exact ⟨rfl, Does.mono h fun v w' h => h _ (hf.put v hd)⟩
theorem m_fin0 (hf : Has N a L) (hw : Region.wanted ⟨none, op, ty, pos, after, g⟩ (yielded ops a.tmps) = true)
    (h : Does P a.eval ⟨none, op, ty, pos, after, g⟩ w fun _ w' => ∀ a', Has N a' L → Q a' w') :
    wpM P ops C Q [(i, ⟨none, op, ty, pos, after, g⟩, .fin)] a w := by
  rw [wpM_pos hw]
  exact ⟨rfl, Does.mono h fun v w' h => h _ hf⟩
theorem m_pass {j k : Nat} {want : Bool} {kd : Kd} (hf : Has N a L) (hj : (ops[j]?).bind (·.dst) = some k) (hk : look L k = some (.bool (!want)))
    (h : ∀ a', Has N a' ((d, undef) :: L) → wpM P ops C Q r a' w) (hd : d < N := by decide) : wpM P ops C Q ((i, ⟨some d, op, ty, pos, after, some (j, want)⟩, kd) :: r) a w := by
  have := hf.get k _ hk
  rw [wpM_neg (by simp [Region.wanted, yielded, hj, this])]
  exact h _ (hf.put _ hd)
theorem m_nil (h : Q a w) : wpM P ops C Q [] a w := h
end
end Vw
namespace Vw
open Go
theorem c_draw {P : Program} {σ : Sig} {H : List Asrt} {id : Nat} {l : List Oper} {Qx : Exit → Act → World → Prop} {a : Act} {w : World} (hs : St σ w H) (C : World → Prop) (ks : List Kd)
    (hm : P.follows .mixedOrders = true) (hB : okRegion l ks (closed l) = true) (hC : ∀ w', w'.heap = w.heap → St σ w' H → C w')
    (h : ∀ w', St σ w' H → C w' → w'.heap = w.heap → wpM P l.toArray C (fun a w => Qx .normal a w) (itemsM l ks) a w') : (Code.region id l.toArray true).wp P Qx a w := by
  have hs' : St σ { w with drawn := w.drawn + 1 } H := hs.same rfl rfl rfl rfl
  exact wp_region_mixed C ks hm hB (hC _ rfl hs') (h _ hs' (hC _ rfl hs') rfl)
end Vw
