/- Texts 4 of 17 that the law rests on: the small library, contracts of functions, printed by a program. -/
import Derived.Laws.AppendOwn
import Derived.Laws.MakeOwn
import Derived.Laws.IdiomCopy
import Derived.Test.YtehakfbfjpolfaaGreatDoorUp1
import Derived.Test.YtehakfbfjpolfaaGreatDoorUp2
import Derived.Test.YtehakfbfjpolfaaGreatDoorUp3
set_option maxRecDepth 100000
set_option linter.all false
namespace Vw
open Go
def u8v (x : UInt8) : Value := .int .u8 x.toNat
def cellH (h : Heaplet) (a : Addr) : Option Value :=
  match h a.block with
  | some (.cells c _ _) => if a.spot.isSome then none else c[a.off]?
  | _ => none
def hp (w : World) : Heaplet := fun k => w.heap[k]?
theorem cell_hp (w : World) (a : Addr) : w.cell? a = cellH (hp w) a := rfl
theorem cellH_mono {h h' : Heaplet} (l : hle h h') {a : Addr} {v : Value} (e : cellH h a = some v) : cellH h' a = some v := by
  unfold cellH at *
  cases hb : h a.block with
  | none => rw [hb] at e; cases e
  | some o => rw [l _ _ hb]; rw [hb] at e; exact e
def RdC (h : Heaplet) (v : Value) (sz n : Nat) (xs : List Value) : Prop :=
  xs.length = n * sz ∧ ((∃ c, v = .slice none 0 c ∧ n = 0) ∨ ∃ a c, v = .slice (some a) n c ∧ n ≤ c ∧ ∀ j u, xs[j]? = some u → cellH h (a.add j) = some u)
theorem RdC.mono {h h' : Heaplet} (l : hle h h') {v : Value} {sz n : Nat} {xs : List Value} (r : RdC h v sz n xs) : RdC h' v sz n xs := by
  refine ⟨r.1, ?_⟩
  rcases r.2 with x | ⟨a, c, e, hn, hc⟩
  · exact .inl x
  · exact .inr ⟨a, c, e, hn, fun j u hu => cellH_mono l (hc j u hu)⟩
def RdB (h : Heaplet) (v : Value) (l : List UInt8) : Prop := RdC h v 1 l.length (l.map u8v)
theorem Kept.hle {w w' : World} (h : Kept w w' None_) : hle (hp w) (hp w') := fun k u e => by
  have hlt : k < w.heap.size := (Array.getElem?_eq_some_iff.1 e).1
  exact (h.block k hlt (fun x => x)).trans e
abbrev cb (b : Nat) (T : TypeId) (vs : List Value) : Asrt := blk b (.cells vs.toArray T (0, 0))
section
variable {σ : Sig} {w w' : World} {L L' R : List Asrt} {A B : Asrt} {b T k : Nat} {vs : List Value} {v : Value}
theorem St.blk_at {o : Obj} (hs : St σ w L) (t : Take (blk b o) L R) : w.heap[b]? = some o := (hs.take t).head
theorem St.cell (hs : St σ w L) (t : Take (cb b T vs) L R) (hv : vs[k]? = some v) : w.cell? ⟨b, k, none⟩ = some v := by
  rw [cell_of_row w b k _ T (0, 0) (hs.blk_at t)]
  simpa using hv
theorem St.up (hs : St σ w L) (u : Up A B L L') (hi : ∀ h, A h → B h) : St σ w L' := by
  obtain ⟨R, t1, t2⟩ := u.takes
  exact ((hs.take t1).imp hi).give t2
theorem St.wrote_at {o o' : Obj} (hs : St σ w L) (u : Up (blk b o) (blk b o') L L') (hw : Wrote w w' b o') : St σ w' L' := by
  obtain ⟨R, t1, t2⟩ := u.takes
  exact ((hs.take t1).wrote hw).give t2
theorem setCell_wrote {arr : Array Value} (hb : w.heap[b]? = some (.cells arr T (0, 0))) (v : Value) : Wrote w (w.setCell ⟨b, k, none⟩ v) b (.cells (arr.setIfInBounds k v) T (0, 0)) := by
  refine ⟨rfl, rfl, rfl, by simp [World.setCell], ?_, fun j hj => RowKit.Below.heap_setCell w ⟨b, k, none⟩ v j hj⟩
  have hlt : b < w.heap.size := (Array.getElem?_eq_some_iff.1 hb).1
  simp [World.setCell, Array.getElem?_modify, hb]
theorem setRow_wrote {arr arr' : Array Value} (hb : w.heap[b]? = some (.cells arr T (0, 0))) : Wrote w (w.setRow b arr') b (.cells arr' T (0, 0)) :=
  ⟨rfl, rfl, rfl, by simp, setRow_heap w b arr arr' T (0, 0) hb, fun j hj => setRow_other w b j _ hj⟩
def sl (T sz : Nat) (v : Value) (n : Nat) (xs : List Value) : Asrt := fun h =>
  xs.length = n * sz ∧ ((v = .slice none 0 0 ∧ n = 0) ∨
    ∃ b cap cur, v = .slice (some ⟨b, 0, none⟩) n cap ∧ n ≤ cap ∧ cap ≤ maxLen ∧ cur.length = cap * sz ∧ cur.take (n * sz) = xs ∧ cb b T cur h)
theorem sl_rd {T sz : Nat} {v : Value} {n : Nat} {xs : List Value} {h : Heaplet} (hh : sl T sz v n xs h) : RdC h v sz n xs := by
  refine ⟨hh.1, ?_⟩
  rcases hh.2 with ⟨e, hn⟩ | ⟨b, cap, cur, e, hnc, _, _, ht, hb⟩
  · exact .inl ⟨0, by rw [e], hn⟩
  · refine .inr ⟨_, cap, e, hnc, fun j u hu => ?_⟩
    have hadd : (⟨b, 0, none⟩ : Addr).add j = ⟨b, j, none⟩ := by unfold Addr.add; split <;> simp_all
    rw [hadd]
    have hb' : h b = some (.cells cur.toArray T (0, 0)) := hb
    simp only [cellH, hb']
    rw [← ht, List.getElem?_take] at hu
    split at hu
    · simpa using hu
    · cases hu
theorem St.rd {sz n : Nat} {xs : List Value} (hs : St σ w L) (t : Take A L R) (hi : ∀ h, A h → RdC h v sz n xs) : RdC (hp w) v sz n xs :=
  (hs.take t).see fun h hl ha => (hi h ha).mono hl
theorem St.rdB {l : List UInt8} (hs : St σ w L) (t : Take A L R) (hi : ∀ h, A h → RdB h v l) : RdB (hp w) v l := hs.rd t hi
theorem St.old {sz n : Nat} {xs : List Value} (hs : St ⟨w', None_⟩ w L) (h : RdC (hp w') v sz n xs) : RdC (hp w) v sz n xs := h.mono hs.kept.hle
theorem St.oldB {l : List UInt8} (hs : St ⟨w', None_⟩ w L) (h : RdB (hp w') v l) : RdB (hp w) v l := hs.old h
end
structure SlT (P : Program) (t e sz by_ : Nat) (z : Value) : Prop where
  und : P.underlying t = some (.slice e)
  pos : 0 < sz
  zs : z.cells.size = sz
  info : ∃ i, P.info? e = some i ∧ i.size = sz ∧ i.bytes = by_ ∧ i.zero = some z
structure ScT (P : Program) (t : Nat) : Prop where
  agg : ∀ w, (isAgg t).run P w = .ok false w
  size : ∀ w, (Go.sizeOf t).run P w = .ok 1 w
structure AgT (P : Program) (t n : Nat) : Prop where
  agg : ∀ w, (isAgg t).run P w = .ok true w
  size : ∀ w, (Go.sizeOf t).run P w = .ok n w
structure FoT (P : Program) (s f off : Nat) : Prop where
  fits : ∃ fs fld k, P.underlying s = some (.struct fs) ∧ fs[f]? = some fld ∧ fld.offset = off ∧ ∀ w, (Go.sizeOf fld.type).run P w = .ok (k + 1) w
section
variable {P : Program} {ρ : Operand → Value}
variable {d : Option Nat} {ty : TypeId} {pos : String} {after : Array Edge} {g : Option (Nat × Bool)}
theorem x_fieldAddr {s f off : Nat} {x : Operand} {b o : Nat} (hf : FoT P s f off) (hx : ρ x = .pointer (some ⟨b, o, none⟩)) (w : World) :
    (execOp ρ ⟨d, .fieldAddr s x f, ty, pos, after, g⟩).run P w = .ok (.value (.pointer (some ⟨b, o + off, none⟩))) w := by
  obtain ⟨fs, fld, k, h1, h2, h3, h4⟩ := hf.fits
  have hadd : (⟨b, o, none⟩ : Addr).add fld.offset = ⟨b, o + off, none⟩ := by rw [h3]; unfold Addr.add; split <;> simp_all
  simp [execOp, Instr.fieldAt, Instr.sureAddr, fieldPlace, go_sem, hx, run_underlying h1, h2, h4, hadd, h3]
theorem x_load {t : Nat} {x : Operand} {p : Addr} {v : Value} {w : World} (ht : ScT P t) (hx : ρ x = .pointer (some p)) (hc : w.cell? p = some v) :
    (execOp ρ ⟨d, .load t x, ty, pos, after, g⟩).run P w = .ok (.value v) w := by
  simp [execOp, Instr.loadAt, Instr.sureAddr, loadVar, go_sem, hx, ht.agg, hc]
theorem x_loadAgg {t n : Nat} {x : Operand} {p : Addr} {vs : List Value} {w : World} (ht : AgT P t n) (hx : ρ x = .pointer (some p)) (hn : vs.length = n)
    (hc : ∀ j v, vs[j]? = some v → w.cell? (p.add j) = some v) :
    (execOp ρ ⟨d, .load t x, ty, pos, after, g⟩).run P w = .ok (.value (.agg vs.toArray)) w := by
  have hl := run_loadCells_list (P := P) w p vs hc
  rw [hn] at hl
  unfold loadCells at hl
  simp [execOp, Instr.loadAt, Instr.sureAddr, loadVar, go_sem, hx, ht.agg, ht.size, hl]
theorem x_store {t : Nat} {x y : Operand} {p : Addr} {u v : Value} {w : World} (ht : ScT P t) (hx : ρ x = .pointer (some p)) (hy : ρ y = v) (h1 : v.oneCell' = true)
    (hc : w.cell? p = some u) (hz : w.frozen? p = false) :
    (execOp ρ ⟨d, .store t x y, ty, pos, after, g⟩).run P w = .ok .skip (w.setCell p v) := by
  have hcells : v.cells = #[v] := by cases v <;> simp_all [Value.oneCell', Value.cells]
  have hst := run_store P w p v .plain h1
  simp only [hc, hz] at hst
  have h2 : (storeVar t p v).run P w = .ok () (w.setCell p v) := by
    unfold storeVar
    rw [hcells]
    simp [storeCells, go_sem, ht.size, Addr.add]
    simpa using hst
  have h3 : Instr.storeAt t (.pointer (some p)) v = storeVar t p v := rfl
  simp only [execOp, hx, hy, h3, Sem.run_bind, h2, Result.andThen_ok, Sem.run_pure]
theorem x_indexAddr {t e sz by_ : Nat} {z : Value} {x y : Operand} {a : Addr} {n c : Nat} {k : IntKind} {i : Int} (ht : SlT P t e sz by_ z)
    (hx : ρ x = .slice (some a) n c) (hy : ρ y = .int k i) (h0 : 0 ≤ i) (h1 : i < n) (w : World) :
    (execOp ρ ⟨d, .indexAddr t x y, ty, pos, after, g⟩).run P w = .ok (.value (.pointer (some (a.add (i.toNat * sz))))) w := by
  obtain ⟨inf, h2, h3, _, _⟩ := ht.info
  simp [execOp, Instr.indexAt, asIntOf, go_sem, hx, hy, run_underlying ht.und, Go.sizeOf, typeInfo, h2, h3, h0, h1]
end
end Vw

namespace Vw
open Go
def Does (P : Program) (ρ : Operand → Value) (o : Oper) (w : World) (K : Value → World → Prop) : Prop :=
  match (execOp ρ o).run P w with
  | .ok (.value v) w' => K v w'
  | .ok .skip w' => K undef w'
  | .ok (.enter f args) w' => Calls P f args w' fun e w'' => ∃ v, e = .returned v ∧ K v w''
  | _ => False
theorem Does.value {P : Program} {ρ : Operand → Value} {o : Oper} {w w' : World} {v : Value} {K : Value → World → Prop}
    (hr : (execOp ρ o).run P w = .ok (.value v) w') (h : K v w') : Does P ρ o w K := by
  unfold Does; rw [hr]; exact h
theorem Does.skip {P : Program} {ρ : Operand → Value} {o : Oper} {w w' : World} {K : Value → World → Prop}
    (hr : (execOp ρ o).run P w = .ok .skip w') (h : K undef w') : Does P ρ o w K := by
  unfold Does; rw [hr]; exact h
theorem Does.enter {P : Program} {ρ : Operand → Value} {o : Oper} {w w' : World} {f : FuncId} {args : Array Value} {K : Value → World → Prop}
    (hr : (execOp ρ o).run P w = .ok (.enter f args) w') (h : Calls P f args w' fun e w'' => ∃ v, e = .returned v ∧ K v w'') : Does P ρ o w K := by
  unfold Does; rw [hr]; exact h
theorem Does.wp {P : Program} {o : Oper} {a : Act} {w : World} {next : Act → World → Prop} {Q : Exit → Act → World → Prop}
    (h : Does P a.eval o w fun v w' => next (a.put o.dst v) w') : o.wp P a w next Q := by
  unfold Does at h
  unfold Oper.wp
  generalize (execOp a.eval o).run P w = r at *
  cases r with
  | halt x w' => exact h.elim
  | ok n w' =>
    cases n <;> first
      | exact h.elim
      | exact h
      | exact h.mono fun e w'' ⟨v, he, hk⟩ => by subst he; exact hk
def evs (L : List (Nat × Value)) : List Operand → Option (List Value)
  | [] => some []
  | x :: r => match ev L x, evs L r with
    | some v, some vs => some (v :: vs)
    | _, _ => none
theorem Has.evals {N : Nat} {a : Act} {L : List (Nat × Value)} (h : Has N a L) {xs : List Operand} {vs : List Value} (hx : evs L xs = some vs) : xs.toArray.map a.eval = vs.toArray := by
  induction xs generalizing vs with
  | nil => simp [evs] at hx; subst hx; simp
  | cons x r ih =>
    unfold evs at hx
    cases h1 : ev L x with
    | none => simp [h1] at hx
    | some v =>
      cases h2 : evs L r with
      | none => simp [h1, h2] at hx
      | some vs' =>
        simp [h1, h2] at hx
        subst hx
        have := ih h2
        simp at this
        simp [h.eval h1, this]
section
variable {P : Program} {ops : Array Oper} {Q : Exit → Act → World → Prop} {rest : List Oper} {a : Act} {w : World} {N : Nat} {L : List (Nat × Value)}
variable {d : Nat} {op : Op} {ty : TypeId} {pos : String} {after : Array Edge} {g : Option (Nat × Bool)}
theorem s_do (hf : Has N a L) (hw : Region.wanted ⟨some d, op, ty, pos, after, g⟩ (yielded ops a.tmps) = true := by rfl)
    (h : Does P a.eval ⟨some d, op, ty, pos, after, g⟩ w fun v w' => ∀ a', Has N a' ((d, v) :: L) → wpList P ops Q rest a' w') (hd : d < N := by decide) :
    wpList P ops Q (⟨some d, op, ty, pos, after, g⟩ :: rest) a w := by
  unfold wpList
  rw [if_pos hw]
  refine .inl (Does.wp ?_)
  unfold Does at *
  generalize (execOp a.eval _).run P w = r at *
  cases r with
  | halt x w' => exact h.elim
  | ok n w' =>
    cases n <;> first
      | exact h.elim
      | exact h _ (hf.put _ hd)
      | exact h.mono fun e w'' ⟨v, he, hk⟩ => ⟨v, he, hk _ (hf.put _ hd)⟩
theorem s_do0 (hf : Has N a L) (hw : Region.wanted ⟨none, op, ty, pos, after, g⟩ (yielded ops a.tmps) = true := by rfl)
    (h : Does P a.eval ⟨none, op, ty, pos, after, g⟩ w fun _ w' => ∀ a', Has N a' L → wpList P ops Q rest a' w') :
    wpList P ops Q (⟨none, op, ty, pos, after, g⟩ :: rest) a w := by
  unfold wpList
  rw [if_pos hw]
  refine .inl (Does.wp ?_)
  unfold Does at *
  generalize (execOp a.eval _).run P w = r at *
  cases r with
  | halt x w' => exact h.elim
  | ok n w' =>
    cases n <;> first
      | exact h.elim
      | exact h _ hf
      | exact h.mono fun e w'' ⟨v, he, hk⟩ => ⟨v, he, hk _ hf⟩
end
end Vw

namespace Vw
open Go
section
variable {P : Program} {ρ : Operand → Value} {K : Value → World → Prop} {w : World}
variable {d : Option Nat} {ty : TypeId} {pos : String} {after : Array Edge} {g : Option (Nat × Bool)}
variable {σ : Sig} {L L' R : List Asrt}
theorem y_store {t : Nat} {x y : Operand} {b k T : Nat} {v : Value} {vs : List Value} (hs : St σ w L) (ht : ScT P t) (hx : ρ x = .pointer (some ⟨b, k, none⟩)) (hy : ρ y = v)
    (h1 : v.oneCell' = true) (u : Up (cb b T vs) (cb b T (vs.set k v)) L L') (hk : k < vs.length) (h : ∀ w', St σ w' L' → K undef w') :
    Does P ρ ⟨d, .store t x y, ty, pos, after, g⟩ w K := by
  obtain ⟨R, t1, t2⟩ := u.takes
  have hb := hs.blk_at t1
  have hc : w.cell? ⟨b, k, none⟩ = some vs[k] := by rw [cell_of_row w b k _ T (0, 0) hb]; simp [hk]
  refine .skip (x_store ht hx hy h1 hc (frozen_of_row w b k _ T hb)) (h _ ?_)
  refine hs.wrote_at u ?_
  have := setCell_wrote (k := k) hb v
  simpa using this
theorem y_alloc {t : Nat} {z : Value} (hs : St σ w L) (hz : ∀ w, (zeroValue t).run P w = .ok z w)
    (h : ∀ b w', St σ w' (cb b t z.cells.toList :: L) → K (.pointer (some ⟨b, 0, none⟩)) w') : Does P ρ ⟨d, .alloc t, ty, pos, after, g⟩ w K := by
  refine .value (v := .pointer (some ⟨w.heap.size, 0, none⟩)) (w' := w.alloc (.cells z.cells t (0, 0))) ?_ (h _ _ ?_)
  · simp [execOp, Instr.alloc, newVar, newRow, go_sem, hz]
  · exact hs.alloc _
theorem y_box {t : Nat} {x : Operand} {v : Value} (hs : St σ w L) (hx : ρ x = v)
    (h : ∀ b w', St σ w' (cb b t v.cells.toList :: L) → K (.pointer (some ⟨b, 0, none⟩)) w') : Does P ρ ⟨d, .box t x, ty, pos, after, g⟩ w K := by
  refine .value (v := .pointer (some ⟨w.heap.size, 0, none⟩)) (w' := w.alloc (.cells v.cells t (0, 0))) ?_ (h _ _ ?_)
  · simp only [execOp, hx]
    simp [Instr.box, newVar, newRow, go_sem]
  · exact hs.alloc _
theorem y_makeSlice {t e sz by_ : Nat} {z : Value} {x y : Operand} {k k' : IntKind} {m c : Int} (hs : St σ w L) (ht : SlT P t e sz by_ z)
    (hx : ρ x = .int k m) (hy : ρ y = .int k' c) (h0 : 0 ≤ m) (h1 : m ≤ c) (h2 : c * by_ ≤ 281474976710656) (h3 : c ≤ 9223372036854775807)
    (h : ∀ b w', St σ w' (cb b e (madeCells z.cells (c.toNat * sz)).toList :: L) → K (.slice (some ⟨b, 0, none⟩) m.toNat c.toNat) w') :
    Does P ρ ⟨d, .makeSlice t x y, ty, pos, after, g⟩ w K := by
  obtain ⟨inf, h4, h5, h6, h7⟩ := ht.info
  refine .value (v := .slice (some ⟨w.heap.size, 0, none⟩) m.toNat c.toNat) (w' := w.alloc (.cells (madeCells z.cells (c.toNat * sz)) e (0, 0))) ?_ (h _ _ ?_)
  · have hm : IntKind.i64.wrap m = m := wrap_i64 (by omega) (by omega)
    have hc : IntKind.i64.wrap c = c := wrap_i64 (by omega) (by omega)
    have h8 : ¬ (281474976710656 : Int) < by_ * c := by rw [Int.mul_comm]; omega
    have h9 : ¬ c < 0 := by omega
    have h10 : ¬ m < 0 := by omega
    have h11 : ¬ c < m := by omega
    simp only [execOp, hx, hy]
    by_cases hn : c.toNat * sz = 0
    · simp [Instr.makeSlice, asInt, asIntOf, go_sem, run_underlying ht.und, typeInfo, h4, h5, h6, hm, hc, h8, h9, h10, h11, newRow, Go.sizeOf, hn, madeCells]
    · simp [Instr.makeSlice, asInt, asIntOf, go_sem, run_underlying ht.und, typeInfo, h4, h5, h6, hm, hc, h8, h9, h10, h11, newRow, Go.sizeOf, hn, madeCells, zeroValue, h7]
  · exact hs.alloc _
end
end Vw

namespace Vw
open Go
def subA (a : Option Addr) (c l sz : Nat) : Option Addr := if c = l then a else a.map (·.add (l * sz))
theorem Addr_add_add (a : Addr) (m n : Nat) : (a.add m).add n = a.add (m + n) := by
  unfold Addr.add
  by_cases hm : m = 0
  · subst hm; simp
  · by_cases hn : n = 0
    · subst hn; simp
    · simp [hm, hn]; omega
theorem RdC.sub {h : Heaplet} {a : Option Addr} {n c sz : Nat} {xs : List Value} (r : RdC h (.slice a n c) sz n xs) {l m : Nat} (h1 : l ≤ m) (h2 : m ≤ n) :
    RdC h (.slice (subA a c l sz) (m - l) (c - l)) sz (m - l) ((xs.drop (l * sz)).take ((m - l) * sz)) := by
  have hlen : ((xs.drop (l * sz)).take ((m - l) * sz)).length = (m - l) * sz := by
    rw [List.length_take, List.length_drop, r.1, Nat.min_eq_left]
    rw [← Nat.sub_mul]
    exact Nat.mul_le_mul_right _ (by omega)
  refine ⟨hlen, ?_⟩
  rcases r.2 with ⟨c', e, hn⟩ | ⟨a', c', e, hnc, hc⟩
  · cases e
    left
    exact ⟨c - l, by simp [subA]; omega, by omega⟩
  · cases e
    right
    by_cases hcl : c = l
    · refine ⟨a', c - l, by simp [subA, hcl], by omega, fun j u hu => ?_⟩
      have hml : m - l = 0 := by omega
      rw [hml] at hu
      simp at hu
    · refine ⟨a'.add (l * sz), c - l, by simp [subA, hcl], by omega, fun j u hu => ?_⟩
      rw [Addr_add_add]
      refine hc _ _ ?_
      rw [List.getElem?_take] at hu
      split at hu
      · simpa using hu
      · cases hu
theorem RdB.sub {h : Heaplet} {a : Option Addr} {n c : Nat} {l : List UInt8} (r : RdB h (.slice a n c) l) (hn : l.length = n) {i j : Nat} (h1 : i ≤ j) (h2 : j ≤ n) :
    RdB h (.slice (subA a c i 1) (j - i) (c - i)) ((l.drop i).take (j - i)) := by
  subst hn
  have := RdC.sub r h1 h2
  have hl : ((l.drop i).take (j - i)).length = j - i := by simp; omega
  unfold RdB
  rw [hl]
  simpa [List.map_take, List.map_drop] using this
section
variable {P : Program} {ρ : Operand → Value} {K : Value → World → Prop} {w : World}
variable {d : Option Nat} {ty : TypeId} {pos : String} {after : Array Edge} {g : Option (Nat × Bool)}
variable {σ : Sig} {L L' R : List Asrt}
theorem x_slice {t e sz by_ : Nat} {z : Value} {x lo hi : Operand} {a : Option Addr} {n c : Nat} {k k' : IntKind} {l m : Int} (ht : SlT P t e sz by_ z)
    (hx : ρ x = .slice a n c) (hl : ρ lo = .int k l) (hm : ρ hi = .int k' m) (h0 : 0 ≤ l) (h1 : l ≤ m) (h2 : m ≤ c) (w : World) :
    (execOp ρ ⟨d, .slice t x (some lo) (some hi) none, ty, pos, after, g⟩).run P w = .ok (.value (.slice (subA a c l.toNat sz) (m.toNat - l.toNat) (c - l.toNat))) w := by
  obtain ⟨inf, h3, h4, _, _⟩ := ht.info
  obtain ⟨m', rfl⟩ := Int.eq_ofNat_of_zero_le (show 0 ≤ m by omega)
  simp [execOp, Instr.sliceAt, Instr.slice, Instr.sliceBounds, go_sem, hx, hl, hm, run_underlying ht.und, run_sliceBound, Go.sizeOf, typeInfo, h3, h4, h0, h1, h2, subA]
theorem x_slice_lo {t e sz by_ : Nat} {z : Value} {x lo : Operand} {a : Option Addr} {n c : Nat} {k : IntKind} {l : Int} (ht : SlT P t e sz by_ z)
    (hx : ρ x = .slice a n c) (hl : ρ lo = .int k l) (h0 : 0 ≤ l) (h1 : l ≤ n) (w : World) :
    (execOp ρ ⟨d, .slice t x (some lo) none none, ty, pos, after, g⟩).run P w = .ok (.value (.slice (subA a c l.toNat sz) (n - l.toNat) (c - l.toNat))) w := by
  obtain ⟨inf, h3, h4, _, _⟩ := ht.info
  simp [execOp, Instr.sliceAt, Instr.slice, Instr.sliceBounds, go_sem, hx, hl, run_underlying ht.und, run_sliceBound, Go.sizeOf, typeInfo, h3, h4, h0, h1, subA]
theorem x_slice_hi {t e sz by_ : Nat} {z : Value} {x hi : Operand} {a : Option Addr} {n c : Nat} {k : IntKind} {m : Int} (ht : SlT P t e sz by_ z)
    (hx : ρ x = .slice a n c) (hm : ρ hi = .int k m) (h1 : 0 ≤ m) (h2 : m ≤ c) (w : World) :
    (execOp ρ ⟨d, .slice t x none (some hi) none, ty, pos, after, g⟩).run P w = .ok (.value (.slice a m.toNat c)) w := by
  obtain ⟨inf, h3, h4, _, _⟩ := ht.info
  simp [execOp, Instr.sliceAt, Instr.slice, Instr.sliceBounds, go_sem, hx, hm, run_underlying ht.und, run_sliceBound, Go.sizeOf, typeInfo, h3, h4, h1, h2, Addr.add]
theorem oneCell_of_bytes (l : List UInt8) : ∀ v ∈ l.map u8v, v.oneCell' = true := by
  intro v hv
  obtain ⟨x, _, rfl⟩ := List.mem_map.1 hv
  rfl
theorem y_copy {t u e by_ sn dn dc : Nat} {z : Value} {x y : Operand} {p : Addr} {b o T : Nat} {vs xs : List Value} {sv : Value} (hs : St σ w L) (ht : SlT P t e 1 by_ z)
    (hx : ρ x = .slice (some p) dn dc) (hy : ρ y = sv) (hpd : dn ≠ 0 → p = ⟨b, o, none⟩) (hr : RdC (hp w) sv 1 sn xs) (h1 : ∀ v ∈ xs, v.oneCell' = true)
    (up : Up (cb b T vs) (cb b T (vs.take o ++ xs.take (min sn dn) ++ vs.drop (o + min sn dn))) L L') (hfit : o + dn ≤ vs.length)
    (h : ∀ w', St σ w' L' → K (.int .i64 (min sn dn : Nat)) w') :
    Does P ρ ⟨d, .call ⟨.builtin .copy, #[x, y], #[t, u]⟩, ty, pos, after, g⟩ w K := by
  obtain ⟨inf, h4, h5, _, _⟩ := ht.info
  have hsz : (P.info? e).map (·.size) = some 1 := by simp [h4, h5]
  have hxl : xs.length = sn := by simpa using hr.1
  by_cases hn : min sn dn = 0
  · have hsame : vs.take o ++ xs.take (min sn dn) ++ vs.drop (o + min sn dn) = vs := by simp [hn]
    rw [hsame] at up
    refine .value (v := .int .i64 (min sn dn : Nat)) (w' := w) ?_ (h _ (hs.up up fun _ h => h))
    have hrun : ∀ a' c', sv = .slice a' sn c' → (Builtin.copy_ #[t, u] ty #[.slice (some p) dn dc, sv]).run P w = .ok (goInt 0) w := by
      intro a' c' e'
      subst e'
      exact run_copy_none w t u ty e (some p) a' dn dc sn c' ht.und hsz (by simpa [Nat.min_def] using hn)
    have hrun' : (Builtin.copy_ #[t, u] ty #[.slice (some p) dn dc, sv]).run P w = .ok (goInt 0) w := by
      rcases hr.2 with ⟨c', e', hz⟩ | ⟨a', c', e', _, _⟩
      · subst hz; exact hrun _ _ e'
      · exact hrun _ _ e'
    simp only [execOp, resolve, invoke, builtin, Sem.run_bind, Sem.run_pure, Result.andThen_ok, List.map_toArray, List.map_cons, List.map_nil, hx, hy, hrun', hn, goInt]
    rfl
  · have hdn : dn ≠ 0 := by omega
    have hp' := hpd hdn
    subst hp'
    obtain ⟨R, t1, t2⟩ := up.takes
    have hb := hs.blk_at t1
    rcases hr.2 with ⟨c', e', hz⟩ | ⟨a', c', e', _, hc⟩
    · omega
    · subst e'
      have hl : (xs.take (min sn dn)).length = Nat.min sn dn := by rw [List.length_take, hxl, Nat.min_eq_left (Nat.min_le_left _ _)]
      have hrun := run_copy_row (P := P) w t u ty e b o dn dc a' sn c' vs.toArray T (xs.take (min sn dn)) ht.und hsz hb hl
        (fun j v hv => hc j v (by rw [List.getElem?_take] at hv; split at hv <;> simp_all)) (by rw [hl]; simp; have := Nat.min_le_right sn dn; simp only [Nat.min_def] at *; omega)
        (fun v hv => h1 v (List.mem_of_mem_take hv))
      have hl' : (xs.take (min sn dn)).length = min sn dn := hl
      rw [hl'] at hrun
      refine .value (v := .int .i64 (min sn dn : Nat)) (w' := w.setRow b (vs.take o ++ xs.take (min sn dn) ++ vs.drop (o + min sn dn)).toArray) ?_ (h _ ?_)
      · simp only [execOp, resolve, invoke, builtin, Sem.run_bind, Sem.run_pure, Result.andThen_ok, List.map_toArray, List.map_cons, List.map_nil, hx, hy, hrun, goInt]
      · exact hs.wrote_at up (setRow_wrote hb)
theorem maxLen_eq : maxLen = 9223372036854775807 := rfl
theorem y_append {t e sz by_ n m : Nat} {z : Value} {x y : Operand} {v sv : Value} {xs ys : List Value} (hs : St σ w L) (ht : SlT P t e sz by_ z)
    (hx : ρ x = v) (hy : ρ y = sv) (tk : Take (sl e sz v n xs) L R) (hr : RdC (hp w) sv sz m ys) (h1 : ∀ v ∈ ys, v.oneCell' = true)
    (hb : (n + m) * by_ ≤ 140737488355328) (h63 : n + m ≤ maxLen)
    (h : ∀ v' w', St σ w' (sl e sz v' (n + m) (xs ++ ys) :: R) → (v' = .slice none 0 0 ↔ v = .slice none 0 0 ∧ m = 0) → K v' w') :
    Does P ρ ⟨d, .call ⟨.builtin .append, #[x, y], #[t, t]⟩, ty, pos, after, g⟩ w K := by
  obtain ⟨inf, h4, h5, h6, h7⟩ := ht.info
  have hs' := hs.take tk
  obtain ⟨hp1, hxs, hcase⟩ : True ∧ xs.length = n * sz ∧ ((v = .slice none 0 0 ∧ n = 0) ∨
      ∃ b cap cur, v = .slice (some ⟨b, 0, none⟩) n cap ∧ n ≤ cap ∧ cap ≤ maxLen ∧ cur.length = cap * sz ∧ cur.take (n * sz) = xs ∧ St σ w (cb b e cur :: R)) := by
    obtain ⟨hh, hhp, A0, r0, d0, la, lr, ha, hr0⟩ := hs'.has
    refine ⟨trivial, ha.1, ?_⟩
    rcases ha.2 with x | ⟨b, cap, cur, e1, e2, e3, e4, e5, e6⟩
    · exact .inl x
    · exact .inr ⟨b, cap, cur, e1, e2, e3, e4, e5, hs'.kept, hh, hhp, A0, r0, d0, la, lr, e6, hr0⟩
  have hlen : (xs ++ ys).length = (n + m) * sz := by rw [List.length_append, hxs, hr.1, Nat.add_mul]
  -- the new block
  have grown : ∀ (old : Nat), old < n + m → St σ (w.drew.alloc (.cells (xs.toArray ++ ys.toArray ++ Builtin.zeroCells z.cells (grownCap w (n + m) old e - (n + m))) e))
      (sl e sz (.slice (some ⟨w.heap.size, 0, none⟩) (n + m) (grownCap w (n + m) old e)) (n + m) (xs ++ ys) :: R) := by
    intro old ho
    have hge := grownCap_ge w (n + m) old e
    have hcm : grownCap w (n + m) old e ≤ maxLen := grownCap_le_maxLen w (n + m) old e h63
    have hd : St σ w.drew R := hs'.drop.same rfl rfl rfl rfl
    have := hd.alloc (.cells (xs.toArray ++ ys.toArray ++ Builtin.zeroCells z.cells (grownCap w (n + m) old e - (n + m))) e)
    refine this.imp fun hh hb => ?_
    refine ⟨hlen, .inr ⟨w.heap.size, _, (xs ++ ys ++ (Builtin.zeroCells z.cells (grownCap w (n + m) old e - (n + m))).toList), rfl, hge, hcm, ?_, ?_, ?_⟩⟩
    · rw [List.length_append, hlen, Array.length_toList, size_zeroCells, ht.zs, ← Nat.add_mul]
      congr 1
      omega
    · rw [← hlen]
      exact List.take_left
    · have e' : (xs ++ ys ++ (Builtin.zeroCells z.cells (grownCap w (n + m) old e - (n + m))).toList).toArray = xs.toArray ++ ys.toArray ++ Builtin.zeroCells z.cells (grownCap w (n + m) old e - (n + m)) := by simp
      show hh w.heap.size = _
      rw [e']
      exact hb
  have fin : ∀ v' w', (Builtin.append_ #[t, t] ty #[v, sv]).run P w = .ok v' w' → K v' w' → Does P ρ ⟨d, .call ⟨.builtin .append, #[x, y], #[t, t]⟩, ty, pos, after, g⟩ w K := by
    intro v' w' hrun hk
    refine .value (v := v') (w' := w') ?_ hk
    simp only [execOp, resolve, invoke, builtin, Sem.run_bind, Sem.run_pure, Result.andThen_ok, List.map_toArray, List.map_cons, List.map_nil, hx, hy, hrun]
  rcases hcase with ⟨rfl, rfl⟩ | ⟨b, cap, cur, rfl, hnc, hcm, hcl, htk, hsb⟩
  · have hx0 : xs = [] := List.eq_nil_of_length_eq_zero (by simpa using hxs)
    subst hx0
    by_cases hm : m = 0
    · subst hm
      have hy0 : ys = [] := List.eq_nil_of_length_eq_zero (by simpa using hr.1)
      subst hy0
      refine fin (.slice none 0 0) w ?_ (h _ _ (by simpa using hs') (by simp))
      rcases hr.2 with ⟨c', e', _⟩ | ⟨a', c', e', _, _⟩ <;> subst e' <;>
        simp [Builtin.append_, run_underlying ht.und, Go.sizeOf, typeInfo, h4, Builtin.lenOf, Builtin.firstCells, loadCells, loadCellsFrom]
    · rcases hr.2 with ⟨c', e', hz⟩ | ⟨a', c', e', _, hc⟩
      · exact absurd hz hm
      · subst e'
        have hrun := run_append_nil (P := P) w t ty e inf z ht.und h4 h7 a' m c' ys (by rw [h5]; exact hr.1) hc (by omega) (by rw [maxLen_eq] at h63; omega) (by rw [h6]; simp only [Nat.zero_add] at hb; omega)
        have hgr := grown 0 (by omega)
        simp only [Nat.zero_add, List.nil_append, Array.empty_append] at hgr hrun h ⊢
        refine fin _ _ hrun (h _ _ hgr (by simp [hm]))
  · by_cases hroom : n + m ≤ cap
    · have hfit : n * sz + ys.length ≤ cur.toArray.size := by rw [hr.1, List.size_toArray, hcl, ← Nat.add_mul]; exact Nat.mul_le_mul_right _ hroom
      have hbk : w.heap[b]? = some (.cells cur.toArray e (0, 0)) := hsb.head
      have key : ∀ w', (Builtin.append_ #[t, t] ty #[.slice (some ⟨b, 0, none⟩) n cap, sv]).run P w = .ok (.slice (some ⟨b, 0, none⟩) (n + m) cap) w' →
          Wrote w w' b (.cells (cur.take (n * sz) ++ ys ++ cur.drop (n * sz + ys.length)).toArray e (0, 0)) →
          Does P ρ ⟨d, .call ⟨.builtin .append, #[x, y], #[t, t]⟩, ty, pos, after, g⟩ w K := by
        intro w' hrun hw
        refine fin _ _ hrun (h _ _ ?_ (by simp))
        refine (hsb.wrote hw).imp fun hh hb' => ⟨hlen, .inr ⟨b, cap, _, rfl, hroom, hcm, ?_, ?_, hb'⟩⟩
        · simp only [List.size_toArray] at hfit
          rw [List.length_append, List.length_append, List.length_take, List.length_drop, Nat.min_eq_left (by omega)]
          omega
        · rw [htk, ← hlen]
          exact List.take_left
      rcases hr.2 with ⟨c', e', hz⟩ | ⟨a', c', e', _, hc⟩
      · subst e' hz
        have hy0 : ys = [] := List.eq_nil_of_length_eq_zero (by simpa using hr.1)
        subst hy0
        refine key w ?_ ⟨rfl, rfl, rfl, rfl, by simpa using hbk, fun _ _ => rfl⟩
        simp [Builtin.append_, run_underlying ht.und, Go.sizeOf, typeInfo, h4, Builtin.lenOf, Builtin.firstCells, hnc, storeCells]
      · subst e'
        have hrun := run_append_room (P := P) w t ty e inf ht.und h4 b n cap cur.toArray hbk a' m c' ys (by rw [h5]; exact hr.1) hc h1 hroom (by rw [h5]; exact hfit)
        rw [h5] at hrun
        exact key _ hrun (setRow_wrote hbk)
    · rcases hr.2 with ⟨c', e', hz⟩ | ⟨a', c', e', _, hc⟩
      · omega
      · subst e'
        have holds : ∀ j u, xs[j]? = some u → w.cell? ((⟨b, 0, none⟩ : Addr).add j) = some u := by
          intro j u hu
          have hadd : (⟨b, 0, none⟩ : Addr).add j = ⟨b, j, none⟩ := by unfold Addr.add; split <;> simp_all
          rw [hadd]
          refine hsb.cell (.here _) ?_
          rw [← htk, List.getElem?_take] at hu
          split at hu
          · exact hu
          · cases hu
        have hrun := run_append_grow (P := P) w t ty e inf z ht.und h4 h7 ⟨b, 0, none⟩ n cap xs (by rw [h5]; exact hxs) holds a' m c' ys (by rw [h5]; exact hr.1) hc (by omega) (by rw [maxLen_eq] at h63; omega)
          (by rw [h6]; exact growslice_fits (by omega) hb)
        exact fin _ _ hrun (h _ _ (grown cap (by omega)) (by simp))
end
end Vw
