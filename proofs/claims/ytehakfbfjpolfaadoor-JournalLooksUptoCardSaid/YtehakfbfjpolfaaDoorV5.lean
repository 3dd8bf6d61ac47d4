/- The small proof library: reading and writing memory. -/
import Derived.Test.YtehakfbfjpolfaaDoorV4
import Derived.Laws.AppendOwn
import Derived.Laws.MakeOwn
import Derived.Laws.IdiomCopy
set_option linter.all false
namespace Vw
open Go

def u8v (x : UInt8) : Value := .int .u8 x.toNat

/-- A cell of a heaplet. -/
def cellH (h : Heaplet) (a : Addr) : Option Value :=
  match h a.block with
  | some (.cells c _ _) => if a.spot.isSome then none else c[a.off]?
  | _ => none

def hp (w : World) : Heaplet := fun k => w.heap[k]?
theorem cell_hp (w : World) (a : Addr) : w.cell? a = cellH (hp w) a := rfl

theorem cellH_mono {h h' : Heaplet} (l : hle h h') {a : Addr} {v : Value} (e : cellH h a = some v) : cellH h' a = some v := by
  unfold cellH at *
  cases hb : h a.block with
  | none => rw [hb] at e; cases e
  | some o => rw [l _ _ hb]; rw [hb] at e; exact e

/-- A slice of n elements, each of sz cells, that reads as these cells. -/
def RdC (h : Heaplet) (v : Value) (sz n : Nat) (xs : List Value) : Prop :=
  xs.length = n * sz ∧ ((∃ c, v = .slice none 0 c ∧ n = 0) ∨ ∃ a c, v = .slice (some a) n c ∧ n ≤ c ∧ ∀ j u, xs[j]? = some u → cellH h (a.add j) = some u)

theorem RdC.mono {h h' : Heaplet} (l : hle h h') {v : Value} {sz n : Nat} {xs : List Value} (r : RdC h v sz n xs) : RdC h' v sz n xs := by
  refine ⟨r.1, ?_⟩
  rcases r.2 with x | ⟨a, c, e, hn, hc⟩
  · exact .inl x
  · exact .inr ⟨a, c, e, hn, fun j u hu => cellH_mono l (hc j u hu)⟩

/-- A slice that reads as these bytes. -/
def RdB (h : Heaplet) (v : Value) (l : List UInt8) : Prop := RdC h v 1 l.length (l.map u8v)

theorem hp_alloc (w : World) (o : Obj) : hle (hp w) (hp (w.alloc o)) := fun k u e => by
  have hlt : k < w.heap.size := (Array.getElem?_eq_some_iff.1 e).1
  exact (heap_alloc_old w o k hlt).trans e

theorem Kept.hle {w w' : World} (h : Kept w w' None_) : hle (hp w) (hp w') := fun k u e => by
  have hlt : k < w.heap.size := (Array.getElem?_eq_some_iff.1 e).1
  exact (h.block k hlt (fun x => x)).trans e

/-- The cells of a block, none of them frozen. -/
abbrev cb (b : Nat) (T : TypeId) (vs : List Value) : Asrt := blk b (.cells vs.toArray T (0, 0))

section
variable {σ : Sig} {w w' : World} {L L' R : List Asrt} {A B : Asrt} {b T k : Nat} {vs : List Value} {v : Value}

theorem St.blk_at {o : Obj} (hs : St σ w L) (t : Take (blk b o) L R) : w.heap[b]? = some o := (hs.take t).head

theorem St.cell (hs : St σ w L) (t : Take (cb b T vs) L R) (hv : vs[k]? = some v) : w.cell? ⟨b, k, none⟩ = some v := by
  rw [cell_of_row w b k _ T (0, 0) (hs.blk_at t)]
  simpa using hv

theorem St.up (hs : St σ w L) (u : Up A B L L') (hi : ∀ h, A h → B h) : St σ w L' := by
  obtain ⟨R, t1, t2⟩ := u.takes
  exact ((hs.take t1).imp hi).give t2

theorem St.wrote_at {o o' : Obj} (hs : St σ w L) (u : Up (blk b o) (blk b o') L L') (hw : Wrote w w' b o') : St σ w' L' := by
  obtain ⟨R, t1, t2⟩ := u.takes
  exact ((hs.take t1).wrote hw).give t2

theorem setCell_wrote {arr : Array Value} (hb : w.heap[b]? = some (.cells arr T (0, 0))) (v : Value) : Wrote w (w.setCell ⟨b, k, none⟩ v) b (.cells (arr.setIfInBounds k v) T (0, 0)) := by
  refine ⟨rfl, rfl, rfl, by simp [World.setCell], ?_, fun j hj => RowKit.Below.heap_setCell w ⟨b, k, none⟩ v j hj⟩
  have hlt : b < w.heap.size := (Array.getElem?_eq_some_iff.1 hb).1
  simp [World.setCell, Array.getElem?_modify, hb]

theorem setRow_wrote {arr arr' : Array Value} (hb : w.heap[b]? = some (.cells arr T (0, 0))) : Wrote w (w.setRow b arr') b (.cells arr' T (0, 0)) :=
  ⟨rfl, rfl, rfl, by simp, setRow_heap w b arr arr' T (0, 0) hb, fun j hj => setRow_other w b j _ hj⟩

/-- An owned slice of n elements with room behind it, or nil: its cells; nothing else is in its block. -/
def sl (T sz : Nat) (v : Value) (n : Nat) (xs : List Value) : Asrt := fun h =>
  xs.length = n * sz ∧ ((v = .slice none 0 0 ∧ n = 0) ∨
    ∃ b cap cur, v = .slice (some ⟨b, 0, none⟩) n cap ∧ n ≤ cap ∧ cap ≤ maxLen ∧ cur.length = cap * sz ∧ cur.take (n * sz) = xs ∧ cb b T cur h)

theorem sl_rd {T sz : Nat} {v : Value} {n : Nat} {xs : List Value} {h : Heaplet} (hh : sl T sz v n xs h) : RdC h v sz n xs := by
  refine ⟨hh.1, ?_⟩
  rcases hh.2 with ⟨e, hn⟩ | ⟨b, cap, cur, e, hnc, _, _, ht, hb⟩
  · exact .inl ⟨0, by rw [e], hn⟩
  · refine .inr ⟨_, cap, e, hnc, fun j u hu => ?_⟩
    have hadd : (⟨b, 0, none⟩ : Addr).add j = ⟨b, j, none⟩ := by unfold Addr.add; split <;> simp_all
    rw [hadd]
    have hb' : h b = some (.cells cur.toArray T (0, 0)) := hb
    simp only [cellH, hb']
    rw [← ht, List.getElem?_take] at hu
    split at hu
    · simpa using hu
    · cases hu

theorem St.rd {sz n : Nat} {xs : List Value} (hs : St σ w L) (t : Take A L R) (hi : ∀ h, A h → RdC h v sz n xs) : RdC (hp w) v sz n xs :=
  (hs.take t).see fun h hl ha => (hi h ha).mono hl

theorem St.rdB {l : List UInt8} (hs : St σ w L) (t : Take A L R) (hi : ∀ h, A h → RdB h v l) : RdB (hp w) v l := hs.rd t hi

/-- What was there when the call began, and may not be changed, reads as it did. -/
theorem St.old {sz n : Nat} {xs : List Value} (hs : St ⟨w', None_⟩ w L) (h : RdC (hp w') v sz n xs) : RdC (hp w) v sz n xs := h.mono hs.kept.hle
theorem St.oldB {l : List UInt8} (hs : St ⟨w', None_⟩ w L) (h : RdB (hp w') v l) : RdB (hp w) v l := hs.old h
end

/-! ### Facts on types -/

/-- A slice type: its element's type, cells, bytes, zero value. -/
structure SlT (P : Program) (t e sz by_ : Nat) (z : Value) : Prop where
  und : P.underlying t = some (.slice e)
  pos : 0 < sz
  zs : z.cells.size = sz
  info : ∃ i, P.info? e = some i ∧ i.size = sz ∧ i.bytes = by_ ∧ i.zero = some z

/-- A type of one cell. -/
structure ScT (P : Program) (t : Nat) : Prop where
  agg : ∀ w, (isAgg t).run P w = .ok false w
  size : ∀ w, (Go.sizeOf t).run P w = .ok 1 w

/-- A type of n cells, a struct or an array. -/
structure AgT (P : Program) (t n : Nat) : Prop where
  agg : ∀ w, (isAgg t).run P w = .ok true w
  size : ∀ w, (Go.sizeOf t).run P w = .ok n w

/-- Where in a struct of type s field f begins. -/
structure FoT (P : Program) (s f off : Nat) : Prop where
  fits : ∃ fs fld k, P.underlying s = some (.struct fs) ∧ fs[f]? = some fld ∧ fld.offset = off ∧ ∀ w, (Go.sizeOf fld.type).run P w = .ok (k + 1) w

section
variable {P : Program} {ρ : Operand → Value}
variable {d : Option Nat} {ty : TypeId} {pos : String} {after : Array Edge} {g : Option (Nat × Bool)}

theorem x_fieldAddr {s f off : Nat} {x : Operand} {b o : Nat} (hf : FoT P s f off) (hx : ρ x = .pointer (some ⟨b, o, none⟩)) (w : World) :
    (execOp ρ ⟨d, .fieldAddr s x f, ty, pos, after, g⟩).run P w = .ok (.value (.pointer (some ⟨b, o + off, none⟩))) w := by
  obtain ⟨fs, fld, k, h1, h2, h3, h4⟩ := hf.fits
  have hadd : (⟨b, o, none⟩ : Addr).add fld.offset = ⟨b, o + off, none⟩ := by rw [h3]; unfold Addr.add; split <;> simp_all
  simp [execOp, Instr.fieldAt, Instr.sureAddr, fieldPlace, go_sem, hx, run_underlying h1, h2, h4, hadd, h3]

theorem x_load {t : Nat} {x : Operand} {p : Addr} {v : Value} {w : World} (ht : ScT P t) (hx : ρ x = .pointer (some p)) (hc : w.cell? p = some v) :
    (execOp ρ ⟨d, .load t x, ty, pos, after, g⟩).run P w = .ok (.value v) w := by
  simp [execOp, Instr.loadAt, Instr.sureAddr, loadVar, go_sem, hx, ht.agg, hc]

theorem x_loadAgg {t n : Nat} {x : Operand} {p : Addr} {vs : List Value} {w : World} (ht : AgT P t n) (hx : ρ x = .pointer (some p)) (hn : vs.length = n)
    (hc : ∀ j v, vs[j]? = some v → w.cell? (p.add j) = some v) :
    (execOp ρ ⟨d, .load t x, ty, pos, after, g⟩).run P w = .ok (.value (.agg vs.toArray)) w := by
  have hl := run_loadCells_list (P := P) w p vs hc
  rw [hn] at hl
  unfold loadCells at hl
  simp [execOp, Instr.loadAt, Instr.sureAddr, loadVar, go_sem, hx, ht.agg, ht.size, hl]

theorem x_store {t : Nat} {x y : Operand} {p : Addr} {u v : Value} {w : World} (ht : ScT P t) (hx : ρ x = .pointer (some p)) (hy : ρ y = v) (h1 : v.oneCell' = true)
    (hc : w.cell? p = some u) (hz : w.frozen? p = false) :
    (execOp ρ ⟨d, .store t x y, ty, pos, after, g⟩).run P w = .ok .skip (w.setCell p v) := by
  have hcells : v.cells = #[v] := by cases v <;> simp_all [Value.oneCell', Value.cells]
  have hst := run_store P w p v .plain h1
  simp only [hc, hz] at hst
  have h2 : (storeVar t p v).run P w = .ok () (w.setCell p v) := by
    unfold storeVar
    rw [hcells]
    simp [storeCells, go_sem, ht.size, Addr.add]
    simpa using hst
  have h3 : Instr.storeAt t (.pointer (some p)) v = storeVar t p v := rfl
  simp only [execOp, hx, hy, h3, Sem.run_bind, h2, Result.andThen_ok, Sem.run_pure]

theorem x_indexAddr {t e sz by_ : Nat} {z : Value} {x y : Operand} {a : Addr} {n c : Nat} {k : IntKind} {i : Int} (ht : SlT P t e sz by_ z)
    (hx : ρ x = .slice (some a) n c) (hy : ρ y = .int k i) (h0 : 0 ≤ i) (h1 : i < n) (w : World) :
    (execOp ρ ⟨d, .indexAddr t x y, ty, pos, after, g⟩).run P w = .ok (.value (.pointer (some (a.add (i.toNat * sz))))) w := by
  obtain ⟨inf, h2, h3, _, _⟩ := ht.info
  simp [execOp, Instr.indexAt, asIntOf, go_sem, hx, hy, run_underlying ht.und, Go.sizeOf, typeInfo, h2, h3, h0, h1]
end
end Vw
