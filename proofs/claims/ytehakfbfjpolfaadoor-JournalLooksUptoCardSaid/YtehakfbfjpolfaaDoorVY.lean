/- The small proof library: bytes made of a string; what is only read. -/
import Derived.Test.YtehakfbfjpolfaaDoorVX
import Derived.Lib.ConvBytes
set_option linter.all false
namespace Vw
open Go
/-- Memory of one's own in which the slice reads as these bytes. -/
def rdA (v : Value) (l : List UInt8) : Asrt := fun h => RdB h v l
section
variable {P : Program} {ρ : Operand → Value} {K : Value → World → Prop} {w : World}
variable {d : Option Nat} {ty : TypeId} {pos : String} {after : Array Edge} {g : Option (Nat × Bool)}
variable {σ : Sig} {L L' R : List Asrt}
theorem y_strBytes {s t e : TypeId} {u : TypeDesc} {x : Operand} {l : List UInt8} (hs : St σ w L) (h1 : P.underlying s = some u) (h2 : P.underlying t = some (.slice e)) (h3 : P.underlying e = some (.int .u8)) (hx : ρ x = .string ⟨l.toArray⟩)
    (h : ∀ v w', St σ w' (rdA v l :: L) → (∃ a c, v = .slice a l.length c) → K v w') :
    Does P ρ ⟨d, .convert s t x, ty, pos, after, g⟩ w K := by
  have hrun := Go.Lib.run_convert_string_bytes (P := P) w s t e ⟨l.toArray⟩ h1 h2 h3
  have hsz : (⟨l.toArray⟩ : ByteArray).size = l.length := rfl
  rw [hsz] at hrun
  refine .value (v := .slice (some ⟨w.heap.size, 0, none⟩) l.length (grownCap w l.length 0 e)) (w' := Go.Lib.bytesWorld w e ⟨l.toArray⟩) ?_ (h _ _ ?_ ⟨_, _, rfl⟩)
  · simp only [execOp, hx, Sem.run_bind, hrun, Result.andThen_ok, Sem.run_pure]
  · have hd : St σ w.drew L := hs.same rfl rfl rfl rfl
    have h9 := hd.alloc (.cells (Go.Lib.bytesCells w e ⟨l.toArray⟩) e)
    have hw : Wrote (w.drew.alloc (.cells (Go.Lib.bytesCells w e ⟨l.toArray⟩) e)) (Go.Lib.bytesWorld w e ⟨l.toArray⟩) w.heap.size (.cells (Go.Lib.bytesCells w e ⟨l.toArray⟩) e ((Go.Lib.bytesCells w e ⟨l.toArray⟩).size, (Go.Lib.bytesCells w e ⟨l.toArray⟩).size + 1)) := by
      refine ⟨rfl, rfl, rfl, ?_, Go.Lib.bytesWorld_at_new w e _, fun k hk => ?_⟩
      · rw [Go.Lib.bytesWorld_size]
        simp [World.alloc, World.drew, -World.alloc_eq, -World.drew_eq]
      · have hk' : w.heap.size ≠ k := fun e9 => hk e9.symm
        simp [Go.Lib.bytesWorld, World.freeze, World.alloc, World.drew, -World.alloc_eq, -World.drew_eq, Array.getElem?_modify, hk']
    have h10 := St.wrote h9 hw
    refine h10.imp fun hh hb => ?_
    have hge : l.length ≤ grownCap w l.length 0 e := grownCap_ge w l.length 0 e
    refine ⟨by simp, .inr ⟨_, _, rfl, hge, fun j u9 hu => ?_⟩⟩
    have hb' : hh w.heap.size = some (.cells (Go.Lib.bytesCells w e ⟨l.toArray⟩) e ((Go.Lib.bytesCells w e ⟨l.toArray⟩).size, (Go.Lib.bytesCells w e ⟨l.toArray⟩).size + 1)) := hb
    have hadd : (⟨w.heap.size, 0, none⟩ : Addr).add j = ⟨w.heap.size, j, none⟩ := by unfold Addr.add; split <;> simp_all
    rw [hadd]
    simp only [cellH, hb']
    have hj : j < l.length := by have := (List.getElem?_eq_some_iff.1 hu).1; simpa using this
    rw [List.getElem?_map, List.getElem?_eq_getElem hj] at hu
    injection hu with hu
    unfold Go.Lib.bytesCells
    rw [Array.getElem?_append_left (by simpa using hj)]
    simp [hj, ← hu, u8v]
end
/-- The texts of a list, only to be read. -/
def datR : List Pt → Asrt
  | [] => fun _ => True
  | p :: r => star (rdA p.2.1 p.2.2) (datR r)
theorem datR_rd : ∀ (ps : List Pt) (h : Heaplet), datR ps h → ∀ p ∈ ps, RdB h p.2.1 p.2.2
  | [], _, _, p, hp => absurd hp (by simp)
  | q :: ps, h, hh, p, hp => by
    obtain ⟨h1, h2, _, l1, l2, a1, a2⟩ := hh
    rcases List.mem_cons.1 hp with rfl | hp
    · exact RdC.mono l1 a1
    · exact RdC.mono l2 (datR_rd ps h2 a2 p hp)
theorem St.datR {σ : Sig} {w : World} {L R : List Asrt} {ps : List Pt} (hs : St σ w L) (tk : Take (datR ps) L R) {i : Nat} (hi : i < ps.length) : RdB (hp w) ps[i].2.1 ps[i].2.2 := by
  refine (hs.take tk).see fun h hh hA => ?_
  exact RdC.mono (fun k o e => hh k o e) (datR_rd ps h hA _ (List.getElem_mem hi))
theorem datR_push {σ : Sig} {w : World} {p : Pt} : ∀ {ps : List Pt} {R : List Asrt}, St σ w (Vw.datR ps :: rdA p.2.1 p.2.2 :: R) → St σ w (Vw.datR (ps ++ [p]) :: R)
  | [], R, hs => by
    have h1 : St σ w (rdA p.2.1 p.2.2 :: R) := hs.drop
    exact ((h1.emp (A := fun _ => True) (fun _ => trivial)).take (.there _ (.here _))).unstar
  | q :: ps, R, hs => by
    have h1 := hs.star
    have h2 : St σ w (Vw.datR ps :: rdA p.2.1 p.2.2 :: rdA q.2.1 q.2.2 :: R) := (h1.take (.there _ (.there _ (.here _)))) |>.take (.there _ (.there _ (.here _)))
    have h3 := datR_push h2
    exact (h3.take (.there _ (.here _))).unstar
/-- One more text of a cursor. -/
theorem tx_step {rest : List UInt8} {tat t n : Nat} {tb : Int} (h1 : tb = 0 → tat = t) (h2 : tb ≠ 0 → rest.length < t) (h3 : tat ≤ rest.length) :
    ((nextC rest.length tat tb n).2.1 = 0 → (nextC rest.length tat tb n).1 = t + n ∧ (rest.drop tat).take (nextC rest.length tat tb n).2.2 = (rest.drop t).take n ∧ tb = 0) ∧
    ((nextC rest.length tat tb n).2.1 ≠ 0 → rest.length < t + n) ∧ (nextC rest.length tat tb n).1 ≤ rest.length := by
  unfold nextC
  by_cases hb : tb = 0
  · have e := h1 hb
    subst hb e
    rw [if_neg (by simp), if_neg (by omega)]
    by_cases hl : (rest.length : Int) - tat < n
    · rw [if_pos hl]
      exact ⟨(fun h => by cases h), (fun _ => by omega), h3⟩
    · rw [if_neg hl]
      refine ⟨fun _ => ⟨by simp, by simp, rfl⟩, fun h => absurd rfl h, by simp only [Int.toNat_natCast]; omega⟩
  · rw [if_pos hb]
    exact ⟨fun h => absurd h hb, fun _ => by have := h2 hb; omega, h3⟩
end Vw
