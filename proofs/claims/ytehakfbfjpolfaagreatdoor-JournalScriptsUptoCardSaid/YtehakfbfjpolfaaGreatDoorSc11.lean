/- Texts 11 of 16 that the law rests on: the small library, contracts of functions, printed by a program. -/
import Derived.Lib.ConvBytes
import Derived.Test.YtehakfbfjpolfaaGreatDoorSc1
import Derived.Test.YtehakfbfjpolfaaGreatDoorSc2
import Derived.Test.YtehakfbfjpolfaaGreatDoorSc3
import Derived.Test.YtehakfbfjpolfaaGreatDoorSc4
import Derived.Test.YtehakfbfjpolfaaGreatDoorSc5
import Derived.Test.YtehakfbfjpolfaaGreatDoorSc6
import Derived.Test.YtehakfbfjpolfaaGreatDoorSc7
import Derived.Test.YtehakfbfjpolfaaGreatDoorSc8
import Derived.Test.YtehakfbfjpolfaaGreatDoorSc9
import Derived.Test.YtehakfbfjpolfaaGreatDoorSc10
set_option maxRecDepth 100000
set_option linter.all false
namespace Vw
open Go
def rdA (v : Value) (l : List UInt8) : Asrt := fun h => RdB h v l
section
variable {P : Program} {ρ : Operand → Value} {K : Value → World → Prop} {w : World}
variable {d : Option Nat} {ty : TypeId} {pos : String} {after : Array Edge} {g : Option (Nat × Bool)}
variable {σ : Sig} {L L' R : List Asrt}
theorem y_strBytes {s t e : TypeId} {u : TypeDesc} {x : Operand} {l : List UInt8} (hs : St σ w L) (h1 : P.underlying s = some u) (h2 : P.underlying t = some (.slice e)) (h3 : P.underlying e = some (.int .u8)) (hx : ρ x = .string ⟨l.toArray⟩)
    (h : ∀ v w', St σ w' (rdA v l :: L) → (∃ a c, v = .slice a l.length c) → K v w') :
    Does P ρ ⟨d, .convert s t x, ty, pos, after, g⟩ w K := by
  have hrun := Go.Lib.run_convert_string_bytes (P := P) w s t e ⟨l.toArray⟩ h1 h2 h3
  have hsz : (⟨l.toArray⟩ : ByteArray).size = l.length := rfl
  rw [hsz] at hrun
  refine .value (v := .slice (some ⟨w.heap.size, 0, none⟩) l.length (grownCap w l.length 0 e)) (w' := Go.Lib.bytesWorld w e ⟨l.toArray⟩) ?_ (h _ _ ?_ ⟨_, _, rfl⟩)
  · simp only [execOp, hx, Sem.run_bind, hrun, Result.andThen_ok, Sem.run_pure]
  · have hd : St σ w.drew L := hs.same rfl rfl rfl rfl
    have h9 := hd.alloc (.cells (Go.Lib.bytesCells w e ⟨l.toArray⟩) e)
    have hw : Wrote (w.drew.alloc (.cells (Go.Lib.bytesCells w e ⟨l.toArray⟩) e)) (Go.Lib.bytesWorld w e ⟨l.toArray⟩) w.heap.size (.cells (Go.Lib.bytesCells w e ⟨l.toArray⟩) e ((Go.Lib.bytesCells w e ⟨l.toArray⟩).size, (Go.Lib.bytesCells w e ⟨l.toArray⟩).size + 1)) := by
      refine ⟨rfl, rfl, rfl, ?_, Go.Lib.bytesWorld_at_new w e _, fun k hk => ?_⟩
      · rw [Go.Lib.bytesWorld_size]
        simp [World.alloc, World.drew, -World.alloc_eq, -World.drew_eq]
      · have hk' : w.heap.size ≠ k := fun e9 => hk e9.symm
        simp [Go.Lib.bytesWorld, World.freeze, World.alloc, World.drew, -World.alloc_eq, -World.drew_eq, Array.getElem?_modify, hk']
    have h10 := St.wrote h9 hw
    refine h10.imp fun hh hb => ?_
    have hge : l.length ≤ grownCap w l.length 0 e := grownCap_ge w l.length 0 e
    refine ⟨by simp, .inr ⟨_, _, rfl, hge, fun j u9 hu => ?_⟩⟩
    have hb' : hh w.heap.size = some (.cells (Go.Lib.bytesCells w e ⟨l.toArray⟩) e ((Go.Lib.bytesCells w e ⟨l.toArray⟩).size, (Go.Lib.bytesCells w e ⟨l.toArray⟩).size + 1)) := hb
    have hadd : (⟨w.heap.size, 0, none⟩ : Addr).add j = ⟨w.heap.size, j, none⟩ := by unfold Addr.add; split <;> simp_all
    rw [hadd]
    simp only [cellH, hb']
    have hj : j < l.length := by have := (List.getElem?_eq_some_iff.1 hu).1; simpa using this
    rw [List.getElem?_map, List.getElem?_eq_getElem hj] at hu
    injection hu with hu
    unfold Go.Lib.bytesCells
    rw [Array.getElem?_append_left (by simpa using hj)]
    simp [hj, ← hu, u8v]
end
def datR : List Pt → Asrt
  | [] => fun _ => True
  | p :: r => star (rdA p.2.1 p.2.2) (datR r)
theorem datR_rd : ∀ (ps : List Pt) (h : Heaplet), datR ps h → ∀ p ∈ ps, RdB h p.2.1 p.2.2
  | [], _, _, p, hp => absurd hp (by simp)
  | q :: ps, h, hh, p, hp => by
    obtain ⟨h1, h2, _, l1, l2, a1, a2⟩ := hh
    rcases List.mem_cons.1 hp with rfl | hp
    · exact RdC.mono l1 a1
    · exact RdC.mono l2 (datR_rd ps h2 a2 p hp)
theorem St.datR {σ : Sig} {w : World} {L R : List Asrt} {ps : List Pt} (hs : St σ w L) (tk : Take (datR ps) L R) {i : Nat} (hi : i < ps.length) : RdB (hp w) ps[i].2.1 ps[i].2.2 := by
  refine (hs.take tk).see fun h hh hA => ?_
  exact RdC.mono (fun k o e => hh k o e) (datR_rd ps h hA _ (List.getElem_mem hi))
theorem datR_push {σ : Sig} {w : World} {p : Pt} : ∀ {ps : List Pt} {R : List Asrt}, St σ w (Vw.datR ps :: rdA p.2.1 p.2.2 :: R) → St σ w (Vw.datR (ps ++ [p]) :: R)
  | [], R, hs => by
    have h1 : St σ w (rdA p.2.1 p.2.2 :: R) := hs.drop
    exact ((h1.emp (A := fun _ => True) (fun _ => trivial)).take (.there _ (.here _))).unstar
  | q :: ps, R, hs => by
    have h1 := hs.star
    have h2 : St σ w (Vw.datR ps :: rdA p.2.1 p.2.2 :: rdA q.2.1 q.2.2 :: R) := (h1.take (.there _ (.there _ (.here _)))) |>.take (.there _ (.there _ (.here _)))
    have h3 := datR_push h2
    exact (h3.take (.there _ (.here _))).unstar
theorem tx_step {rest : List UInt8} {tat t n : Nat} {tb : Int} (h1 : tb = 0 → tat = t) (h2 : tb ≠ 0 → rest.length < t) (h3 : tat ≤ rest.length) :
    ((nextC rest.length tat tb n).2.1 = 0 → (nextC rest.length tat tb n).1 = t + n ∧ (rest.drop tat).take (nextC rest.length tat tb n).2.2 = (rest.drop t).take n ∧ tb = 0) ∧
    ((nextC rest.length tat tb n).2.1 ≠ 0 → rest.length < t + n) ∧ (nextC rest.length tat tb n).1 ≤ rest.length := by
  unfold nextC
  by_cases hb : tb = 0
  · have e := h1 hb
    subst hb e
    rw [if_neg (by simp), if_neg (by omega)]
    by_cases hl : (rest.length : Int) - tat < n
    · rw [if_pos hl]
      exact ⟨(fun h => by cases h), (fun _ => by omega), h3⟩
    · rw [if_neg hl]
      refine ⟨fun _ => ⟨by simp, by simp, rfl⟩, fun h => absurd rfl h, by simp only [Int.toNat_natCast]; omega⟩
  · rw [if_pos hb]
    exact ⟨fun h => absurd h hb, fun _ => by have := h2 hb; omega, h3⟩
end Vw

namespace Vw
open Go
def seAt (n : Nat) : Nat := n / 512 * 512 - 512
def segS (l : List UInt8) : List UInt8 := (l.drop (seAt l.length)).take 512
def sdS (l : List UInt8) : Sl := dsF (segS l)
theorem seAt_le {n : Nat} (h : 512 ≤ n) : seAt n + 512 ≤ n := by unfold seAt; omega
theorem segS_len {l : List UInt8} (h : 512 ≤ l.length) : (segS l).length = 512 := by
  have := seAt_le h
  unfold segS; rw [List.length_take, List.length_drop]; omega
def seOk (l : List UInt8) : Bool := decide (512 ≤ l.length) && decOk (segS l) && decide ((sdS l).2.2.1 ≤ 16777216) && decide ((sdS l).2.2.2.1 ≤ 16777216) && decide (filZ (sdS l).2.2.1 (sdS l).2.2.2.1 (sdS l).2.2.2.2.2.1 = (l.length : Int)) && decide ((zt (l.drop (seAt l.length + 512)) : Int) = (l.length : Int) - (seAt l.length : Int) - 512)
def bodyS (l : List UInt8) : List UInt8 := (l.drop (upZ (max (sdS l).2.2.1 (sdS l).2.2.2.1)).toNat).take (sdS l).2.2.2.2.2.1.toNat
def putPs (l : List UInt8) (ps : List Pc) : List UInt8 := ps.foldl putP l
theorem putPs_len : ∀ (ps : List Pc) (l : List UInt8), (putPs l ps).length = l.length
  | [], _ => rfl
  | p :: ps, l => by
    show (putPs (putP l p) ps).length = _
    rw [putPs_len ps, putP_len]
theorem putPs_snoc (l : List UInt8) (ps : List Pc) (p : Pc) : putPs l (ps ++ [p]) = putP (putPs l ps) p := by
  unfold putPs; rw [List.foldl_append]; rfl
def lkB (l : List UInt8) : List UInt8 := putPs (l.take (sdS l).2.2.1.toNat) (bkL (sdS l) (bodyS l) (sdS l).2.2.2.2.1.toNat)
def lkV (l : List UInt8) : (Int × Int × Int) × List UInt8 :=
  if 1024 ≤ zt l then ((1, 0, ((l.length - zt l / 1024 * 1024 : Nat) : Int)), l.take (l.length - zt l / 1024 * 1024))
  else if seOk l = false then ((0, 0, (l.length : Int)), l)
  else if (sdS l).1 = 2 then ((2, (sdS l).2.1, (sdS l).2.2.1), l.take (sdS l).2.2.1.toNat)
  else if (sdS l).1 = 4 then ((4, (sdS l).2.1, (sdS l).2.2.2.1), l.take (sdS l).2.2.2.1.toNat)
  else if bkOk (sdS l) (bodyS l) = false then ((0, 0, (l.length : Int)), l)
  else ((3, (sdS l).2.1, (sdS l).2.2.1), lkB l)
structure SeGood (l : List UInt8) : Prop where
  st : 2 ≤ (sdS l).1 ∧ (sdS l).1 ≤ 4
  flds : (0 ≤ (sdS l).2.1 ∧ (sdS l).2.1 ≤ 4294967295) ∧ (0 ≤ (sdS l).2.2.1 ∧ (sdS l).2.2.1 ≤ 16777216) ∧ (0 ≤ (sdS l).2.2.2.1 ∧ (sdS l).2.2.2.1 ≤ 16777216) ∧ (0 ≤ (sdS l).2.2.2.2.1 ∧ (sdS l).2.2.2.2.1 ≤ 4294967295) ∧ (0 ≤ (sdS l).2.2.2.2.2.1 ∧ (sdS l).2.2.2.2.2.1 ≤ 4294967295)
  sum : (sdS l).2.2.2.2.2.2 < 4294967296
  body : max (sdS l).2.2.1 (sdS l).2.2.2.1 ≤ upZ (max (sdS l).2.2.1 (sdS l).2.2.2.1) ∧ upZ (max (sdS l).2.2.1 (sdS l).2.2.2.1) + (sdS l).2.2.2.2.2.1 ≤ (l.length : Int)
theorem seGood {l : List UInt8} (h : seOk l = true) : SeGood l := by
  unfold seOk at h
  simp only [Bool.and_eq_true, decide_eq_true_eq] at h
  obtain ⟨⟨⟨⟨⟨h1, h2⟩, h3⟩, h4⟩, h5⟩, h6⟩ := h
  have hs : slOk (sdS l) = true := by
    unfold decOk at h2
    simp only [Bool.and_eq_true, decide_eq_true_eq] at h2
    exact h2.1.2
  have hst : 2 ≤ (sdS l).1 ∧ (sdS l).1 ≤ 4 := by
    unfold slOk at hs
    simp only [Bool.and_eq_true, decide_eq_true_eq] at hs
    exact hs.1.1.1.1.1
  have hin : (0 ≤ (sdS l).2.1 ∧ (sdS l).2.1 ≤ 4294967295) ∧ (0 ≤ (sdS l).2.2.1 ∧ (sdS l).2.2.1 ≤ 4294967295) ∧ (0 ≤ (sdS l).2.2.2.1 ∧ (sdS l).2.2.2.1 ≤ 4294967295) ∧ (0 ≤ (sdS l).2.2.2.2.1 ∧ (sdS l).2.2.2.2.1 ≤ 4294967295) ∧ (0 ≤ (sdS l).2.2.2.2.2.1 ∧ (sdS l).2.2.2.2.2.1 ≤ 4294967295) := by
    unfold slOk inF at hs
    simp only [Bool.and_eq_true, decide_eq_true_eq] at hs
    exact ⟨hs.1.1.1.1.2, hs.1.1.1.2, hs.1.1.2, hs.1.2, hs.2⟩
  obtain ⟨i1, i2, i3, i4, i5⟩ := hin
  refine ⟨hst, ⟨i1, ⟨i2.1, h3⟩, ⟨i3.1, h4⟩, i4, i5⟩, ?_, ?_⟩
  · have e9 : (sdS l).2.2.2.2.2.2 = rd32 (segS l) 32 := rfl
    rw [e9]
    exact rd32_lt _ _
  have h9 : max (sdS l).2.2.1 (sdS l).2.2.2.1 ≤ upZ (max (sdS l).2.2.1 (sdS l).2.2.2.1) ∧ upZ (max (sdS l).2.2.1 (sdS l).2.2.2.1) + (sdS l).2.2.2.2.2.1 ≤ filZ (sdS l).2.2.1 (sdS l).2.2.2.1 (sdS l).2.2.2.2.2.1 := by
    generalize (sdS l).2.2.1 = a at *
    generalize (sdS l).2.2.2.1 = b at *
    generalize (sdS l).2.2.2.2.2.1 = c at *
    unfold filZ upZ
    omega
  rw [h5] at h9
  exact h9
end Vw
namespace Vw
open Go
def vdF (v : Int × Int × Int) : List Value := [.int .i64 v.1, .int .i64 v.2.1, .int .i64 v.2.2]
theorem wlk_mono {old : Int} {body : List UInt8} : ∀ {N e t : Nat}, wlk old body N = some (e, t) → ∀ i, i ≤ N → ∃ e' t', wlk old body i = some (e', t') ∧ t' ≤ t
  | 0, e, t, h, i, hi => by
    obtain rfl : i = 0 := by omega
    exact ⟨e, t, h, Nat.le_refl _⟩
  | N + 1, e, t, h, i, hi => by
    by_cases hi9 : i = N + 1
    · subst hi9; exact ⟨e, t, h, Nat.le_refl _⟩
    · cases hw : wlk old body N with
      | none => have := wlk_none hw 1; rw [this] at h; cases h
      | some p =>
        obtain ⟨e1, t1⟩ := p
        obtain ⟨e', t', h1, h2⟩ := wlk_mono hw i (by omega)
        have ht : t1 ≤ t := by
          by_cases hb : spN body N < 1 ∨ spA body N < e1 ∨ old < ((spA body N + spN body N : Nat) : Int)
          · rw [wlk_bad hw hb] at h; cases h
          · rw [wlk_good hw hb] at h
            injection h with h; injection h with h1 h2; omega
        exact ⟨e', t', h1, by omega⟩
theorem bk_span {s : Sl} {body : List UInt8} (h : bkOk s body = true) {N : Nat} (hN : s.2.2.2.2.1 = (N : Int)) {i : Nat} (hi : i < N) :
    1 ≤ spN body i ∧ ((spA body i + spN body i : Nat) : Int) ≤ s.2.2.1 ∧ 8 * N + totB s.2.2.1 body i + spN body i ≤ body.length ∧ totB s.2.2.1 body (i + 1) = totB s.2.2.1 body i + spN body i := by
  have hNt : s.2.2.2.2.1.toNat = N := by omega
  unfold bkOk at h
  rw [hNt] at h
  cases hw : wlk s.2.2.1 body N with
  | none => rw [hw] at h; simp at h
  | some p =>
    obtain ⟨e, t⟩ := p
    rw [hw] at h
    simp only [Bool.and_eq_true, decide_eq_true_eq] at h
    obtain ⟨e1, t1, h1, h2⟩ := wlk_mono hw i (by omega)
    obtain ⟨e2, t2, h3, h4⟩ := wlk_mono hw (i + 1) (by omega)
    have ha : totB s.2.2.1 body i = t1 := by unfold totB; rw [h1]
    have hb9 : totB s.2.2.1 body (i + 1) = t2 := by unfold totB; rw [h3]
    by_cases hb : spN body i < 1 ∨ spA body i < e1 ∨ s.2.2.1 < ((spA body i + spN body i : Nat) : Int)
    · rw [wlk_bad h1 hb] at h3; cases h3
    · rw [wlk_good h1 hb] at h3
      injection h3 with h3; injection h3 with h5 h6
      rw [ha, hb9]
      omega
theorem bk_cnt {s : Sl} {body : List UInt8} (h : bkOk s body = true) : 8 * s.2.2.2.2.1 ≤ (body.length : Int) := by
  unfold bkOk at h
  simp only [Bool.and_eq_true, decide_eq_true_eq] at h
  exact h.1.2
end Vw
namespace Vw
open Go
def lkOk (l : List UInt8) : Bool := seOk l && (!(decide ((sdS l).1 = 3)) || bkOk (sdS l) (bodyS l))
def lkZ (l : List UInt8) : Int := if (sdS l).1 = 4 then (sdS l).2.2.2.1 else (sdS l).2.2.1
def lkP (l : List UInt8) : List Pc := if (sdS l).1 = 3 then bkL (sdS l) (bodyS l) (sdS l).2.2.2.2.1.toNat else []
theorem lk_of {l : List UInt8} (h0 : zt l < 1024) (h : lkOk l = true) : lkV l = (((sdS l).1, (sdS l).2.1, lkZ l), putPs (l.take (lkZ l).toNat) (lkP l)) := by
  unfold lkOk at h
  simp only [Bool.and_eq_true] at h
  obtain ⟨h1, h2⟩ := h
  have hst := (seGood h1).st
  unfold lkV lkZ lkP
  rw [if_neg (by omega), if_neg (by rw [h1]; simp)]
  by_cases c2 : (sdS l).1 = 2
  · rw [if_pos c2, if_neg (show ¬ (sdS l).1 = 4 by omega), if_neg (show ¬ (sdS l).1 = 3 by omega), c2]; rfl
  · by_cases c4 : (sdS l).1 = 4
    · rw [if_neg c2, if_pos c4, if_pos c4, if_neg (show ¬ (sdS l).1 = 3 by omega), c4]; rfl
    · have c3 : (sdS l).1 = 3 := by omega
      rw [c3] at h2
      have hb : bkOk (sdS l) (bodyS l) = true := by simpa using h2
      rw [if_neg c2, if_neg c4, if_neg (by rw [hb]; simp), if_neg c4, if_pos c3, c3]; rfl
theorem lk_no {l : List UInt8} (h0 : zt l < 1024) (h : lkOk l = false) : lkV l = ((0, 0, (l.length : Int)), l) := by
  unfold lkV
  rw [if_neg (by omega)]
  by_cases h1 : seOk l = false
  · rw [if_pos h1]
  · have h1' : seOk l = true := by simpa using h1
    unfold lkOk at h
    rw [h1'] at h
    by_cases c3 : (sdS l).1 = 3
    · rw [c3] at h
      have hb : bkOk (sdS l) (bodyS l) = false := by simpa using h
      rw [if_neg h1, if_neg (show ¬ (sdS l).1 = 2 by omega), if_neg (show ¬ (sdS l).1 = 4 by omega), if_pos hb]
    · simp [c3] at h
theorem bk_mem {s : Sl} {body : List UInt8} (h : bkOk s body = true) {N : Nat} (hN : s.2.2.2.2.1 = (N : Int)) : ∀ p ∈ bkL s body N, 1 ≤ p.2.length ∧ ((p.1 + p.2.length : Nat) : Int) ≤ s.2.2.1 := by
  intro p hp
  obtain ⟨i, hi, rfl⟩ := List.mem_map.1 hp
  have hiN := List.mem_range.1 hi
  obtain ⟨b1, b2, b3, b4⟩ := bk_span h hN hiN
  have hNt : s.2.2.2.2.1.toNat = N := by omega
  have hdl : ((body.drop (8 * s.2.2.2.2.1.toNat + totB s.2.2.1 body i)).take (spN body i)).length = spN body i := by
    rw [hNt, List.length_take, List.length_drop]; omega
  simp only [hdl]
  exact ⟨b1, b2⟩
theorem lk_mem {l : List UInt8} (h : lkOk l = true) : ∀ p ∈ lkP l, 1 ≤ p.2.length ∧ ((p.1 + p.2.length : Nat) : Int) ≤ lkZ l := by
  unfold lkOk at h
  simp only [Bool.and_eq_true] at h
  have hg := seGood h.1
  have hf := hg.flds.2.2.2.1
  have h2 := h.2
  clear hg
  unfold lkP lkZ
  revert h2 hf
  generalize sdS l = s
  generalize bodyS l = b
  intro hf h2
  by_cases c3 : s.1 = 3
  · rw [if_pos c3, if_neg (show ¬ s.1 = 4 by omega)]
    rw [c3] at h2
    exact bk_mem (by simpa using h2) (by omega)
  · rw [if_neg c3]
    intro p hp
    cases hp
end Vw

namespace Vw
open Go
abbrev COp := Int × Int × List UInt8
def dO (o : COp) : DOp := (o.1, o.2.1, 0, (none, 0, o.2.2), 0, (none, 0, []), 0)
def coS (s : DS) (o : COp) : Int × DS := chS s (dO o)
def runS : DS → List COp → Int × DS
  | s, [] => (0, s)
  | s, o :: r => if (coS s o).1 = 0 then runS (coS s o).2 r else coS s o
def fin : DS → List COp → DS
  | s, [] => s
  | s, o :: r => fin (coS s o).2 r
theorem runS_nil (s : DS) : runS s [] = (0, s) := rfl
theorem runS_cons (s : DS) (o : COp) (r : List COp) : runS s (o :: r) = if (coS s o).1 = 0 then runS (coS s o).2 r else coS s o := rfl
theorem runS_append : ∀ (x : List COp) (s : DS) (y : List COp), runS s (x ++ y) = if (runS s x).1 = 0 then runS (runS s x).2 y else runS s x
  | [], s, y => by rw [List.nil_append, runS_nil, if_pos rfl]
  | o :: x, s, y => by
    rw [List.cons_append, runS_cons, runS_cons]
    by_cases h : (coS s o).1 = 0
    · rw [if_pos h, if_pos h]; exact runS_append x _ y
    · rw [if_neg h, if_neg h, if_neg h]
theorem runS_snoc {s : DS} {x : List COp} (h : (runS s x).1 = 0) (o : COp) : runS s (x ++ [o]) = coS (runS s x).2 o := by
  rw [runS_append, if_pos h, runS_cons]
  split
  · rename_i h9
    rw [runS_nil]
    exact Prod.ext h9.symm rfl
  · rfl
theorem runS_stop {s : DS} {x : List COp} (h : (runS s x).1 ≠ 0) (y : List COp) : runS s (x ++ y) = runS s x := by
  rw [runS_append, if_neg h]
theorem runS_go {s : DS} {x : List COp} (h : (runS s x).1 = 0) (y : List COp) : runS s (x ++ y) = runS (runS s x).2 y := by
  rw [runS_append, if_pos h]
theorem fin_append : ∀ (x : List COp) (s : DS) (y : List COp), fin s (x ++ y) = fin (fin s x) y
  | [], _, _ => rfl
  | _ :: x, _, y => fin_append x _ y
theorem runS_ok : ∀ (x : List COp) {s : DS}, DOk s → DOk (runS s x).2
  | [], _, h => h
  | o :: x, s, h => by
    unfold runS; split
    · exact runS_ok x (chS_ok h _)
    · exact chS_ok h _
theorem runS_b : ∀ (x : List COp) {s : DS} {k : Nat}, DOk s → DB s k → DB (runS s x).2 (k + x.length)
  | [], _, _, _, h => h
  | o :: x, s, k, ho, h => by
    unfold runS; split
    · have := runS_b x (chS_ok ho (dO o)) (chS_b ho h (dO o))
      rw [show k + (o :: x).length = k + 1 + x.length by simp; omega]
      exact this
    · exact (chS_b ho h (dO o)).up (by simp)
theorem wrS_room (s : DS) (off : Int) (d : List UInt8) : (wrS s off d).2.room = s.room := by
  have e := spent_now s
  unfold wrS
  repeat' split
  all_goals first | rfl | exact e.2.1 | skip
  rw [(sized_same _ _).2.2.2.1]
  unfold layW; split <;> exact e.2.1
theorem chS_room (s : DS) (o : DOp) : (chS s o).2.room = s.room := by
  have e := spent_now s
  unfold chS
  split
  · exact wrS_room _ _ _
  · split
    · unfold trS
      repeat' split
      all_goals first | rfl | exact e.2.1 | skip
      rw [(sized_same _ _).2.2.2.1]
      unfold trN trC; split <;> exact e.2.1
    · split
      · unfold syS
        repeat' split
        all_goals first | rfl | exact e.2.1
      · rfl
theorem runS_room : ∀ (x : List COp) (s : DS), (runS s x).2.room = s.room
  | [], _ => rfl
  | o :: x, s => by
    unfold runS; split
    · rw [runS_room x]; exact chS_room _ _
    · exact chS_room _ _
structure Same4 (s t : DS) : Prop where
  room : s.room = t.room
  now : s.now = t.now
  dur : s.dur = t.dur
  pcs : s.pcs = t.pcs
  sizes : s.sizes = t.sizes
theorem Same4.trans {a b c : DS} (h : Same4 a b) (k : Same4 b c) : Same4 a c := ⟨h.room.trans k.room, h.now.trans k.now, h.dur.trans k.dur, h.pcs.trans k.pcs, h.sizes.trans k.sizes⟩
theorem Same4.symm {a b : DS} (h : Same4 a b) : Same4 b a := ⟨h.room.symm, h.now.symm, h.dur.symm, h.pcs.symm, h.sizes.symm⟩
theorem same4_spent (s : DS) : Same4 (spent s) s := by
  have e := spent_now s
  exact ⟨e.2.1, e.1, e.2.2.1, e.2.2.2.1, e.2.2.2.2⟩
theorem outS_same {s t : DS} (h : Same4 s t) (c : Ch) : outS s c = outS t c := by
  unfold outS outN szIx keptP
  rw [h.dur, h.pcs, h.sizes]
theorem same4_layS {s t : DS} (h : Same4 s t) (k : Nat) (d : List UInt8) : Same4 (layS s k d) (layS t k d) := by
  unfold layS
  exact ⟨h.room, by simp only [h.now], h.dur, by simp only [h.pcs], h.sizes⟩
theorem same4_sized {s t : DS} (h : Same4 s t) (n : Nat) : Same4 (sized s n) (sized t n) := by
  by_cases c : s.now.length = n
  · rw [sized_eq c, sized_eq (by rw [← h.now]; exact c)]; exact h
  · rw [sized_ne c, sized_ne (by rw [← h.now]; exact c)]
    exact ⟨h.room, h.now, h.dur, h.pcs, by simp only [h.sizes, h.now]⟩
theorem same4_layW {s t : DS} (h : Same4 s t) (k : Nat) (d : List UInt8) : Same4 (layW s k d) (layW t k d) := by
  unfold layW
  rw [h.now]
  split
  · exact same4_layS h _ _
  · exact same4_layS h _ _
theorem same4_trN {s t : DS} (h : Same4 s t) (n : Nat) : Same4 (trN s n) (trN t n) := by
  have hc : Same4 (trC s n) (trC t n) := by
    unfold trC
    rw [h.now]
    split
    · exact same4_layS h _ _
    · exact h
  unfold trN
  exact ⟨hc.room, by simp only [hc.now], hc.dur, hc.pcs, hc.sizes⟩
def Fit (room : Int) (o : COp) : Prop := (o.1 = 2 ∧ 0 ≤ o.2.1 ∧ o.2.1 + (o.2.2.length : Int) ≤ room) ∨ (o.1 = 3 ∧ 0 ≤ o.2.1 ∧ o.2.1 ≤ room) ∨ o.1 = 4
def fz (f : Int) : Int := if 0 < f then f - 1 else f
theorem spent_fields {s : DS} (hd : s.dead = false) (hf : s.fuse ≠ 0) : (spent s).dead = false ∧ (spent s).fuse = fz s.fuse ∧ (spent s).calls = s.calls + 1 := by
  unfold spent fz; rw [if_neg hf]; exact ⟨hd, rfl, rfl⟩
theorem co_step {s t : DS} (h : Same4 s t) (hd : s.dead = false) (hf : s.fuse ≠ 0) (ht : Free t) {o : COp} (hfit : Fit s.room o) :
    (coS s o).1 = 0 ∧ Same4 (coS s o).2 (coS t o).2 ∧ (coS s o).2.dead = false ∧ (coS s o).2.fuse = fz s.fuse ∧ (coS s o).2.calls = s.calls + 1 := by
  obtain ⟨k1, k2, k3⟩ := spent_fields hd hf
  have hsp : Same4 (spent s) (spent t) := (same4_spent s).trans (h.trans (same4_spent t).symm)
  have htf : t.fuse ≠ 0 := by have := ht.fuse; omega
  have hr := h.room
  unfold coS
  rcases hfit with ⟨h2, hx, hy⟩ | ⟨h3, hx, hy⟩ | h4
  · by_cases he : o.2.2 = []
    · have hw : chS s (dO o) = (0, spent s) := by rw [chS_2 (o := dO o) h2]; exact wrS_none hd hx hy hf he
      have hw2 : chS t (dO o) = (0, spent t) := by rw [chS_2 (o := dO o) h2]; exact wrS_none ht.dead hx (by show o.2.1 + (o.2.2.length : Int) ≤ _; omega) htf he
      rw [hw, hw2]
      exact ⟨rfl, hsp, k1, k2, k3⟩
    · have hz := sized_same (layW (spent s) o.2.1.toNat o.2.2) s.now.length
      have hl : (layW (spent s) o.2.1.toNat o.2.2).dead = (spent s).dead ∧ (layW (spent s) o.2.1.toNat o.2.2).fuse = (spent s).fuse ∧ (layW (spent s) o.2.1.toNat o.2.2).calls = (spent s).calls := by unfold layW; split <;> exact ⟨rfl, rfl, rfl⟩
      have hw : chS s (dO o) = (0, sized (layW (spent s) o.2.1.toNat o.2.2) s.now.length) := by rw [chS_2 (o := dO o) h2]; exact wrS_some hd hx hy hf he
      have hw2 : chS t (dO o) = (0, sized (layW (spent t) o.2.1.toNat o.2.2) t.now.length) := by rw [chS_2 (o := dO o) h2]; exact wrS_some ht.dead hx (by show o.2.1 + (o.2.2.length : Int) ≤ _; omega) htf he
      rw [hw, hw2]
      refine ⟨rfl, ?_, by rw [hz.2.2.2.2.1, hl.1]; exact k1, by rw [hz.2.2.2.2.2.2, hl.2.1]; exact k2, by rw [hz.2.2.2.2.2.1, hl.2.2]; exact k3⟩
      show Same4 (sized (layW (spent s) o.2.1.toNat o.2.2) s.now.length) (sized (layW (spent t) o.2.1.toNat o.2.2) t.now.length)
      rw [h.now]
      exact same4_sized (same4_layW hsp _ _) _
  · have hw : chS s (dO o) = (0, sized (trN (spent s) o.2.1.toNat) s.now.length) := by rw [chS_3 (o := dO o) h3]; exact trS_some hd hx hy hf
    have hw2 : chS t (dO o) = (0, sized (trN (spent t) o.2.1.toNat) t.now.length) := by rw [chS_3 (o := dO o) h3]; exact trS_some ht.dead hx (by show o.2.1 ≤ _; omega) htf
    have hz := sized_same (trN (spent s) o.2.1.toNat) s.now.length
    have hl : (trN (spent s) o.2.1.toNat).dead = (spent s).dead ∧ (trN (spent s) o.2.1.toNat).fuse = (spent s).fuse ∧ (trN (spent s) o.2.1.toNat).calls = (spent s).calls := by unfold trN trC; split <;> exact ⟨rfl, rfl, rfl⟩
    rw [hw, hw2]
    refine ⟨rfl, ?_, by rw [hz.2.2.2.2.1, hl.1]; exact k1, by rw [hz.2.2.2.2.2.2, hl.2.1]; exact k2, by rw [hz.2.2.2.2.2.1, hl.2.2]; exact k3⟩
    show Same4 (sized (trN (spent s) o.2.1.toNat) s.now.length) (sized (trN (spent t) o.2.1.toNat) t.now.length)
    rw [h.now]
    exact same4_sized (same4_trN hsp _) _
  · have hw : chS s (dO o) = (0, { spent s with dur := s.now, pcs := [], sizes := [] }) := by rw [chS_4 (o := dO o) h4]; exact syS_some hd hf
    have hw2 : chS t (dO o) = (0, { spent t with dur := t.now, pcs := [], sizes := [] }) := by rw [chS_4 (o := dO o) h4]; exact syS_some ht.dead htf
    rw [hw, hw2]
    exact ⟨rfl, ⟨hsp.room, hsp.now, h.now, rfl, rfl⟩, k1, k2, k3⟩
theorem co_free {t : DS} (ht : Free t) (o : COp) : Free (coS t o).2 := (chS_free ht (dO o)).1
theorem fin_free : ∀ (x : List COp) {t : DS}, Free t → Free (fin t x)
  | [], _, h => h
  | o :: x, _, h => fin_free x (co_free h o)
theorem fin_room : ∀ (x : List COp) (t : DS), (fin t x).room = t.room
  | [], _ => rfl
  | o :: x, t => by
    show (fin (coS t o).2 x).room = _
    rw [fin_room x]; exact chS_room _ _
theorem co_cut {s : DS} (hd : s.dead = false) (hf : s.fuse = 0) {o : COp} (hfit : Fit s.room o) : (coS s o).1 = 12 ∧ Same4 (coS s o).2 s ∧ (coS s o).2.dead = true ∧ (coS s o).2.calls = s.calls := by
  have e : coS s o = (12, spent s) := by
    unfold coS
    rcases hfit with ⟨h2, hx, hy⟩ | ⟨h3, hx, hy⟩ | h4
    · rw [chS_2 (o := dO o) h2]; exact wrS_fuse hd hx hy hf
    · rw [chS_3 (o := dO o) h3]; exact trS_fuse hd hx hy hf
    · rw [chS_4 (o := dO o) h4]; exact syS_fuse hd hf
  rw [e]
  refine ⟨rfl, same4_spent s, ?_, ?_⟩ <;> (simp only [spent_0 hf])
theorem run_cut : ∀ (x : List COp) {s t : DS}, Same4 s t → s.dead = false → -1 ≤ s.fuse → Free t → (∀ o ∈ x, Fit s.room o) →
    (s.fuse < 0 ∨ (x.length : Int) ≤ s.fuse → (runS s x).1 = 0 ∧ Same4 (runS s x).2 (fin t x) ∧ (runS s x).2.dead = false ∧ (runS s x).2.calls = s.calls + x.length ∧ -1 ≤ (runS s x).2.fuse) ∧
    (0 ≤ s.fuse → s.fuse < (x.length : Int) → (runS s x).1 = 12 ∧ Same4 (runS s x).2 (fin t (x.take s.fuse.toNat)) ∧ (runS s x).2.dead = true)
  | [], s, t, h, hd, hf, ht, _ => ⟨fun _ => ⟨rfl, h, hd, rfl, hf⟩, fun h1 h2 => absurd h2 (by simp; omega)⟩
  | o :: x, s, t, h, hd, hf, ht, hx => by
    by_cases h0 : s.fuse = 0
    · obtain ⟨e1, e2, e3, _⟩ := co_cut hd h0 (hx o (by simp))
      have e : runS s (o :: x) = coS s o := by unfold runS; rw [if_neg (by rw [e1]; decide)]
      refine ⟨fun h9 => absurd h9 (by rw [h0]; simp), fun _ _ => ?_⟩
      rw [e, h0]
      exact ⟨e1, e2.trans h, e3⟩
    · obtain ⟨e1, e2, e3, e4, e5⟩ := co_step h hd h0 ht (hx o (by simp))
      have e : runS s (o :: x) = runS (coS s o).2 x := by conv => lhs; unfold runS
                                                          rw [if_pos e1]
      have hz : (coS s o).2.room = s.room := chS_room _ _
      have ih := run_cut x e2 e3 (by rw [e4]; unfold fz; split <;> omega) (co_free ht o) (fun q hq => by rw [hz]; exact hx q (by simp [hq]))
      rw [e]
      rw [e4] at ih
      have hlen : ((o :: x).length : Int) = (x.length : Int) + 1 := by simp
      refine ⟨fun h9 => ?_, fun h8 h9 => ?_⟩
      · have := ih.1 (by unfold fz; split <;> omega)
        refine ⟨this.1, this.2.1, this.2.2.1, ?_, this.2.2.2.2⟩
        rw [this.2.2.2.1, e5, List.length_cons]; omega
      · have hp : 0 < s.fuse := by omega
        have := ih.2 (by unfold fz; split <;> omega) (by unfold fz; split <;> omega)
        have ez : (fz s.fuse).toNat + 1 = s.fuse.toNat := by unfold fz; rw [if_pos hp]; omega
        rw [← ez, List.take_succ_cons]
        exact this
end Vw

namespace Vw
open Go
structure Clean (s : DS) : Prop where
  free : Free s
  pcs : s.pcs = []
  sizes : s.sizes = []
  dur : s.dur = s.now
theorem torn_clean {s : DS} (h : Clean s) : Torn s [s.now] :=
  ⟨fun x => by rw [h.pcs, h.dur]; rfl, fun sec k hk => ⟨s.now, by simp, fun x _ => by rw [h.pcs, h.dur]; simp [secP, vis]⟩, ⟨s.now, by simp, by rw [h.dur]⟩, fun z hz => by rw [h.sizes] at hz; cases hz⟩
theorem clean_out {s : DS} (h : Clean s) (c : Ch) : outS s c = s.now := by rw [out_sync h.pcs h.sizes, h.dur]
def Mix (ms : List (List UInt8)) (im : List UInt8) : Prop :=
  (∃ m ∈ ms, m.length = im.length) ∧ ∀ sec, ∃ m ∈ ms, ∀ x, x / 512 = sec → x < im.length → im.getD x 0 = m.getD x 0
theorem getD_far {l : List UInt8} {x : Nat} (h : l.length ≤ x) : l.getD x 0 = 0 := by simp [List.getD_eq_getElem?_getD, h]
def Agr (base : List UInt8) (W : Nat → Prop) (l : List UInt8) : Prop := l.length = base.length ∧ ∀ x, ¬ W x → l.getD x 0 = base.getD x 0
theorem Agr.refl (l : List UInt8) (W : Nat → Prop) : Agr l W l := ⟨rfl, fun _ _ => rfl⟩
theorem mix_agr {ms : List (List UInt8)} {base im : List UInt8} {W : Nat → Prop} (hm : ∀ m ∈ ms, Agr base W m) (h : Mix ms im) : Agr base W im := by
  obtain ⟨⟨m, h1, h2⟩, h3⟩ := h
  have hl : im.length = base.length := by rw [← h2]; exact (hm m h1).1
  refine ⟨hl, fun x hx => ?_⟩
  by_cases hlt : x < im.length
  · obtain ⟨m2, h4, h5⟩ := h3 (x / 512)
    rw [h5 x rfl hlt]
    exact (hm m2 h4).2 x hx
  · rw [getD_far (by omega), getD_far (by omega)]
theorem mix_two {l m im : List UInt8} {k : Nat} (hl : l.length = m.length) (hx : ∀ x, x / 512 ≠ k → l.getD x 0 = m.getD x 0) (h : Mix [l, m] im) : im = l ∨ im = m := by
  obtain ⟨⟨m1, h1, h2⟩, h3⟩ := h
  have hn : im.length = l.length := by
    rcases List.mem_cons.1 h1 with rfl | h1
    · exact h2.symm
    · rw [List.mem_singleton] at h1; subst h1; omega
  have key : ∀ x, x / 512 ≠ k → x < im.length → im.getD x 0 = l.getD x 0 := fun x hk hlt => by
    obtain ⟨m2, h4, h5⟩ := h3 (x / 512)
    rw [h5 x rfl hlt]
    rcases List.mem_cons.1 h4 with rfl | h4
    · rfl
    · rw [List.mem_singleton] at h4; subst h4; exact (hx x hk).symm
  obtain ⟨m2, h4, h5⟩ := h3 k
  rcases List.mem_cons.1 h4 with rfl | h4
  · left
    refine getD_list hn fun x hlt => ?_
    by_cases hk : x / 512 = k
    · exact h5 x hk hlt
    · exact key x hk hlt
  · rw [List.mem_singleton] at h4; subst h4
    right
    refine getD_list (by omega) fun x hlt => ?_
    by_cases hk : x / 512 = k
    · exact h5 x hk hlt
    · rw [key x hk hlt]; exact hx x hk
theorem wr_now {t : DS} (ht : Free t) {off : Int} {d : List UInt8} (h0 : 0 ≤ off) (h1 : off + (d.length : Int) ≤ t.room) :
    (coS t (2, off, d)).2.now.length = (if d = [] then t.now.length else max t.now.length (off.toNat + d.length)) ∧
    ∀ x, (coS t (2, off, d)).2.now.getD x 0 = if off.toNat ≤ x ∧ x < off.toNat + d.length then d.getD (x - off.toNat) 0 else t.now.getD x 0 := by
  have e : coS t (2, off, d) = wrS t off d := chS_2 (o := dO (2, off, d)) rfl
  have hf : t.fuse ≠ 0 := by have := ht.fuse; omega
  rw [e]
  by_cases hd : d = []
  · rw [wrS_none ht.dead h0 h1 hf hd, if_pos hd]
    refine ⟨by rw [(same4_spent t).now], fun x => ?_⟩
    rw [if_neg (by subst hd; simp)]
    show (spent t).now.getD x 0 = _
    rw [(same4_spent t).now]
  · rw [wrS_some ht.dead h0 h1 hf hd, if_neg hd]
    have hz := sized_same (layW (spent t) off.toNat d) t.now.length
    have hn := (same4_spent t).now
    refine ⟨by show (sized (layW (spent t) off.toNat d) t.now.length).now.length = _; rw [hz.1, layW_len, hn], fun x => ?_⟩
    show (sized (layW (spent t) off.toNat d) t.now.length).now.getD x 0 = _
    rw [hz.1]
    by_cases hh : (spent t).now.length < off.toNat
    · rw [layW_hole hh]
      unfold layS
      simp only
      rw [getD_spl _ _ _ (by rw [ext_length]; omega), getD_ext, hn]
      rw [hn] at hh
      simp only [List.length_append, List.length_replicate]
      by_cases c1 : off.toNat ≤ x ∧ x < off.toNat + d.length
      · rw [if_pos c1, if_pos (by omega)]
        rw [List.getD_eq_getElem?_getD, List.getElem?_append_right (by simp; omega), ← List.getD_eq_getElem?_getD]
        congr 1
        simp; omega
      · rw [if_neg c1]
        by_cases c2 : t.now.length ≤ x ∧ x < t.now.length + (off.toNat - t.now.length + d.length)
        · rw [if_pos c2, getD_far (l := t.now) (by omega)]
          rw [List.getD_eq_getElem?_getD, List.getElem?_append_left (by simp; omega)]
          simp [show x - t.now.length < off.toNat - t.now.length by omega]
        · rw [if_neg c2]
    · rw [layW_in (by omega)]
      unfold layS
      simp only
      rw [getD_spl _ _ _ (by rw [ext_length]; omega), getD_ext, hn]
theorem torn_wr {t : DS} {ms : List (List UInt8)} (h : Torn t ms) (ht : Free t) {o : COp} (ho : o.1 = 2) : Torn (coS t o).2 (ms ++ [(coS t o).2.now]) := by
  have e := torn_step h ht (dO o) (by intro h9; have h8 : o.1 = 3 := h9.1; omega)
  rwa [if_neg (by show ¬ o.1 = 4; omega)] at e
theorem sync_clean {t : DS} (ht : Free t) : Clean (coS t (4, 0, [])).2 ∧ (coS t (4, 0, [])).2.now = t.now := by
  have e : coS t (4, 0, []) = (0, { spent t with dur := t.now, pcs := [], sizes := [] }) := by
    unfold coS; rw [chS_4 (o := dO (4, 0, [])) rfl]; exact syS_some ht.dead (by have := ht.fuse; omega)
  have hfr := co_free ht (4, 0, [])
  have hn := (same4_spent t).now
  rw [e] at hfr ⊢
  exact ⟨⟨hfr, rfl, rfl, hn.symm⟩, hn⟩
theorem trunc_out {t : DS} (ht : Clean t) {n : Int} (h0 : 0 ≤ n) (h1 : n ≤ (t.now.length : Int)) (h2 : n ≤ t.room) :
    (coS t (3, n, [])).2.now = t.now.take n.toNat ∧ ∀ c, outS (coS t (3, n, [])).2 c = t.now ∨ outS (coS t (3, n, [])).2 c = t.now.take n.toNat := by
  have e : coS t (3, n, []) = (0, sized (trN (spent t) n.toNat) t.now.length) := by
    unfold coS; rw [chS_3 (o := dO (3, n, [])) rfl]; exact trS_some ht.free.dead h0 h2 (by have := ht.free.fuse; omega)
  have s4 := same4_spent t
  have htr : trN (spent t) n.toNat = { spent t with now := (spent t).now.take n.toNat } := by
    unfold trN; rw [trC_in (by rw [s4.now]; omega)]
  have hz := sized_same (trN (spent t) n.toNat) t.now.length
  have hq := sized_sizes (trN (spent t) n.toNat) t.now.length
  have hnow : (coS t (3, n, [])).2.now = t.now.take n.toNat := by
    rw [e]; show (sized _ _).now = _; rw [hz.1, htr]; simp only [s4.now]
  refine ⟨hnow, fun c => ?_⟩
  have hp : (coS t (3, n, [])).2.pcs = [] := by rw [e]; show (sized _ _).pcs = _; rw [hz.2.1, htr]; simp only [s4.pcs, ht.pcs]
  have hd : (coS t (3, n, [])).2.dur = t.now := by rw [e]; show (sized _ _).dur = _; rw [hz.2.2.1, htr]; simp only [s4.dur, ht.dur]
  have hs : (coS t (3, n, [])).2.sizes = [] ∨ (coS t (3, n, [])).2.sizes = [n.toNat] := by
    rw [e]
    have h9 : (sized (trN (spent t) n.toNat) t.now.length).now.length = n.toNat := by rw [hz.1, htr]; simp only [s4.now, List.length_take]; omega
    have h8 : (trN (spent t) n.toNat).sizes = [] := by rw [htr]; simp only [s4.sizes, ht.sizes]
    rcases hq with h | h
    · left; show (sized _ _).sizes = _; rw [h, h8]
    · right; show (sized _ _).sizes = _; rw [h, h8, h9]; rfl
  have hget : ∀ x, x < (outS (coS t (3, n, [])).2 c).length → (outS (coS t (3, n, [])).2 c).getD x 0 = t.now.getD x 0 := fun x hx => by
    rw [outS_length] at hx
    unfold outS keptP
    rw [hp, hd]
    simp [List.getD_eq_getElem?_getD, hx, secP, vis]
  have hlen : (outS (coS t (3, n, [])).2 c).length = t.now.length ∨ (outS (coS t (3, n, [])).2 c).length = n.toNat := by
    rw [outS_length]
    unfold outN szIx
    rw [hd]
    rcases hs with h | h
    · rw [h]; left; rw [if_neg (by simp; omega)]
    · rw [h]
      split
      · right
        rename_i hc
        have : min c.1 (([n.toNat] : List Nat).length : Int) = 1 := by simp only [List.length_singleton] at hc ⊢; omega
        rw [this]; rfl
      · left; rfl
  rcases hlen with h | h
  · left; exact getD_list h fun x hx => hget x hx
  · right
    refine getD_list (by rw [h, List.length_take]; omega) fun x hx => ?_
    rw [hget x hx]
    simp [List.getD_eq_getElem?_getD, show x < n.toNat by omega]
def Cuts (t : DS) (ops : List COp) (P : List UInt8 → Prop) : Prop := ∀ i, i ≤ ops.length → ∀ c, P (outS (fin t (ops.take i)) c)
theorem Cuts.append {t : DS} {x y : List COp} {P : List UInt8 → Prop} (h1 : Cuts t x P) (h2 : Cuts (fin t x) y P) : Cuts t (x ++ y) P := fun i hi c => by
  by_cases h : i ≤ x.length
  · rw [List.take_append_of_le_length h]; exact h1 i h c
  · obtain ⟨j, rfl⟩ : ∃ j, i = x.length + j := ⟨i - x.length, by omega⟩
    rw [List.take_length_add_append, fin_append]
    exact h2 j (by rw [List.length_append] at hi; omega) c
theorem Cuts.none {t : DS} {P : List UInt8 → Prop} (h : ∀ c, P (outS t c)) : Cuts t [] P := fun i hi c => by
  have : i = 0 := by simpa using hi
  subst this; exact h c
theorem Cuts.one {t : DS} {o : COp} {P : List UInt8 → Prop} (h : ∀ c, P (outS t c)) (h1 : ∀ c, P (outS (coS t o).2 c)) : Cuts t [o] P := fun i hi c => by
  have : i = 0 ∨ i = 1 := by simp at hi; omega
  rcases this with rfl | rfl
  · exact h c
  · exact h1 c
theorem Cuts.sync {t : DS} {x : List COp} {P : List UInt8 → Prop} (ht : Free t) (h : Cuts t x P) (h1 : P (fin t x).now) : Cuts t (x ++ [(4, 0, [])]) P := by
  refine h.append (Cuts.one ?_ fun c => ?_)
  · intro c
    have := h x.length (Nat.le_refl _) c
    rwa [List.take_length] at this
  · have := sync_clean (fin_free x ht)
    rw [clean_out this.1, this.2]; exact h1
theorem writes_cut {W : Nat → Prop} : ∀ (x : List COp) {t : DS} {base : List UInt8} {ms : List (List UInt8)}, Torn t ms → Free t → (∀ m ∈ ms, Agr base W m) → Agr base W t.now → ((base.length : Int) ≤ t.room) →
    (∀ o ∈ x, o.1 = 2 ∧ 0 ≤ o.2.1 ∧ o.2.1.toNat + o.2.2.length ≤ base.length ∧ ∀ y, o.2.1.toNat ≤ y → y < o.2.1.toNat + o.2.2.length → W y) →
    Cuts t x (Agr base W) ∧ Agr base W (fin t x).now
  | [], t, base, ms, h, _, hm, hn, _, _ => ⟨Cuts.none fun c => mix_agr hm (torn_out h c), hn⟩
  | o :: x, t, base, ms, h, hf, hm, hn, hr, ho => by
    obtain ⟨o1, o2, o3, o4⟩ := ho o (by simp)
    have hw := torn_wr h hf o1
    have he : o = (2, o.2.1, o.2.2) := by rw [← o1]
    have hnow := wr_now hf (off := o.2.1) (d := o.2.2) o2 (by have := hn.1; omega)
    rw [← he] at hnow
    have hag : Agr base W (coS t o).2.now := by
      refine ⟨?_, fun y hy => ?_⟩
      · rw [hnow.1, hn.1]; split
        · rfl
        · omega
      · rw [hnow.2 y, if_neg (fun h9 => hy (o4 y h9.1 h9.2))]; exact hn.2 y hy
    have hz : (coS t o).2.room = t.room := chS_room _ _
    have ih := writes_cut x hw (co_free hf o) (fun m h9 => by
      rcases List.mem_append.1 h9 with h9 | h9
      · exact hm m h9
      · rw [List.mem_singleton] at h9; rw [h9]; exact hag) hag (by rw [hz]; exact hr) (fun q hq => ho q (by simp [hq]))
    refine ⟨?_, ih.2⟩
    have : Cuts t ([o] ++ x) (Agr base W) := (Cuts.one (fun c => mix_agr hm (torn_out h c)) (fun c => by
      have := ih.1 0 (Nat.zero_le _) c
      rwa [List.take_zero] at this)).append ih.1
    exact this
theorem writes_now : ∀ (x : List COp) {t : DS}, Free t → ((t.now.length : Int) ≤ t.room) → (∀ o ∈ x, o.1 = 2 ∧ 0 ≤ o.2.1 ∧ o.2.1.toNat + o.2.2.length ≤ t.now.length) →
    (fin t x).now = putPs t.now (x.map fun o => (o.2.1.toNat, o.2.2))
  | [], t, _, _, _ => rfl
  | o :: x, t, hf, hr, ho => by
    obtain ⟨o1, o2, o3⟩ := ho o (by simp)
    have he : o = (2, o.2.1, o.2.2) := by rw [← o1]
    have hnow := wr_now hf (off := o.2.1) (d := o.2.2) o2 (by omega)
    rw [← he] at hnow
    have hl : (coS t o).2.now.length = t.now.length := by
      rw [hnow.1]; split
      · rfl
      · omega
    have e : (coS t o).2.now = putP t.now (o.2.1.toNat, o.2.2) := by
      refine getD_list (by rw [hl, putP_len]) fun y hy => ?_
      rw [hnow.2 y, putP_get _ _ (by omega), vis_one]
    have hz : (coS t o).2.room = t.room := chS_room _ _
    have ih := writes_now x (co_free hf o) (by rw [hl, hz]; exact hr) (fun q hq => by rw [hl]; exact ho q (by simp [hq]))
    show (fin (coS t o).2 x).now = _
    rw [ih, e]
    rfl
end Vw

namespace Vw
open Go
theorem getD_drop (l : List UInt8) (n x : Nat) : (l.drop n).getD x 0 = l.getD (n + x) 0 := by simp [List.getD_eq_getElem?_getD]
theorem getD_take (l : List UInt8) (n x : Nat) : (l.take n).getD x 0 = if x < n then l.getD x 0 else 0 := by
  by_cases h : x < n
  · rw [if_pos h]; simp [List.getD_eq_getElem?_getD, h]
  · rw [if_neg h]; exact getD_far (by rw [List.length_take]; omega)
theorem zt_zerosN : ∀ (n : Nat) (l : List UInt8), n ≤ l.length → ∀ x, n - zt (l.take n) ≤ x → x < n → l.getD x 0 = 0
  | 0, _, _, x, _, h => absurd h (by omega)
  | n + 1, l, hn, x, h1, h2 => by
    by_cases h0 : l[n] = 0
    · rw [zt_take0 (by omega) h0] at h1
      by_cases hx : x = n
      · subst hx; simp [List.getD_eq_getElem?_getD, h0, show x < l.length by omega]
      · exact zt_zerosN n l (by omega) x (by omega) (by omega)
    · rw [zt_take1 (by omega) h0] at h1; omega
theorem zt_geN : ∀ (n : Nat) (l : List UInt8), n ≤ l.length → ∀ k, (∀ x, k ≤ x → x < n → l.getD x 0 = 0) → n - k ≤ zt (l.take n)
  | 0, _, _, k, _ => by omega
  | n + 1, l, hn, k, h => by
    by_cases hk : n + 1 ≤ k
    · omega
    · have h0 : l[n] = 0 := by
        have := h n (by omega) (by omega)
        simpa [List.getD_eq_getElem?_getD, show n < l.length by omega] using this
      rw [zt_take0 (by omega) h0]
      have := zt_geN n l (by omega) k (fun x h1 h2 => h x h1 (by omega))
      omega
theorem zt_zeros {l : List UInt8} {x : Nat} (h : l.length - zt l ≤ x) : l.getD x 0 = 0 := by
  by_cases hx : x < l.length
  · exact zt_zerosN l.length l (Nat.le_refl _) x (by rw [List.take_length]; exact h) hx
  · exact getD_far (by omega)
theorem zt_ge {l : List UInt8} {k : Nat} (h : ∀ x, k ≤ x → l.getD x 0 = 0) : l.length - k ≤ zt l := by
  have := zt_geN l.length l (Nat.le_refl _) k (fun x h1 _ => h x h1)
  rwa [List.take_length] at this
theorem zt_lt {l : List UInt8} {k : Nat} (hk : k < l.length) (h : l.getD k 0 ≠ 0) : zt l + k < l.length := by
  apply Classical.byContradiction
  intro h9
  exact h (zt_zeros (by omega))
theorem zt_drop_all {l : List UInt8} {k : Nat} (hk : k ≤ l.length) (h : ∀ x, k ≤ x → l.getD x 0 = 0) : zt (l.drop k) = l.length - k := by
  have h1 := zt_le (l.drop k)
  have h2 := zt_ge (l := l.drop k) (k := 0) (fun x _ => by rw [getD_drop]; exact h _ (by omega))
  rw [List.length_drop] at h1 h2
  omega
theorem seg_get (l : List UInt8) {x : Nat} (hx : x < 512) : (segS l).getD x 0 = l.getD (seAt l.length + x) 0 := by
  unfold segS; rw [getD_take, if_pos hx, getD_drop]
theorem sec_0 (s : Sl) : (secS s).getD 0 0 = 86 := by
  rw [List.getD_eq_getElem?_getD, sec_hd s (by omega)]
  unfold hdS
  rw [List.getElem?_append_left (by decide)]
  rfl
theorem se_zt {l : List UInt8} (h : seOk l = true) : zt l < 1024 := by
  unfold seOk at h
  simp only [Bool.and_eq_true, decide_eq_true_eq] at h
  obtain ⟨⟨⟨⟨⟨h1, h2⟩, _⟩, _⟩, _⟩, _⟩ := h
  unfold decOk at h2
  simp only [Bool.and_eq_true, decide_eq_true_eq] at h2
  have h3 := sec_0 (dsF (segS l))
  rw [h2.2, seg_get l (by omega)] at h3
  have h4 := seAt_le h1
  have := zt_lt (l := l) (k := seAt l.length + 0) (by omega) (by rw [h3]; decide)
  have h5 : l.length < seAt l.length + 1024 := by unfold seAt; omega
  omega
theorem sit_ok {s : Sl} {l : List UInt8} (hs : slOk s = true) (hsu : s.2.2.2.2.2.2 < 4294967296) (ho : s.2.2.1 ≤ 16777216) (hn : s.2.2.2.1 ≤ 16777216) (h512 : 512 ≤ l.length)
    (hlen : filZ s.2.2.1 s.2.2.2.1 s.2.2.2.2.2.1 = (l.length : Int)) (h1 : ∀ x, x < 512 → l.getD (seAt l.length + x) 0 = (secS s).getD x 0) (h2 : ∀ x, seAt l.length + 512 ≤ x → l.getD x 0 = 0) :
    seOk l = true ∧ sdS l = s := by
  have hle := seAt_le h512
  have hsg : segS l = secS s := by
    refine getD_list (by rw [segS_len h512, secS_len]) fun x hx => ?_
    rw [segS_len h512] at hx
    rw [seg_get l hx]; exact h1 x hx
  have hsd : sdS l = s := by unfold sdS; rw [hsg]; exact seal_flds hs hsu
  have hdc : decOk (segS l) = true := by
    rw [hsg]
    have := (seal_back hs hsu).2
    unfold decE at this
    cases e : decOk (secS s) with
    | true => rfl
    | false => rw [e] at this; simp at this
  refine ⟨?_, hsd⟩
  unfold seOk
  rw [hsd, hdc, decide_eq_true h512, decide_eq_true ho, decide_eq_true hn, decide_eq_true hlen, zt_drop_all hle h2, decide_eq_true (by omega)]
  rfl
theorem vis_cov : ∀ (ps : List Pc) (x : Nat) (b b' : UInt8), (∃ p ∈ ps, p.1 ≤ x ∧ x < p.1 + p.2.length) → vis ps x b = vis ps x b'
  | [], _, _, _, h => by obtain ⟨p, hp, _⟩ := h; cases hp
  | q :: ps, x, b, b', h => by
    rw [vis_cons q ps x b, vis_cons q ps x b', vis_one, vis_one]
    by_cases hq : q.1 ≤ x ∧ x < q.1 + q.2.length
    · rw [if_pos hq, if_pos hq]
    · rw [if_neg hq, if_neg hq]
      obtain ⟨p, hp, h1⟩ := h
      rcases List.mem_cons.1 hp with rfl | hp
      · exact absurd h1 hq
      · exact vis_cov ps x b b' ⟨p, hp, h1⟩
theorem putPs_get (ps : List Pc) (l : List UInt8) {x : Nat} (hx : x < l.length) : (putPs l ps).getD x 0 = vis ps x (l.getD x 0) := putsP_get ps l hx
attribute [local irreducible] Vw.sdS Vw.bodyS Vw.zt Vw.bkL Vw.upZ Vw.filZ Vw.bkOk Vw.decOk Vw.putPs Vw.segS
theorem lk_keep {l m : List UInt8} {W : Nat → Prop} (hok : lkOk l = true) (ha : Agr l W m) (h1 : ∀ x, W x → x < seAt l.length)
    (h2 : ∀ x, W x → x < (lkZ l).toNat → ∃ p ∈ lkP l, p.1 ≤ x ∧ x < p.1 + p.2.length)
    (h3 : (sdS l).1 = 3 → ∀ x, W x → ¬ ((upZ (max (sdS l).2.2.1 (sdS l).2.2.2.1)).toNat ≤ x ∧ x < (upZ (max (sdS l).2.2.1 (sdS l).2.2.2.1)).toNat + (sdS l).2.2.2.2.2.1.toNat)) :
    lkV m = lkV l ∧ lkOk m = true ∧ sdS m = sdS l ∧ lkP m = lkP l := by
  have hse : seOk l = true := by unfold lkOk at hok; simp only [Bool.and_eq_true] at hok; exact hok.1
  have h512 : 512 ≤ l.length := by unfold seOk at hse; simp only [Bool.and_eq_true, decide_eq_true_eq] at hse; exact hse.1.1.1.1.1
  have hml := ha.1
  have hsg : segS m = segS l := by
    refine getD_list (by rw [segS_len h512, segS_len (by omega)]) fun x hx => ?_
    rw [segS_len (by omega)] at hx
    rw [seg_get m hx, seg_get l hx, hml]
    exact ha.2 _ (fun h9 => by have := h1 _ h9; omega)
  have hsd : sdS m = sdS l := by unfold sdS; rw [hsg]
  have hdr : m.drop (seAt l.length + 512) = l.drop (seAt l.length + 512) := by
    refine getD_list (by simp [hml]) fun x hx => ?_
    rw [getD_drop, getD_drop]
    exact ha.2 _ (fun h9 => by have := h1 _ h9; omega)
  have hsm : seOk m = true := by unfold seOk at hse ⊢; rw [hsd, hsg, hml, hdr]; exact hse
  have hbd : (sdS l).1 = 3 → bodyS m = bodyS l := fun h => by
    unfold bodyS
    rw [hsd]
    refine getD_list (by simp [hml]) fun x hx => ?_
    rw [getD_take, getD_take, getD_drop, getD_drop]
    split
    · exact ha.2 _ (fun h9 => h3 h _ h9 ⟨by omega, by omega⟩)
    · rfl
  have hkm : lkOk m = true := by
    unfold lkOk at hok ⊢
    rw [hsd, hsm]
    by_cases c : (sdS l).1 = 3
    · rw [hbd c]; rw [hse] at hok; exact hok
    · rw [decide_eq_false c]; rfl
  have hP : lkP m = lkP l := by
    unfold lkP
    rw [hsd]
    by_cases c : (sdS l).1 = 3
    · rw [if_pos c, if_pos c, hbd c]
    · rw [if_neg c, if_neg c]
  have hZ : lkZ m = lkZ l := by unfold lkZ; rw [hsd]
  refine ⟨?_, hkm, hsd, hP⟩
  rw [lk_of (se_zt hsm) hkm, lk_of (se_zt hse) hok, hsd, hZ, hP]
  congr 1
  refine getD_list (by rw [putPs_len, putPs_len, List.length_take, List.length_take, hml]) fun x hx => ?_
  rw [putPs_len] at hx
  have hx2 : x < (l.take (lkZ l).toNat).length := by rw [List.length_take] at hx ⊢; omega
  have hx3 : x < (lkZ l).toNat := by rw [List.length_take] at hx; omega
  rw [putPs_get _ _ hx, putPs_get _ _ hx2, getD_take, getD_take, if_pos hx3, if_pos hx3]
  by_cases hW : W x
  · exact vis_cov _ _ _ _ (h2 x hW hx3)
  · rw [ha.2 x hW]
theorem quiet_self {c : List UInt8} (h : (lkV c).1.1 = 0) : lkV c = ((0, 0, (c.length : Int)), c) ∧ zt c < 1024 := by
  unfold lkV at h ⊢
  split
  · rename_i h1; rw [if_pos h1] at h; exact absurd h (by simp)
  · rename_i h1
    rw [if_neg h1] at h
    refine ⟨?_, by omega⟩
    split
    · rfl
    · rename_i h2
      rw [if_neg h2] at h
      split
      · rename_i h3; rw [if_pos h3] at h; exact absurd h (by simp)
      · rename_i h3
        rw [if_neg h3] at h
        split
        · rename_i h4; rw [if_pos h4] at h; exact absurd h (by simp)
        · rename_i h4
          rw [if_neg h4] at h
          split
          · rfl
          · rename_i h5; rw [if_neg h5] at h; exact absurd h (by simp)
theorem lk_longer {c l : List UInt8} {k : Nat} (hk : 1 ≤ k) (hz : zt c < 1024) (hl : l.length = c.length + 1024 * k) (h : ∀ x, l.getD x 0 = c.getD x 0) : lkV l = ((1, 0, (c.length : Int)), c) := by
  have h1 : 1024 * k ≤ zt l := by
    have := zt_ge (l := l) (k := c.length) (fun x hx => by rw [h]; exact getD_far hx)
    omega
  have h2 : zt l < 1024 * k + 1024 := by
    apply Classical.byContradiction
    intro h9
    have hle := zt_le l
    have := zt_ge (l := c) (k := c.length - 1024) (fun x hx => by rw [← h]; exact zt_zeros (by omega))
    omega
  have hd : zt l / 1024 = k := by omega
  unfold lkV
  rw [if_pos (by omega), hd]
  have hn : l.length - k * 1024 = c.length := by omega
  rw [hn]
  congr 1
  refine getD_list (by rw [List.length_take]; omega) fun x hx => ?_
  rw [List.length_take] at hx
  rw [getD_take, if_pos (by omega), h]
end Vw

namespace Vw
open Go
def syO : COp := (4, 0, [])
def wrO (p : Pc) : COp := (2, (p.1 : Int), p.2)
def opsR (im : List UInt8) : List COp :=
  if (lkV im).1.1 = 0 then [] else (if (lkV im).1.1 = 3 then (lkP im).map wrO ++ [syO] else []) ++ [(3, (lkV im).1.2.2, []), syO]
theorem se_geo {l : List UInt8} (h : seOk l = true) : (0 ≤ (sdS l).2.2.1 ∧ 0 ≤ (sdS l).2.2.2.1 ∧ 0 ≤ (sdS l).2.2.2.2.2.1) ∧ max (sdS l).2.2.1 (sdS l).2.2.2.1 ≤ upZ (max (sdS l).2.2.1 (sdS l).2.2.2.1) ∧ upZ (max (sdS l).2.2.1 (sdS l).2.2.2.1) + (sdS l).2.2.2.2.2.1 ≤ (seAt l.length : Int) ∧ seAt l.length + 512 ≤ l.length := by
  have hg := seGood h
  obtain ⟨f0, f1, f2, f3, f4⟩ := hg.flds
  unfold seOk at h
  simp only [Bool.and_eq_true, decide_eq_true_eq] at h
  obtain ⟨⟨⟨⟨⟨h1, _⟩, _⟩, _⟩, h5⟩, _⟩ := h
  have h6 := seAt_le h1
  clear hg
  generalize (sdS l).2.2.1 = a at *
  generalize (sdS l).2.2.2.1 = b at *
  generalize (sdS l).2.2.2.2.2.1 = c at *
  refine ⟨⟨f1.1, f2.1, f4.1⟩, ?_, ?_, h6⟩
  · unfold upZ; omega
  · unfold filZ at h5
    have h7 : (seAt l.length : Int) = (l.length : Int) / 512 * 512 - 512 := by unfold seAt; omega
    rw [h7]
    unfold upZ at h5 ⊢
    omega
theorem putPs_nil (l : List UInt8) : putPs l [] = l := rfl
attribute [local irreducible] Vw.sdS Vw.bodyS Vw.zt Vw.bkL Vw.upZ Vw.filZ Vw.bkOk Vw.decOk Vw.putPs Vw.segS Vw.lkOk Vw.lkP Vw.lkZ Vw.lkV Vw.seOk
theorem look_cases (im : List UInt8) : ((lkV im).1.1 = 0 ∧ (lkV im).2 = im ∧ (lkV im).1.2.2 = (im.length : Int)) ∨
    (((lkV im).1.1 = 1 ∨ (lkV im).1.1 = 2 ∨ (lkV im).1.1 = 4) ∧ 0 ≤ (lkV im).1.2.2 ∧ (lkV im).1.2.2 ≤ (im.length : Int) ∧ (lkV im).2 = im.take (lkV im).1.2.2.toNat) ∨
    ((lkV im).1.1 = 3 ∧ lkOk im = true ∧ (sdS im).1 = 3 ∧ (lkV im).1.2.2 = lkZ im ∧ 0 ≤ lkZ im ∧ lkZ im ≤ (im.length : Int) ∧ (lkV im).2 = putPs (im.take (lkZ im).toNat) (lkP im)) := by
  by_cases h0 : zt im < 1024
  · by_cases hk : lkOk im = true
    · have e := lk_of h0 hk
      have hse : seOk im = true := by unfold lkOk at hk; simp only [Bool.and_eq_true] at hk; exact hk.1
      have hst := (seGood hse).st
      obtain ⟨⟨g1, g2, g3⟩, g4, g5, g6⟩ := se_geo hse
      have hz : 0 ≤ lkZ im ∧ lkZ im ≤ (im.length : Int) := by unfold lkZ; split <;> omega
      by_cases c3 : (sdS im).1 = 3
      · right; right
        rw [e]
        exact ⟨c3, hk, c3, rfl, hz.1, hz.2, rfl⟩
      · right; left
        have hp : lkP im = [] := by unfold lkP; rw [if_neg c3]
        rw [e, hp]
        exact ⟨by show (sdS im).1 = 1 ∨ (sdS im).1 = 2 ∨ (sdS im).1 = 4; omega, hz.1, hz.2, putPs_nil _⟩
    · have e := lk_no h0 (by simpa using hk)
      left; rw [e]; exact ⟨rfl, rfl, rfl⟩
  · right; left
    have e : lkV im = ((1, 0, ((im.length - zt im / 1024 * 1024 : Nat) : Int)), im.take (im.length - zt im / 1024 * 1024)) := by unfold lkV; rw [if_pos (by omega)]
    rw [e]
    refine ⟨.inl rfl, by simp, by simp, ?_⟩
    simp
theorem putPs_take (ps : List Pc) {l : List UInt8} {n : Nat} (hn : n ≤ l.length) : (putPs l ps).take n = putPs (l.take n) ps := by
  refine getD_list (by simp [putPs_len]) fun x hx => ?_
  simp only [List.length_take, putPs_len] at hx
  rw [getD_take, if_pos (by omega), putPs_get _ _ (by omega), putPs_get _ _ (by rw [List.length_take]; omega), getD_take, if_pos (by omega)]
theorem tr_phase {t : DS} (ht : Clean t) {n : Int} (h0 : 0 ≤ n) (h1 : n ≤ (t.now.length : Int)) (h2 : n ≤ t.room) :
    Cuts t [(3, n, []), syO] (fun im => im = t.now ∨ im = t.now.take n.toNat) ∧ (fin t [(3, n, []), syO]).now = t.now.take n.toNat ∧ Clean (fin t [(3, n, []), syO]) := by
  obtain ⟨k1, k2⟩ := trunc_out ht h0 h1 h2
  have hs := sync_clean (co_free ht.free (3, n, []))
  refine ⟨?_, hs.2.trans k1, hs.1⟩
  exact Cuts.sync (x := [(3, n, [])]) ht.free (Cuts.one (fun c => .inl (clean_out ht c)) k2) (.inr k1)
theorem map_wrO (ps : List Pc) : (ps.map wrO).map (fun o => (o.2.1.toNat, o.2.2)) = ps := by
  rw [List.map_map]
  conv => rhs; rw [← List.map_id ps]
  refine List.map_congr_left fun p _ => ?_
  show ((p.1 : Int).toNat, p.2) = p
  rw [Int.toNat_natCast]
theorem armed_phase {t : DS} (ht : Clean t) (hr : (t.now.length : Int) ≤ t.room) (hk : lkOk t.now = true) (h3 : (sdS t.now).1 = 3) :
    Cuts t ((lkP t.now).map wrO ++ [syO]) (fun im => lkV im = lkV t.now) ∧ (fin t ((lkP t.now).map wrO ++ [syO])).now = putPs t.now (lkP t.now) ∧ Clean (fin t ((lkP t.now).map wrO ++ [syO])) ∧ lkV (putPs t.now (lkP t.now)) = lkV t.now := by
  have hse : seOk t.now = true := by unfold lkOk at hk; simp only [Bool.and_eq_true] at hk; exact hk.1
  obtain ⟨⟨g1, g2, g3⟩, g4, g5, g6⟩ := se_geo hse
  have hz : lkZ t.now = (sdS t.now).2.2.1 := by unfold lkZ; rw [if_neg (by omega)]
  have hm := lk_mem hk
  have hkeep : ∀ im, Agr t.now (fun x => ∃ p ∈ lkP t.now, p.1 ≤ x ∧ x < p.1 + p.2.length) im → lkV im = lkV t.now := fun im ha =>
    (lk_keep hk ha (fun x ⟨p, hp, h1, h2⟩ => by have := hm p hp; omega) (fun x hx _ => hx) (fun _ x ⟨p, hp, h1, h2⟩ => by have := hm p hp; omega)).1
  have hops : ∀ o ∈ (lkP t.now).map wrO, o.1 = 2 ∧ 0 ≤ o.2.1 ∧ o.2.1.toNat + o.2.2.length ≤ t.now.length ∧ ∀ y, o.2.1.toNat ≤ y → y < o.2.1.toNat + o.2.2.length → ∃ p ∈ lkP t.now, p.1 ≤ y ∧ y < p.1 + p.2.length := fun o ho => by
    obtain ⟨p, hp, rfl⟩ := List.mem_map.1 ho
    have h9 := hm p hp
    refine ⟨rfl, by show 0 ≤ (p.1 : Int); omega, by show (p.1 : Int).toNat + p.2.length ≤ _; omega, fun y h1 h2 => ⟨p, hp, ?_, ?_⟩⟩
    · show p.1 ≤ y; have : (p.1 : Int).toNat ≤ y := h1; omega
    · show y < p.1 + p.2.length; have : y < (p.1 : Int).toNat + p.2.length := h2; omega
  have hw := writes_cut _ (torn_clean ht) ht.free (W := fun x => ∃ p ∈ lkP t.now, p.1 ≤ x ∧ x < p.1 + p.2.length) (base := t.now) (fun m hm9 => by rw [List.mem_singleton] at hm9; rw [hm9]; exact Agr.refl _ _) (Agr.refl _ _) hr hops
  have hn := writes_now _ ht.free hr (fun o ho => ⟨(hops o ho).1, (hops o ho).2.1, (hops o ho).2.2.1⟩)
  rw [map_wrO] at hn
  have hl := hkeep _ hw.2
  have hs := sync_clean (fin_free ((lkP t.now).map wrO) ht.free)
  rw [hn] at hl hs
  refine ⟨Cuts.sync ht.free (fun i hi c => hkeep _ (hw.1 i hi c)) (by rw [hn]; exact hl), ?_, ?_, hl⟩
  · rw [fin_append]; exact hs.2
  · rw [fin_append]; exact hs.1
theorem rec_fin {t : DS} (ht : Clean t) (hr : (t.now.length : Int) ≤ t.room) :
    (∀ o ∈ opsR t.now, Fit t.room o) ∧ (fin t (opsR t.now)).now = (lkV t.now).2 ∧ Clean (fin t (opsR t.now)) := by
  rcases look_cases t.now with ⟨h1, h2, _⟩ | ⟨h1, h2, h3, h4⟩ | ⟨h1, h2, h3, h4, h5, h6, h7⟩
  · have e : opsR t.now = [] := by unfold opsR; rw [if_pos h1]
    rw [e, h2]
    exact ⟨by simp, rfl, ht⟩
  · have e : opsR t.now = [(3, (lkV t.now).1.2.2, []), syO] := by unfold opsR; rw [if_neg (by omega), if_neg (by omega)]; rfl
    obtain ⟨k1, k2, k3⟩ := tr_phase ht h2 h3 (by omega)
    rw [e, h4]
    refine ⟨fun o ho => ?_, k2, k3⟩
    rcases List.mem_cons.1 ho with rfl | ho
    · exact .inr (.inl ⟨rfl, h2, by show (lkV t.now).1.2.2 ≤ _; omega⟩)
    · rw [List.mem_singleton] at ho; subst ho; exact .inr (.inr rfl)
  · have e : opsR t.now = ((lkP t.now).map wrO ++ [syO]) ++ [(3, lkZ t.now, []), syO] := by unfold opsR; rw [if_neg (by omega), if_pos h1, h4]
    obtain ⟨a1, a2, a3, a4⟩ := armed_phase ht hr h2 h3
    have hroom := fin_room ((lkP t.now).map wrO ++ [syO]) t
    obtain ⟨k1, k2, k3⟩ := tr_phase a3 h5 (by rw [a2, putPs_len]; exact h6) (by rw [hroom]; omega)
    have hm := lk_mem h2
    rw [e, h7]
    refine ⟨fun o ho => ?_, ?_, ?_⟩
    · rcases List.mem_append.1 ho with ho | ho
      · rcases List.mem_append.1 ho with ho | ho
        · obtain ⟨p, hp, rfl⟩ := List.mem_map.1 ho
          have h9 := hm p hp
          exact .inl ⟨rfl, by show 0 ≤ (p.1 : Int); omega, by show (p.1 : Int) + (p.2.length : Int) ≤ _; omega⟩
        · rw [List.mem_singleton] at ho; subst ho; exact .inr (.inr rfl)
      · rcases List.mem_cons.1 ho with rfl | ho
        · exact .inr (.inl ⟨rfl, h5, by show lkZ t.now ≤ _; omega⟩)
        · rw [List.mem_singleton] at ho; subst ho; exact .inr (.inr rfl)
    · rw [fin_append, k2, a2]; exact putPs_take _ (by omega)
    · rw [fin_append]; exact k3
theorem rec_cuts {t : DS} (ht : Clean t) (hr : (t.now.length : Int) ≤ t.room) (hq : (lkV (lkV t.now).2).1.1 = 0) :
    Cuts t (opsR t.now) (fun im => (lkV im).2 = (lkV t.now).2) := by
  have hq2 : (lkV (lkV t.now).2).2 = (lkV t.now).2 := by rw [(quiet_self hq).1]
  rcases look_cases t.now with ⟨h1, h2, _⟩ | ⟨h1, h2, h3, h4⟩ | ⟨h1, h2, h3, h4, h5, h6, h7⟩
  · have e : opsR t.now = [] := by unfold opsR; rw [if_pos h1]
    rw [e]
    exact Cuts.none fun c => by rw [clean_out ht]
  · have e : opsR t.now = [(3, (lkV t.now).1.2.2, []), syO] := by unfold opsR; rw [if_neg (by omega), if_neg (by omega)]; rfl
    obtain ⟨k1, k2, k3⟩ := tr_phase ht h2 h3 (by omega)
    rw [e]
    intro i hi c
    rcases k1 i hi c with h | h
    · rw [h]
    · rw [h, ← h4]; exact hq2
  · have e : opsR t.now = ((lkP t.now).map wrO ++ [syO]) ++ [(3, lkZ t.now, []), syO] := by unfold opsR; rw [if_neg (by omega), if_pos h1, h4]
    obtain ⟨a1, a2, a3, a4⟩ := armed_phase ht hr h2 h3
    have hroom := fin_room ((lkP t.now).map wrO ++ [syO]) t
    obtain ⟨k1, k2, k3⟩ := tr_phase a3 h5 (by rw [a2, putPs_len]; exact h6) (by rw [hroom]; omega)
    rw [e]
    refine Cuts.append (fun i hi c => by rw [a1 i hi c]) fun i hi c => ?_
    rcases k1 i hi c with h | h
    · rw [h, a2, a4]
    · rw [h, a2, putPs_take _ (by omega), ← h7]; exact hq2
theorem forged {c : List UInt8} (h : zt c < 472) : lkV c = ((0, 0, (c.length : Int)), c) := by
  refine lk_no (by omega) ?_
  cases e : seOk c with
  | false => unfold lkOk; rw [e]; rfl
  | true =>
    exfalso
    have hse := e
    unfold seOk at e
    simp only [Bool.and_eq_true, decide_eq_true_eq] at e
    obtain ⟨⟨⟨⟨⟨h1, h2⟩, _⟩, _⟩, _⟩, h6⟩ := e
    unfold decOk at h2
    simp only [Bool.and_eq_true, decide_eq_true_eq] at h2
    have hle := seAt_le h1
    have hall : ∀ x, seAt c.length + 40 ≤ x → c.getD x 0 = 0 := fun x hx => by
      by_cases hx2 : x < seAt c.length + 512
      · have h3 := seg_get c (x := x - seAt c.length) (by omega)
        rw [← h2.2, List.getD_eq_getElem?_getD, sec_z _ (by omega) (by omega), show seAt c.length + (x - seAt c.length) = x by omega] at h3
        rw [← h3]; rfl
      · have h4 := zt_zeros (l := c.drop (seAt c.length + 512)) (x := x - (seAt c.length + 512)) (by rw [List.length_drop]; omega)
        rw [getD_drop, show seAt c.length + 512 + (x - (seAt c.length + 512)) = x by omega] at h4
        exact h4
    have := zt_ge hall
    omega
end Vw

namespace Vw
open Go
abbrev Sp := Int × Int
def spc (old : Int) : Int → List Sp → Prop
  | _, [] => True
  | e, s :: r => e ≤ s.1 ∧ s.1 < s.2 ∧ s.2 ≤ old ∧ spc old s.2 r
theorem spc_low {old : Int} : ∀ {sp : List Sp} {e e' : Int}, e' ≤ e → spc old e sp → spc old e' sp
  | [], _, _, _, _ => trivial
  | _ :: _, _, _, h, ⟨h1, h2, h3, h4⟩ => ⟨by omega, h2, h3, h4⟩
theorem spc_take {old : Int} : ∀ {sp : List Sp} {e : Int} (i : Nat), spc old e sp → spc old e (sp.take i)
  | [], _, i, _ => by rw [List.take_nil]; trivial
  | _ :: _, _, 0, _ => trivial
  | _ :: _, _, i + 1, ⟨h1, h2, h3, h4⟩ => ⟨h1, h2, h3, spc_take i h4⟩
theorem spc_get {old : Int} : ∀ {sp : List Sp} {e : Int}, spc old e sp → ∀ {i : Nat} (hi : i < sp.length), e ≤ sp[i].1 ∧ sp[i].1 < sp[i].2 ∧ sp[i].2 ≤ old ∧ ∀ j (hj : j < i), (sp[j]'(by omega)).2 ≤ sp[i].1
  | s :: r, e, ⟨h1, h2, h3, h4⟩, 0, _ => ⟨h1, h2, h3, fun j hj => absurd hj (by omega)⟩
  | s :: r, e, ⟨h1, h2, h3, h4⟩, i + 1, hi => by
    have hi' : i < r.length := by simpa using hi
    obtain ⟨k1, k2, k3, k4⟩ := spc_get h4 hi'
    refine ⟨by show e ≤ r[i].1; omega, k2, k3, fun j hj => ?_⟩
    cases j with
    | zero => exact k1
    | succ j => exact k4 j (by omega)
theorem rgt_cons {size : Int} {z : Wr} {l : List Wr} {e : Int} (h : rgt size (z :: l) e = true) : 0 < wL z ∧ e ≤ z.1 ∧ z.1 + wL z ≤ size ∧ rgt size l (z.1 + wL z) = true := by
  unfold rgt at h
  split at h
  · cases h
  · rename_i hb
    simp only [not_or, Int.not_lt] at hb
    have hw : 0 ≤ wL z := Int.natCast_nonneg _
    exact ⟨by omega, by omega, by omega, h⟩
theorem sav_spc {old size : Int} : ∀ {ws : List Wr} {e : Int}, rgt size ws e = true → spc old e (savL old ws)
  | [], _, _ => trivial
  | z :: l, e, h => by
    obtain ⟨h1, h2, h3, h4⟩ := rgt_cons h
    have ih := sav_spc (old := old) h4
    show spc old e ((if z.1 < min old (z.1 + wL z) then [(z.1, min old (z.1 + wL z))] else []) ++ savL old l)
    split
    · rename_i hc
      refine ⟨h2, hc, Int.min_le_left _ _, ?_⟩
      exact spc_low (Int.min_le_right _ _) ih
    · exact spc_low (by omega) ih
theorem rgt_count {size : Int} : ∀ {ws : List Wr} {e : Int}, rgt size ws e = true → e ≤ size → (ws.length : Int) ≤ size - e
  | [], e, _, h => by simp; omega
  | z :: l, e, h, he => by
    obtain ⟨h1, h2, h3, h4⟩ := rgt_cons h
    have := rgt_count h4 (by omega)
    simp only [List.length_cons]
    omega
theorem sav_count (old : Int) : ∀ ws : List Wr, (savL old ws).length ≤ ws.length
  | [] => Nat.le_refl _
  | z :: l => by
    have := sav_count old l
    show ((if z.1 < min old (z.1 + wL z) then [(z.1, min old (z.1 + wL z))] else []) ++ savL old l).length ≤ _
    split <;> simp <;> omega
theorem sav_mem {old : Int} : ∀ {ws : List Wr} {z : Wr} {x : Int}, z ∈ ws → z.1 ≤ x → x < z.1 + wL z → x < old → ∃ s ∈ savL old ws, s.1 ≤ x ∧ x < s.2
  | y :: l, z, x, hz, h1, h2, h3 => by
    have e : savL old (y :: l) = (if y.1 < min old (y.1 + wL y) then [(y.1, min old (y.1 + wL y))] else []) ++ savL old l := rfl
    rcases List.mem_cons.1 hz with rfl | hz
    · rw [e, if_pos (by omega)]
      exact ⟨(z.1, min old (z.1 + wL z)), by simp, h1, by show x < min old (z.1 + wL z); omega⟩
    · obtain ⟨s, hs, h4⟩ := sav_mem hz h1 h2 h3
      exact ⟨s, by rw [e]; exact List.mem_append_right _ hs, h4⟩
def spH (s : Sp) : List UInt8 := leB 4 s.1.toNat ++ leB 4 (s.2 - s.1).toNat
def spD (c : List UInt8) (s : Sp) : List UInt8 := (c.drop s.1.toNat).take (s.2 - s.1).toNat
def bodyB (c : List UInt8) (sp : List Sp) : List UInt8 := sp.flatMap spH ++ sp.flatMap (spD c)
def lenS (sp : List Sp) : Nat := (sp.map fun s => (s.2 - s.1).toNat).sum
theorem spH_len (s : Sp) : (spH s).length = 8 := by unfold spH; rw [List.length_append, leB_len, leB_len]
theorem hd_len : ∀ sp : List Sp, (sp.flatMap spH).length = 8 * sp.length
  | [] => rfl
  | s :: r => by rw [List.flatMap_cons, List.length_append, spH_len, hd_len r, List.length_cons]; omega
theorem spD_len {c : List UInt8} {s : Sp} (h0 : 0 ≤ s.1) (h1 : s.1 < s.2) (h2 : s.2 ≤ (c.length : Int)) : (spD c s).length = (s.2 - s.1).toNat := by
  unfold spD; rw [List.length_take, List.length_drop]; omega
theorem dat_len {c : List UInt8} : ∀ {sp : List Sp} {e : Int}, 0 ≤ e → spc (c.length : Int) e sp → (sp.flatMap (spD c)).length = lenS sp
  | [], _, _, _ => rfl
  | s :: r, e, he, ⟨h1, h2, h3, h4⟩ => by
    rw [List.flatMap_cons, List.length_append, spD_len (by omega) h2 h3, dat_len (by omega) h4]; rfl
theorem lenS_le {old : Int} : ∀ {sp : List Sp} {e : Int}, spc old e sp → e ≤ old → (lenS sp : Int) ≤ old - e
  | [], e, _, h => by show ((0 : Nat) : Int) ≤ _; omega
  | s :: r, e, ⟨h1, h2, h3, h4⟩, he => by
    have := lenS_le h4 h3
    have e9 : lenS (s :: r) = (s.2 - s.1).toNat + lenS r := rfl
    rw [e9]; omega
theorem body_len {c : List UInt8} {sp : List Sp} (h : spc (c.length : Int) 0 sp) : (bodyB c sp).length = 8 * sp.length + lenS sp := by
  unfold bodyB; rw [List.length_append, hd_len, dat_len (Int.le_refl _) h]
theorem split_at {sp : List Sp} {i : Nat} (hi : i < sp.length) : sp = sp.take i ++ sp[i] :: sp.drop (i + 1) := by
  rw [← List.drop_eq_getElem_cons hi, List.take_append_drop]
theorem body_spA {c : List UInt8} {sp : List Sp} (h : spc (c.length : Int) 0 sp) (hc : c.length ≤ 16777216) {i : Nat} (hi : i < sp.length) :
    spA (bodyB c sp) i = sp[i].1.toNat ∧ spN (bodyB c sp) i = (sp[i].2 - sp[i].1).toNat := by
  obtain ⟨k1, k2, k3, _⟩ := spc_get h hi
  have e : bodyB c sp = (sp.take i).flatMap spH ++ (leB 4 sp[i].1.toNat ++ (leB 4 (sp[i].2 - sp[i].1).toNat ++ ((sp.drop (i + 1)).flatMap spH ++ sp.flatMap (spD c)))) := by
    unfold bodyB
    conv => lhs; rw [show sp.flatMap spH = (sp.take i ++ sp[i] :: sp.drop (i + 1)).flatMap spH by rw [← split_at hi]]
    rw [List.flatMap_append, List.flatMap_cons]
    simp only [spH, List.append_assoc]
  have hl : ((sp.take i).flatMap spH).length = 8 * i := by rw [hd_len, List.length_take]; omega
  constructor
  · unfold spA; rw [e]; exact rd_at hl (by omega)
  · unfold spN; rw [e, ← List.append_assoc]
    exact rd_at (by rw [List.length_append, hl, leB_len]) (by omega)
theorem lenS_succ {sp : List Sp} {i : Nat} (hi : i < sp.length) : lenS (sp.take (i + 1)) = lenS (sp.take i) + (sp[i].2 - sp[i].1).toNat := by
  unfold lenS; rw [List.take_succ_eq_append_getElem hi, List.map_append, List.sum_append]; simp
theorem body_wlk {c : List UInt8} {sp : List Sp} (h : spc (c.length : Int) 0 sp) (hc : c.length ≤ 16777216) : ∀ k, k ≤ sp.length → ∃ e, wlk (c.length : Int) (bodyB c sp) k = some (e, lenS (sp.take k)) ∧ (e = 0 ∨ ∃ j, ∃ hj : j < k, ∃ hj2 : j < sp.length, (e : Int) = sp[j].2)
  | 0, _ => ⟨0, rfl, .inl rfl⟩
  | k + 1, hk => by
    obtain ⟨e, h1, h2⟩ := body_wlk h hc k (by omega)
    have hk' : k < sp.length := by omega
    obtain ⟨a1, a2⟩ := body_spA h hc hk'
    obtain ⟨k1, k2, k3, k4⟩ := spc_get h hk'
    have he : e ≤ sp[k].1.toNat := by
      rcases h2 with rfl | ⟨j, hj, hj2, h3⟩
      · omega
      · have := k4 j hj; omega
    refine ⟨sp[k].1.toNat + (sp[k].2 - sp[k].1).toNat, ?_, .inr ⟨k, by omega, hk', by omega⟩⟩
    rw [wlk_good h1 (by rw [a1, a2]; omega), a1, a2, lenS_succ hk']
theorem body_tot {c : List UInt8} {sp : List Sp} (h : spc (c.length : Int) 0 sp) (hc : c.length ≤ 16777216) {k : Nat} (hk : k ≤ sp.length) : totB (c.length : Int) (bodyB c sp) k = lenS (sp.take k) := by
  obtain ⟨e, h1, _⟩ := body_wlk h hc k hk
  unfold totB; rw [h1]
theorem body_ok {c : List UInt8} {sp : List Sp} (h : spc (c.length : Int) 0 sp) (hc : c.length ≤ 16777216) {s : Sl} (h1 : s.2.2.1 = (c.length : Int)) (h2 : s.2.2.2.2.1 = (sp.length : Int)) (h3 : s.2.2.2.2.2.2 = crcU 0 (bodyB c sp)) : bkOk s (bodyB c sp) = true := by
  obtain ⟨e, k1, _⟩ := body_wlk h hc sp.length (Nat.le_refl _)
  rw [List.take_length] at k1
  have hl := body_len h
  unfold bkOk
  rw [h1, h2, h3, Int.toNat_natCast, k1]
  simp only [decide_true, Bool.true_and, Bool.and_eq_true, decide_eq_true_eq]
  exact ⟨by omega, by omega⟩
theorem body_bkL {c : List UInt8} {sp : List Sp} (h : spc (c.length : Int) 0 sp) (hc : c.length ≤ 16777216) {s : Sl} (h1 : s.2.2.1 = (c.length : Int)) (h2 : s.2.2.2.2.1 = (sp.length : Int)) : bkL s (bodyB c sp) sp.length = sp.map fun s => (s.1.toNat, spD c s) := by
  unfold bkL
  refine List.ext_getElem (by simp) fun i hi hi2 => ?_
  have hi' : i < sp.length := by simpa using hi2
  rw [List.getElem_map, List.getElem_map, List.getElem_range]
  obtain ⟨a1, a2⟩ := body_spA h hc hi'
  obtain ⟨k1, k2, k3, _⟩ := spc_get h hi'
  rw [h1, h2, a1, a2, body_tot h hc (by omega), Int.toNat_natCast]
  congr 1
  have hsp := split_at hi'
  have hdr : (bodyB c sp).drop (8 * sp.length + lenS (sp.take i)) = (sp.flatMap (spD c)).drop (lenS (sp.take i)) := by
    unfold bodyB
    rw [← hd_len sp, List.drop_length_add_append]
  have hsc : spc (c.length : Int) 0 (sp.take i) := spc_take i h
  have hfl : sp.flatMap (spD c) = (sp.take i).flatMap (spD c) ++ (spD c sp[i] ++ (sp.drop (i + 1)).flatMap (spD c)) := by
    conv => lhs; rw [hsp]
    rw [List.flatMap_append, List.flatMap_cons]
  have hli := dat_len (Int.le_refl 0) hsc
  rw [hdr, hfl, ← hli, List.drop_left, ← spD_len (by omega) k2 k3, List.take_left]
theorem putPs_self (c : List UInt8) (sp : List Sp) (h : ∀ s ∈ sp, 0 ≤ s.1) : putPs c (sp.map fun s => (s.1.toNat, spD c s)) = c := by
  refine getD_list (putPs_len _ _) fun x hx => ?_
  rw [putPs_len] at hx
  rw [putPs_get _ _ hx]
  clear h
  induction sp with
  | nil => rfl
  | cons s r ih =>
    rw [List.map_cons, vis_cons, vis_one]
    split
    · rename_i hc
      have e : (spD c s).getD (x - s.1.toNat) 0 = c.getD x 0 := by
        have h2 : x < s.1.toNat + (spD c s).length := hc.2
        have h1 : s.1.toNat ≤ x := hc.1
        unfold spD at h2 ⊢
        rw [List.length_take] at h2
        rw [getD_take, if_pos (by omega), getD_drop, show s.1.toNat + (x - s.1.toNat) = x by omega]
      show vis (r.map _) x ((spD c s).getD (x - s.1.toNat) 0) = _
      rw [e]; exact ih
    · exact ih
end Vw

namespace Vw
open Go
def bodU (c : List UInt8) (ws : List Wr) : List UInt8 := bodyB c (savL (c.length : Int) ws)
def filU (c : List UInt8) (size : Int) (ws : List Wr) : Int := filZ (c.length : Int) size ((bodU c ws).length : Int)
def seaU (c : List UInt8) (size : Int) (ws : List Wr) : Int := filU c size ws / 512 * 512 - 512
def bplU (c : List UInt8) (size : Int) : Int := upZ (max (c.length : Int) size)
def slU (st seq : Int) (c : List UInt8) (size : Int) (ws : List Wr) : Sl := (st, seq, (c.length : Int), size, ((savL (c.length : Int) ws).length : Int), ((bodU c ws).length : Int), crcU 0 (bodU c ws))
def clmU (c : List UInt8) (seq size : Int) (ws : List Wr) : COp := (2, seaU c size ws, secS (slU 2 seq c size ws) ++ List.replicate (filU c size ws - seaU c size ws - 512).toNat 0)
def savU (c : List UInt8) (size : Int) (ws : List Wr) : List COp := if bodU c ws = [] then [] else [(2, bplU c size, bodU c ws)]
def armU (st : Int) (c : List UInt8) (seq size : Int) (ws : List Wr) : COp := (2, seaU c size ws, secS (slU st seq c size ws))
def wrsU (ws : List Wr) : List COp := ws.map fun z => (2, z.1, z.2.2.2)
def opsA (c : List UInt8) (seq size : Int) (ws : List Wr) : List COp :=
  ([clmU c seq size ws] ++ [syO]) ++ ((savU c size ws ++ [syO]) ++ (([armU 3 c seq size ws] ++ [syO]) ++ (wrsU ws ++ [syO])))
def opsU (c : List UInt8) (seq size : Int) (ws : List Wr) : List COp := opsA c seq size ws ++ ([armU 4 c seq size ws] ++ ([syO] ++ [(3, size, []), syO]))
theorem opsA_len (c : List UInt8) (seq size : Int) (ws : List Wr) : (opsA c seq size ws).length = 6 + ws.length + (if bodU c ws = [] then 0 else 1) := by
  unfold opsA savU wrsU
  split <;> simp <;> omega
theorem opsU_len (c : List UInt8) (seq size : Int) (ws : List Wr) : (opsU c seq size ws).length = (opsA c seq size ws).length + 4 := by
  unfold opsU; simp
structure UOk (c : List UInt8) (seq size : Int) (ws : List Wr) : Prop where
  sq : 0 ≤ seq ∧ seq ≤ 4294967295
  old : c.length ≤ 16777216
  siz : 0 ≤ size ∧ size ≤ 16777216
  right : rgt size ws 0 = true
structure UGeo (c : List UInt8) (size : Int) (ws : List Wr) (F bp k : Nat) : Prop where
  fil : filU c size ws = (F : Int)
  sea : seaU c size ws = (seAt F : Int)
  bpl : bplU c size = (bp : Int)
  b1 : c.length ≤ bp ∧ size ≤ (bp : Int)
  b2 : bp + (bodU c ws).length ≤ seAt F
  s1 : seAt F + 512 ≤ F
  s2 : seAt F % 512 = 0
  s3 : F < seAt F + 1024
  f1 : F = c.length + 1024 * k
  k1 : 1 ≤ k
theorem geo {c : List UInt8} {seq size : Int} {ws : List Wr} (h : UOk c seq size ws) : ∃ F bp k, UGeo c size ws F bp k := by
  have h1 := h.old
  have h2 := h.siz
  have hb : 0 ≤ ((bodU c ws).length : Int) := Int.natCast_nonneg _
  have e : ∃ k : Int, 1 ≤ k ∧ filU c size ws = (c.length : Int) + k * 1024 ∧ max (c.length : Int) size ≤ bplU c size ∧ bplU c size + ((bodU c ws).length : Int) ≤ filU c size ws / 512 * 512 - 512 ∧ 512 ≤ filU c size ws := by
    refine ⟨max 1 ((upZ (max (c.length : Int) size) + upZ ((bodU c ws).length : Int) + 512 - (c.length : Int) + 1024 - 1) / 1024), by omega, rfl, ?_⟩
    unfold filU bplU filZ
    generalize ((bodU c ws).length : Int) = n at *
    generalize (c.length : Int) = o at *
    unfold upZ
    omega
  obtain ⟨k, k1, k2, k3, k4, k5⟩ := e
  have k6 : 0 ≤ bplU c size := by omega
  refine ⟨(filU c size ws).toNat, (bplU c size).toNat, k.toNat, ?_⟩
  have hF : ((filU c size ws).toNat : Int) = filU c size ws := Int.toNat_of_nonneg (by omega)
  have hS : (seAt (filU c size ws).toNat : Int) = filU c size ws / 512 * 512 - 512 := by unfold seAt; omega
  exact ⟨hF.symm, by unfold seaU; omega, by omega, by omega, by omega, by unfold seAt; omega, by unfold seAt; omega, by unfold seAt; omega, by omega, by omega⟩
theorem slU_ok {c : List UInt8} {seq size : Int} {ws : List Wr} (h : UOk c seq size ws) {st : Int} (h1 : 2 ≤ st) (h2 : st ≤ 4) : slOk (slU st seq c size ws) = true := by
  have hs := sav_spc (old := (c.length : Int)) h.right
  have a1 := rgt_count h.right h.siz.1
  have a2 := sav_count (c.length : Int) ws
  have a3 := lenS_le hs (by omega)
  have a4 := body_len hs
  have a5 := h.old; have a6 := h.siz; have a7 := h.sq
  unfold slOk slU bodU inF
  simp only [Bool.and_eq_true, decide_eq_true_eq]
  omega
theorem crcU_lt0 (l : List UInt8) : crcU 0 l < 4294967296 := crcU_lt (s := 0) (by omega) l
section
variable {c : List UInt8} {seq size : Int} {ws : List Wr} {F bp k : Nat} {t : DS}
structure Sit (c : List UInt8) (seq size : Int) (ws : List Wr) (F : Nat) (st : Int) (l : List UInt8) : Prop where
  len : l.length = F
  sec : ∀ x, x < 512 → l.getD (seAt F + x) 0 = (secS (slU st seq c size ws)).getD x 0
  zer : ∀ x, seAt F + 512 ≤ x → l.getD x 0 = 0
theorem sit_se (hU : UOk c seq size ws) (g : UGeo c size ws F bp k) {st : Int} (h1 : 2 ≤ st) (h2 : st ≤ 4) {l : List UInt8} (s : Sit c seq size ws F st l) : seOk l = true ∧ sdS l = slU st seq c size ws := by
  have hs := slU_ok hU h1 h2
  have h3 := g.s1; have h4 := s.len; have h5 := hU.old; have h6 := hU.siz
  have hf := g.fil
  refine sit_ok hs (crcU_lt0 _) (by show (c.length : Int) ≤ _; omega) h6.2 (by omega) ?_ ?_ ?_
  · show filZ (c.length : Int) size ((bodU c ws).length : Int) = _
    rw [h4]; exact hf
  · rw [h4]; exact s.sec
  · rw [h4]; exact s.zer
theorem sit_lk2 (hU : UOk c seq size ws) (g : UGeo c size ws F bp k) {l : List UInt8} (s : Sit c seq size ws F 2 l) (hl : ∀ x, x < c.length → l.getD x 0 = c.getD x 0) :
    lkOk l = true ∧ sdS l = slU 2 seq c size ws ∧ lkZ l = (c.length : Int) ∧ lkP l = [] ∧ (lkV l).2 = c := by
  obtain ⟨h1, h2⟩ := sit_se hU g (by decide) (by decide) s
  have e1 : (sdS l).1 = 2 := by rw [h2]; rfl
  have hk : lkOk l = true := by unfold lkOk; rw [h1, e1]; rfl
  have hz : lkZ l = (c.length : Int) := by unfold lkZ; rw [if_neg (by omega), h2]; rfl
  have hp : lkP l = [] := by unfold lkP; rw [if_neg (by omega)]
  have h3 := g.b1; have h4 := g.b2; have h5 := g.s1; have h6 := s.len
  refine ⟨hk, h2, hz, hp, ?_⟩
  rw [lk_of (se_zt h1) hk, hz, hp]
  show l.take (c.length : Int).toNat = c
  rw [Int.toNat_natCast]
  refine getD_list (by rw [List.length_take]; omega) fun x hx => ?_
  rw [List.length_take] at hx
  rw [getD_take, if_pos (by omega)]; exact hl x (by omega)
theorem phase1 (hU : UOk c seq size ws) (g : UGeo c size ws F bp k) (ht : Clean t) (hc : t.now = c) (hq : (lkV c).1.1 = 0) (hr : (F : Int) ≤ t.room) :
    Cuts t ([clmU c seq size ws] ++ [syO]) (fun im => (lkV im).2 = c) ∧ Clean (fin t ([clmU c seq size ws] ++ [syO])) ∧
    Sit c seq size ws F 2 (fin t ([clmU c seq size ws] ++ [syO])).now ∧ ∀ x, x < seAt F → (fin t ([clmU c seq size ws] ++ [syO])).now.getD x 0 = c.getD x 0 := by
  have h3 := g.b1; have h4 := g.b2; have h5 := g.s1; have h6 := g.f1; have h7 := g.k1; have h8 := g.s2
  obtain ⟨D, hD⟩ : ∃ D, D = secS (slU 2 seq c size ws) ++ List.replicate (filU c size ws - seaU c size ws - 512).toNat (0 : UInt8) := ⟨_, rfl⟩
  have hop : clmU c seq size ws = (2, seaU c size ws, D) := by rw [hD]; rfl
  have e9 : (filU c size ws - seaU c size ws - 512).toNat = F - seAt F - 512 := by rw [g.fil, g.sea]; omega
  rw [e9] at hD
  have hd : D.length = F - seAt F := by rw [hD, List.length_append, secS_len, List.length_replicate]; omega
  have hsN : (seaU c size ws).toNat = seAt F := by rw [g.sea]; rfl
  have hs0 : 0 ≤ seaU c size ws := by rw [g.sea]; exact Int.natCast_nonneg _
  obtain ⟨n1, n2⟩ := wr_now ht.free (off := seaU c size ws) (d := D) hs0 (by rw [hd, g.sea]; omega)
  rw [← hop] at n1 n2
  rw [if_neg (by intro h9; rw [h9] at hd; simp at hd; omega), hd, hsN, hc] at n1
  rw [hsN, hd, hc] at n2
  obtain ⟨I, hI⟩ : ∃ I, I = (coS t (clmU c seq size ws)).2.now := ⟨_, rfl⟩
  rw [← hI] at n1 n2
  have hlen : I.length = F := by omega
  have hsec : ∀ x, x < 512 → I.getD (seAt F + x) 0 = (secS (slU 2 seq c size ws)).getD x 0 := fun x hx => by
    rw [n2, if_pos (by omega), show seAt F + x - seAt F = x by omega, hD]
    simp only [List.getD_eq_getElem?_getD]
    rw [List.getElem?_append_left (by rw [secS_len]; exact hx)]
  have hlow : ∀ x, x < seAt F → I.getD x 0 = c.getD x 0 := fun x hx => by rw [n2, if_neg (by omega)]
  have hzer : ∀ x, seAt F + 512 ≤ x → I.getD x 0 = 0 := fun x hx => by
    by_cases hF : x < F
    · rw [n2, if_pos (by omega), hD]
      simp only [List.getD_eq_getElem?_getD]
      rw [List.getElem?_append_right (by rw [secS_len]; omega), secS_len, List.getElem?_replicate]
      split <;> rfl
    · exact getD_far (by omega)
  have hsit : Sit c seq size ws F 2 I := ⟨hlen, hsec, hzer⟩
  obtain ⟨_, _, _, _, l2⟩ := sit_lk2 hU g hsit (fun x hx => hlow x (by omega))
  have hqz := quiet_self hq
  have hsy := sync_clean (co_free ht.free (clmU c seq size ws))
  rw [← hI] at hsy
  have hn : (fin t ([clmU c seq size ws] ++ [syO])).now = I := hsy.2
  refine ⟨Cuts.sync ht.free (Cuts.one (fun ch => by rw [clean_out ht, hc, hqz.1]) fun ch => ?_) (by show (lkV (coS t (clmU c seq size ws)).2.now).2 = c; rw [← hI]; exact l2), hsy.1, by rw [hn]; exact hsit, by rw [hn]; exact hlow⟩
  have hm := torn_out (torn_wr (torn_clean ht) ht.free (o := clmU c seq size ws) rfl) ch
  rw [← hI, hc] at hm
  generalize outS (coS t (clmU c seq size ws)).2 ch = im at hm
  obtain ⟨⟨m1, m2, m3⟩, m4⟩ := hm
  by_cases hil : im.length = c.length
  · have : im = c := getD_list hil fun x hx => by
      obtain ⟨m, k1, k2⟩ := m4 (x / 512)
      rw [k2 x rfl hx]
      rcases List.mem_append.1 k1 with k1 | k1
      · rw [List.mem_singleton] at k1; rw [k1]
      · rw [List.mem_singleton] at k1; rw [k1]; exact hlow x (by omega)
    rw [this, hqz.1]
  · have hiF : im.length = F := by
      rcases List.mem_append.1 m2 with k1 | k1
      · rw [List.mem_singleton] at k1; rw [k1] at m3; omega
      · rw [List.mem_singleton] at k1; rw [k1] at m3; omega
    have hmx : Mix [ext c F, I] im := by
      refine ⟨⟨I, by simp, by omega⟩, fun sec => ?_⟩
      obtain ⟨m, k1, k2⟩ := m4 sec
      rcases List.mem_append.1 k1 with k1 | k1
      · rw [List.mem_singleton] at k1
        exact ⟨ext c F, by simp, fun x h1 h2 => by rw [k2 x h1 h2, k1, getD_ext]⟩
      · rw [List.mem_singleton] at k1
        exact ⟨I, by simp, fun x h1 h2 => by rw [k2 x h1 h2, k1]⟩
    rcases mix_two (k := seAt F / 512) (by rw [ext_length]; omega) (fun x hx => by
      rw [getD_ext]
      by_cases c1 : x < seAt F
      · exact (hlow x c1).symm
      · rw [hzer x (by omega), getD_far (by omega)]) hmx with h | h
    · rw [lk_longer h7 hqz.2 (by omega) (fun x => by rw [h, getD_ext])]
    · rw [h]; exact l2
theorem phase2 (hU : UOk c seq size ws) (g : UGeo c size ws F bp k) (ht : Clean t) (hr : (F : Int) ≤ t.room) (hs : Sit c seq size ws F 2 t.now) (hlow : ∀ x, x < seAt F → t.now.getD x 0 = c.getD x 0) :
    Cuts t (savU c size ws ++ [syO]) (fun im => (lkV im).2 = c) ∧ Clean (fin t (savU c size ws ++ [syO])) ∧
    Sit c seq size ws F 2 (fin t (savU c size ws ++ [syO])).now ∧ (∀ x, x < bp → (fin t (savU c size ws ++ [syO])).now.getD x 0 = c.getD x 0) ∧
    ∀ x, x < (bodU c ws).length → (fin t (savU c size ws ++ [syO])).now.getD (bp + x) 0 = (bodU c ws).getD x 0 := by
  have h3 := g.b1; have h4 := g.b2; have h5 := g.s1; have h6 := g.f1
  obtain ⟨k1, k2, k3, k4, k5⟩ := sit_lk2 hU g hs (fun x hx => hlow x (by omega))
  have e1 : (sdS t.now).1 = 2 := by rw [k2]; rfl
  have hkeep : ∀ im, Agr t.now (fun x => bp ≤ x ∧ x < bp + (bodU c ws).length) im → (lkV im).2 = c := fun im ha => by
    rw [(lk_keep k1 ha (fun x hx => by rw [hs.len]; omega) (fun x hx h9 => by rw [k3] at h9; omega) (fun h9 => absurd h9 (by omega))).1]; exact k5
  by_cases hb : bodU c ws = []
  · have e : savU c size ws = [] := by unfold savU; rw [if_pos hb]
    rw [e]
    have hsy := sync_clean ht.free
    have hn : (fin t ([] ++ [syO])).now = t.now := hsy.2
    refine ⟨Cuts.sync ht.free (Cuts.none fun ch => by rw [clean_out ht]; exact k5) k5, hsy.1, by rw [hn]; exact hs, by rw [hn]; exact fun x hx => hlow x (by omega), fun x hx => ?_⟩
    rw [hb] at hx; exact absurd hx (by simp)
  · have e : savU c size ws = [(2, bplU c size, bodU c ws)] := by unfold savU; rw [if_neg hb]
    rw [e]
    have hbp := g.bpl
    have hw := writes_cut [(2, bplU c size, bodU c ws)] (torn_clean ht) ht.free (W := fun x => bp ≤ x ∧ x < bp + (bodU c ws).length) (base := t.now) (fun m hm9 => by rw [List.mem_singleton] at hm9; rw [hm9]; exact Agr.refl _ _) (Agr.refl _ _) (by rw [hs.len]; exact hr) (fun o ho => by
      rw [List.mem_singleton] at ho; subst ho
      refine ⟨rfl, by show 0 ≤ bplU c size; omega, by show (bplU c size).toNat + (bodU c ws).length ≤ _; rw [hs.len]; omega, fun y a1 a2 => ?_⟩
      have a1 : (bplU c size).toNat ≤ y := a1
      have a2 : y < (bplU c size).toNat + (bodU c ws).length := a2
      exact ⟨by omega, by omega⟩)
    obtain ⟨n1, n2⟩ := wr_now ht.free (off := bplU c size) (d := bodU c ws) (by omega) (by omega)
    have hsy := sync_clean (co_free ht.free (2, bplU c size, bodU c ws))
    have hn : (fin t ([(2, bplU c size, bodU c ws)] ++ [syO])).now = (coS t (2, bplU c size, bodU c ws)).2.now := hsy.2
    have hbN : (bplU c size).toNat = bp := by rw [hbp]; rfl
    rw [hbN] at n2
    have hag := hw.2
    have hag : Agr t.now (fun x => bp ≤ x ∧ x < bp + (bodU c ws).length) (coS t (2, bplU c size, bodU c ws)).2.now := hag
    refine ⟨Cuts.sync ht.free (fun i hi ch => hkeep _ (hw.1 i hi ch)) (hkeep _ hw.2), hsy.1, ?_, ?_, ?_⟩
    · rw [hn]
      exact ⟨hag.1.trans hs.len, fun x hx => by rw [hag.2 _ (by omega)]; exact hs.sec x hx, fun x hx => by rw [hag.2 _ (by omega)]; exact hs.zer x hx⟩
    · rw [hn]; exact fun x hx => by rw [hag.2 _ (by omega)]; exact hlow x (by omega)
    · rw [hn]; exact fun x hx => by rw [n2, if_pos (by omega), show bp + x - bp = x by omega]
theorem phase_seal (hU : UOk c seq size ws) (g : UGeo c size ws F bp k) (ht : Clean t) (hr : (F : Int) ≤ t.room) {st st' : Int} (hs : Sit c seq size ws F st t.now) :
    (∀ ch, outS (coS t (armU st' c seq size ws)).2 ch = t.now ∨ outS (coS t (armU st' c seq size ws)).2 ch = (coS t (armU st' c seq size ws)).2.now) ∧
    Sit c seq size ws F st' (coS t (armU st' c seq size ws)).2.now ∧ ∀ x, x < seAt F → (coS t (armU st' c seq size ws)).2.now.getD x 0 = t.now.getD x 0 := by
  have h4 := g.b2; have h5 := g.s1; have h8 := g.s2
  have hsea := g.sea
  have hd := secS_len (slU st' seq c size ws)
  have hsN : (seaU c size ws).toNat = seAt F := by rw [hsea]; rfl
  obtain ⟨n1, n2⟩ := wr_now ht.free (off := seaU c size ws) (d := secS (slU st' seq c size ws)) (by omega) (by rw [hd]; omega)
  have hop : armU st' c seq size ws = (2, seaU c size ws, secS (slU st' seq c size ws)) := rfl
  rw [← hop] at n1 n2
  rw [if_neg (by intro h9; rw [h9] at hd; simp at hd), hd, hs.len, hsN] at n1
  rw [hd, hsN] at n2
  have hl : (coS t (armU st' c seq size ws)).2.now.length = F := by omega
  refine ⟨fun ch => ?_, ⟨hl, fun x hx => by rw [n2, if_pos (by omega), show seAt F + x - seAt F = x by omega], fun x hx => by rw [n2, if_neg (by omega)]; exact hs.zer x hx⟩, fun x hx => by rw [n2, if_neg (by omega)]⟩
  exact mix_two (k := seAt F / 512) (by rw [hl, hs.len]) (fun x hx => by rw [n2, if_neg (by omega)]) (torn_out (torn_wr (torn_clean ht) ht.free (o := armU st' c seq size ws) rfl) ch)
end
end Vw

namespace Vw
open Go
section
variable {P : Program} {ρ : Operand → Value} {K : Value → World → Prop} {w : World}
variable {d : Option Nat} {ty : TypeId} {pos : String} {after : Array Edge} {g : Option (Nat × Bool)}
theorem x_makeFunc {fn : Fn} {xs : List Operand} {vs : List Value} (hx : xs.toArray.map ρ = vs.toArray) (w : World) :
    (execOp ρ ⟨d, .makeFunc fn xs.toArray #[], ty, pos, after, g⟩).run P w = .ok (.value (.func fn vs.toArray #[])) w := by
  simp only [execOp, Instr.makeFunc, hx, Sem.run_bind, Sem.run_pure, Result.andThen_ok, List.map_toArray]
  rfl
theorem y_callF {t : Array TypeId} {f : FuncId} {x : Operand} {u : Value} (hfn : ρ x = .func (.func f) #[u] #[])
    (hc : ∀ vs w, (callFunc f vs).run P w = .ok (.enter f vs) w) (h : Calls P f #[u] w fun e w' => ∃ v, e = .returned v ∧ K v w') :
    Does P ρ ⟨d, .call ⟨.value x, #[], t⟩, ty, pos, after, g⟩ w K := by
  refine .enter (f := f) (args := #[u]) (w' := w) ?_ h
  simp [execOp, resolve, invoke, go_sem, hfn, Deferred.ofValue, hc]
theorem y_appendZ0 {t tn e n c by_ : Nat} {z : Value} {x y : Operand} {b : Option Addr} {kq kn : IntKind} {ni : Int} (ht : SlT P t e 1 by_ z) (htn : P.underlying tn = some (.int kn))
    (hx : ρ x = .slice b n c) (hy : ρ y = .int kq ni) (hni : ni = 0) (hnc : n ≤ c) (h : K (.slice b n c) w) :
    Does P ρ ⟨d, .call ⟨.builtin .append, #[x, y], #[t, tn]⟩, ty, pos, after, g⟩ w K := by
  subst hni
  obtain ⟨i, h4, h5, h6, h7⟩ := ht.info
  have hrun : (Builtin.append_ #[t, tn] ty #[.slice b n c, .int kq 0]).run P w = .ok (.slice b n c) w := by
    have hw : IntKind.i64.wrap 0 = 0 := by decide
    cases b <;> simp [Builtin.append_, run_underlying ht.und, run_underlying htn, Go.sizeOf, typeInfo, h4, h5, asInt, asIntOf, hw, hnc, storeCells, go_sem]
  refine .value (v := .slice b n c) (w' := w) ?_ h
  simp only [execOp, resolve, invoke, builtin, Sem.run_bind, Sem.run_pure, Result.andThen_ok, List.map_toArray, List.map_cons, List.map_nil, hx, hy, hrun]
end
theorem co_tr (s : DS) (n : Int) : coS s (3, n, []) = trS s n := chS_3 (o := dO (3, n, [])) rfl
theorem co_wr (s : DS) (off : Int) (d : List UInt8) : coS s (2, off, d) = wrS s off d := chS_2 (o := dO (2, off, d)) rfl
theorem co_sy (s : DS) : coS s syO = syS s := chS_4 (o := dO syO) rfl
theorem runS_one (s : DS) (o : COp) : runS s [o] = coS s o := runS_snoc (s := s) (x := []) rfl o
theorem runS2_bad {s : DS} {o o' : COp} (h : (coS s o).1 ≠ 0) : runS s [o, o'] = coS s o := by rw [runS_cons, if_neg h]
theorem runS2_ok {s : DS} {o o' : COp} (h : (coS s o).1 = 0) : runS s [o, o'] = coS (coS s o).2 o' := by rw [runS_cons, if_pos h, runS_one]
theorem coS_ok {s : DS} (h : DOk s) (o : COp) : DOk (coS s o).2 := chS_ok h _
theorem coS_b {s : DS} (ho : DOk s) {k : Nat} (h : DB s k) (o : COp) : DB (coS s o).2 (k + 1) := chS_b ho h _
theorem wrsU_succ {ws : List Wr} {i : Nat} (h : i < ws.length) : wrsU (ws.take (i + 1)) = wrsU (ws.take i) ++ [(2, ws[i].1, ws[i].2.2.2)] := by
  unfold wrsU; rw [List.take_succ_eq_append_getElem h, List.map_append]; rfl
theorem wrsU_split {ws : List Wr} {i : Nat} (h : i ≤ ws.length) : wrsU ws = wrsU (ws.take i) ++ wrsU (ws.drop i) := by
  unfold wrsU; rw [← List.map_append, List.take_append_drop]
def runF (dv : Value) (old size : Int) (wv : Value) (s : Sl) (bv : Value) (bp se fi : Int) : List Value :=
  [dv, .int .i64 old, .int .i64 size, wv, .int .i64 s.1, .int .i64 s.2.1, .int .i64 s.2.2.1, .int .i64 s.2.2.2.1, .int .i64 s.2.2.2.2.1, .int .i64 s.2.2.2.2.2.1, .int .u32 (s.2.2.2.2.2.2 : Int), bv, .int .i64 bp, .int .i64 se, .int .i64 fi]
def fnV (pv : Value) (f : Nat) : Value := .func (.func f) #[pv] #[]
end Vw

namespace Vw
open Go
section
variable {P : Program} {ρ : Operand → Value} {K : Value → World → Prop} {w : World}
variable {d : Option Nat} {ty : TypeId} {pos : String} {after : Array Edge} {g : Option (Nat × Bool)}
variable {σ : Sig} {L L' R : List Asrt}
theorem y_storeMid {t n o : Nat} {x y : Operand} {b T : Nat} {cs vs : List Value} (hs : St σ w L) (ht : (P.info? t).map (·.size) = some n) (hx : ρ x = .pointer (some ⟨b, o, none⟩)) (hy : ρ y = .agg cs.toArray)
    (h1 : ∀ v ∈ cs, v.oneCell' = true) (hn : cs.length = n) (hv : o + n ≤ vs.length) (u : Up (cb b T vs) (cb b T (vs.take o ++ cs ++ vs.drop (o + cs.length))) L L') (h : ∀ w', St σ w' L' → K undef w') :
    Does P ρ ⟨d, .store t x y, ty, pos, after, g⟩ w K := by
  obtain ⟨R, t1, t2⟩ := u.takes
  have hs1 := hs.take t1
  have hb := hs1.head
  have hthere : w.there b o cs.toArray.size := fun j hj => by
    have hj' : o + j < vs.length := by simp at hj; omega
    refine ⟨?_, frozen_of_row w b _ _ T hb⟩
    rw [cell_of_row w b _ _ T (0, 0) hb]
    simp [hj']
  refine .skip (w' := w.setCells b o cs) ?_ (h _ ?_)
  · have := run_storeAt_mid (P := P) w b o t cs.toArray hthere (by simpa [hn] using ht) (all_oneCell_toArray h1)
    simp only [execOp, hx, hy, Sem.run_bind, this, Result.andThen_ok, Sem.run_pure]
  · have := St.setCells cs vs o w hs1 (by omega)
    exact this.give t2
end
theorem lonZ_eq {old : Int} : ∀ {sp : List Sp} {e : Int}, spc old e sp → lonZ sp = ((8 * sp.length + lenS sp : Nat) : Int)
  | [], _, _ => rfl
  | s :: r, e, ⟨h1, h2, h3, h4⟩ => by
    have ih := lonZ_eq h4
    have e1 : lonZ (s :: r) = 8 + s.2 - s.1 + lonZ r := by unfold lonZ; simp
    have e2 : lenS (s :: r) = (s.2 - s.1).toNat + lenS r := rfl
    rw [e1, ih, e2, List.length_cons]
    omega
theorem num4 {data : List UInt8} {lim v : Int} (h0 : 0 ≤ v) (h1 : v ≤ 4294967295) (hl : (data.length : Int) + 4 ≤ lim) : numB data lim 0 v 4 = (data ++ leB 4 v.toNat, 0) := by
  unfold numB
  rw [if_neg (by simp), if_neg (by rw [show (((256 ^ 4 : Nat)) : Int) = 4294967296 by decide]; omega), if_neg (by omega)]
theorem txt0 {data s : List UInt8} {lim : Int} (hl : (data.length : Int) + s.length ≤ lim) : txtB data lim 0 s = (data ++ s, 0) := by
  unfold txtB
  rw [if_neg (by simp), if_neg (by omega)]
theorem takeB0 (data : List UInt8) : takeB data 0 = data := by unfold takeB; rw [if_neg (by simp)]
theorem flat_succ {α : Type} {f : α → List UInt8} {l : List α} {i : Nat} (h : i < l.length) : (l.take (i + 1)).flatMap f = (l.take i).flatMap f ++ f l[i] := by
  rw [List.take_succ_eq_append_getElem h, List.flatMap_append]; simp
def refE (s : DS) (seq size : Int) (ws : List Wr) : Int :=
  if seq < 0 ∨ 4294967295 < seq ∨ ¬ (0 ≤ size ∧ size ≤ 16777216) then 1 else if s.dead = true then 12 else if aplE s.now.length size ws ≠ 0 then aplE s.now.length size ws
  else if (lkV s.now).1.1 ≠ 0 ∨ (lkV (aplR s.now size ws)).1.1 ≠ 0 then 141 else if s.room < filU s.now size ws then 142 else 0
def updR (s : DS) (seq size : Int) (ws : List Wr) : Int × DS := if refE s seq size ws ≠ 0 then (refE s seq size ws, s) else runS s (opsU s.now seq size ws)
end Vw

namespace Vw
open Go
section
variable {c : List UInt8} {seq size : Int} {ws : List Wr} {F bp k : Nat} {t : DS}
attribute [local irreducible] Vw.sdS Vw.zt Vw.bkL Vw.upZ Vw.filZ Vw.bkOk Vw.decOk Vw.putPs Vw.segS Vw.lkV Vw.seOk Vw.bodyB
def pcU (ws : List Wr) : List Pc := ws.map fun z => (z.1.toNat, z.2.2.2)
def newU (c : List UInt8) (size : Int) (ws : List Wr) : List UInt8 := putPs (baseW c size.toNat) (pcU ws)
theorem sit_lk3 (hU : UOk c seq size ws) (g : UGeo c size ws F bp k) {l : List UInt8} (s : Sit c seq size ws F 3 l) (hl : ∀ x, x < c.length → l.getD x 0 = c.getD x 0)
    (hb : ∀ x, x < (bodU c ws).length → l.getD (bp + x) 0 = (bodU c ws).getD x 0) :
    lkOk l = true ∧ sdS l = slU 3 seq c size ws ∧ lkZ l = (c.length : Int) ∧ lkP l = (savL (c.length : Int) ws).map (fun s => (s.1.toNat, spD c s)) ∧ (lkV l).2 = c := by
  obtain ⟨h1, h2⟩ := sit_se hU g (by decide) (by decide) s
  have e1 : (sdS l).1 = 3 := by rw [h2]; rfl
  have h3 := g.b1; have h4 := g.b2; have h5 := g.s1; have h6 := s.len; have h7 := g.bpl
  have hsp := sav_spc (old := (c.length : Int)) hU.right
  have hbl : bodyS l = bodyB c (savL (c.length : Int) ws) := by
    have e9 : bodyS l = (l.drop bp).take (bodU c ws).length := by
      unfold bodyS
      rw [h2]
      show (l.drop (upZ (max (c.length : Int) size)).toNat).take ((bodU c ws).length : Int).toNat = _
      rw [show upZ (max (c.length : Int) size) = (bp : Int) from h7]
      rfl
    rw [e9]
    show _ = bodU c ws
    refine getD_list (by rw [List.length_take, List.length_drop]; omega) fun x hx => ?_
    rw [List.length_take, List.length_drop] at hx
    rw [getD_take, if_pos (by omega), getD_drop]; exact hb x (by omega)
  have hbo : bkOk (sdS l) (bodyS l) = true := by
    rw [hbl, h2]; exact body_ok hsp hU.old rfl rfl rfl
  have hk : lkOk l = true := by unfold lkOk; rw [h1, hbo]; simp
  have hz : lkZ l = (c.length : Int) := by unfold lkZ; rw [if_neg (by omega), h2]; rfl
  have hp : lkP l = (savL (c.length : Int) ws).map (fun s => (s.1.toNat, spD c s)) := by
    unfold lkP
    rw [if_pos e1, hbl, h2]
    show bkL (slU 3 seq c size ws) _ (((savL (c.length : Int) ws).length : Int)).toNat = _
    rw [Int.toNat_natCast]
    exact body_bkL hsp hU.old rfl rfl
  refine ⟨hk, h2, hz, hp, ?_⟩
  rw [lk_of (se_zt h1) hk, hz, hp]
  show putPs (l.take (c.length : Int).toNat) _ = c
  rw [Int.toNat_natCast]
  have e8 : l.take c.length = c := by
    refine getD_list (by rw [List.length_take]; omega) fun x hx => ?_
    rw [List.length_take] at hx
    rw [getD_take, if_pos (by omega)]; exact hl x (by omega)
  rw [e8]
  refine putPs_self c _ fun s hs => ?_
  obtain ⟨i, hi, rfl⟩ := List.getElem_of_mem hs
  exact (spc_get hsp hi).1
theorem phase3 (hU : UOk c seq size ws) (g : UGeo c size ws F bp k) (ht : Clean t) (hr : (F : Int) ≤ t.room) (hs : Sit c seq size ws F 2 t.now) (hlow : ∀ x, x < bp → t.now.getD x 0 = c.getD x 0)
    (hb : ∀ x, x < (bodU c ws).length → t.now.getD (bp + x) 0 = (bodU c ws).getD x 0) :
    Cuts t ([armU 3 c seq size ws] ++ [syO]) (fun im => (lkV im).2 = c) ∧ Clean (fin t ([armU 3 c seq size ws] ++ [syO])) ∧
    Sit c seq size ws F 3 (fin t ([armU 3 c seq size ws] ++ [syO])).now ∧ (∀ x, x < bp → (fin t ([armU 3 c seq size ws] ++ [syO])).now.getD x 0 = c.getD x 0) ∧
    ∀ x, x < (bodU c ws).length → (fin t ([armU 3 c seq size ws] ++ [syO])).now.getD (bp + x) 0 = (bodU c ws).getD x 0 := by
  have h3 := g.b1; have h4 := g.b2
  obtain ⟨p1, p2, p3⟩ := phase_seal (st' := 3) hU g ht hr hs
  have hsy := sync_clean (co_free ht.free (armU 3 c seq size ws))
  have hn : (fin t ([armU 3 c seq size ws] ++ [syO])).now = (coS t (armU 3 c seq size ws)).2.now := hsy.2
  have hl2 : ∀ x, x < bp → (coS t (armU 3 c seq size ws)).2.now.getD x 0 = c.getD x 0 := fun x hx => by rw [p3 x (by omega)]; exact hlow x hx
  have hb2 : ∀ x, x < (bodU c ws).length → (coS t (armU 3 c seq size ws)).2.now.getD (bp + x) 0 = (bodU c ws).getD x 0 := fun x hx => by rw [p3 _ (by omega)]; exact hb x hx
  have k0 := (sit_lk2 hU g hs (fun x hx => hlow x (by omega))).2.2.2.2
  have k1 := (sit_lk3 hU g p2 (fun x hx => hl2 x (by omega)) hb2).2.2.2.2
  refine ⟨Cuts.sync ht.free (Cuts.one (fun ch => by rw [clean_out ht]; exact k0) fun ch => ?_) k1, hsy.1, by rw [hn]; exact p2, by rw [hn]; exact hl2, by rw [hn]; exact hb2⟩
  rcases p1 ch with h | h
  · rw [h]; exact k0
  · rw [h]; exact k1
theorem wrsU_map (h : ∀ z ∈ ws, 0 ≤ z.1) : (wrsU ws).map (fun o => (o.2.1.toNat, o.2.2)) = pcU ws := by
  unfold wrsU pcU
  rw [List.map_map]
  exact List.map_congr_left fun z _ => rfl
theorem phase4 (hU : UOk c seq size ws) (g : UGeo c size ws F bp k) (ht : Clean t) (hr : (F : Int) ≤ t.room) (hs : Sit c seq size ws F 3 t.now) (hlow : ∀ x, x < bp → t.now.getD x 0 = c.getD x 0)
    (hb : ∀ x, x < (bodU c ws).length → t.now.getD (bp + x) 0 = (bodU c ws).getD x 0) :
    Cuts t (wrsU ws ++ [syO]) (fun im => (lkV im).2 = c) ∧ Clean (fin t (wrsU ws ++ [syO])) ∧ Sit c seq size ws F 3 (fin t (wrsU ws ++ [syO])).now ∧
    (lkV (fin t (wrsU ws ++ [syO])).now).2 = c ∧ (fin t (wrsU ws ++ [syO])).now.take size.toNat = newU c size ws := by
  have h3 := g.b1; have h4 := g.b2; have h5 := g.s1; have h7 := g.bpl
  have hws := rgt_all size ws 0 (Int.le_refl _) hU.right
  obtain ⟨k1, k2, k3, k4, k5⟩ := sit_lk3 hU g hs (fun x hx => hlow x (by omega)) hb
  have hW : ∀ z ∈ ws, z.1.toNat + z.2.2.2.length ≤ bp ∧ ((z.1.toNat + z.2.2.2.length : Nat) : Int) ≤ size ∧ 0 ≤ z.1 := fun z hz => by
    have := hws z hz
    unfold wL at this
    omega
  have hkeep : ∀ im, Agr t.now (fun x => ∃ z ∈ ws, z.1.toNat ≤ x ∧ x < z.1.toNat + z.2.2.2.length) im → (lkV im).2 = c := fun im ha => by
    rw [(lk_keep k1 ha (fun x ⟨z, hz, a1, a2⟩ => by rw [hs.len]; have := hW z hz; omega) (fun x ⟨z, hz, a1, a2⟩ h9 => ?_) (fun _ x ⟨z, hz, a1, a2⟩ => ?_)).1]; exact k5
    · rw [k3] at h9
      obtain ⟨s, hs9, s1, s2⟩ := sav_mem (old := (c.length : Int)) (x := (x : Int)) hz (by have := hW z hz; omega) (by unfold wL; have := hW z hz; omega) (by omega)
      rw [k4]
      refine ⟨(s.1.toNat, spD c s), List.mem_map_of_mem hs9, by show s.1.toNat ≤ x; omega, ?_⟩
      obtain ⟨i, hi, rfl⟩ := List.getElem_of_mem hs9
      have hg := spc_get (sav_spc (old := (c.length : Int)) hU.right) hi
      show x < (savL (c.length : Int) ws)[i].1.toNat + (spD c (savL (c.length : Int) ws)[i]).length
      rw [spD_len (by omega) hg.2.1 hg.2.2.1]
      omega
    · rw [k2]
      show ¬ ((upZ (max (c.length : Int) size)).toNat ≤ x ∧ _)
      rw [show upZ (max (c.length : Int) size) = (bp : Int) from h7, Int.toNat_natCast]
      have := hW z hz; omega
  have hops : ∀ o ∈ wrsU ws, o.1 = 2 ∧ 0 ≤ o.2.1 ∧ o.2.1.toNat + o.2.2.length ≤ t.now.length ∧ ∀ y, o.2.1.toNat ≤ y → y < o.2.1.toNat + o.2.2.length → ∃ z ∈ ws, z.1.toNat ≤ y ∧ y < z.1.toNat + z.2.2.2.length := fun o ho => by
    obtain ⟨z, hz, rfl⟩ := List.mem_map.1 ho
    have := hW z hz
    exact ⟨rfl, this.2.2, by show z.1.toNat + z.2.2.2.length ≤ _; rw [hs.len]; omega, fun y a1 a2 => ⟨z, hz, a1, a2⟩⟩
  have hw := writes_cut _ (torn_clean ht) ht.free (W := fun x => ∃ z ∈ ws, z.1.toNat ≤ x ∧ x < z.1.toNat + z.2.2.2.length) (base := t.now) (fun m hm9 => by rw [List.mem_singleton] at hm9; rw [hm9]; exact Agr.refl _ _) (Agr.refl _ _) (by rw [hs.len]; exact hr) hops
  have hn := writes_now _ ht.free (by rw [hs.len]; exact hr) (fun o ho => ⟨(hops o ho).1, (hops o ho).2.1, (hops o ho).2.2.1⟩)
  rw [wrsU_map (fun z hz => (hW z hz).2.2)] at hn
  have hsy := sync_clean (fin_free (wrsU ws) ht.free)
  have hnow : (fin t (wrsU ws ++ [syO])).now = (fin t (wrsU ws)).now := by rw [fin_append]; exact hsy.2
  have hag := hw.2
  refine ⟨Cuts.sync ht.free (fun i hi ch => hkeep _ (hw.1 i hi ch)) (hkeep _ hag), by rw [fin_append]; exact hsy.1, ?_, by rw [hnow]; exact hkeep _ hag, ?_⟩
  · rw [hnow]
    refine ⟨hag.1.trans hs.len, fun x hx => ?_, fun x hx => ?_⟩
    · rw [hag.2 _ (fun ⟨z, hz, a1, a2⟩ => by have := hW z hz; omega)]; exact hs.sec x hx
    · rw [hag.2 _ (fun ⟨z, hz, a1, a2⟩ => by have := hW z hz; omega)]; exact hs.zer x hx
  · have hsz := hU.siz
    rw [hnow, hn, putPs_take _ (by rw [hs.len]; omega)]
    unfold newU
    congr 1
    refine getD_list (by rw [List.length_take, baseW_len, hs.len]; omega) fun x hx => ?_
    rw [List.length_take, hs.len] at hx
    rw [getD_take, if_pos (by omega), hlow x (by omega)]
    unfold baseW
    by_cases hxc : x < (c.take size.toNat).length
    · rw [List.getD_eq_getElem?_getD (l := _ ++ _), List.getElem?_append_left hxc, ← List.getD_eq_getElem?_getD, getD_take, if_pos (by omega)]
    · rw [List.length_take] at hxc
      rw [getD_far (l := c) (by omega), List.getD_eq_getElem?_getD, List.getElem?_append_right (by rw [List.length_take]; omega), List.getElem?_replicate]
      split <;> rfl
theorem sit_lk4 (hU : UOk c seq size ws) (g : UGeo c size ws F bp k) {l : List UInt8} (s : Sit c seq size ws F 4 l) : (lkV l).2 = l.take size.toNat := by
  obtain ⟨h1, h2⟩ := sit_se hU g (by decide) (by decide) s
  have e1 : (sdS l).1 = 4 := by rw [h2]; rfl
  have hk : lkOk l = true := by unfold lkOk; rw [h1, e1]; rfl
  have hz : lkZ l = size := by unfold lkZ; rw [if_pos e1, h2]; rfl
  have hp : lkP l = [] := by unfold lkP; rw [if_neg (by omega)]
  rw [lk_of (se_zt h1) hk, hz, hp]
  exact putPs_nil _
theorem upd_all (hU : UOk c seq size ws) (ht : Clean t) (hc : t.now = c) (hq : (lkV c).1.1 = 0) (hr : filU c size ws ≤ t.room) (hq2 : (lkV (newU c size ws)).1.1 = 0) :
    (∀ o ∈ opsU c seq size ws, Fit t.room o) ∧ Cuts t (opsA c seq size ws) (fun im => (lkV im).2 = c) ∧
    (∀ ch, (lkV (outS (fin t (opsA c seq size ws ++ [armU 4 c seq size ws])) ch)).2 = c ∨ (lkV (outS (fin t (opsA c seq size ws ++ [armU 4 c seq size ws])) ch)).2 = newU c size ws) ∧
    Cuts (fin t ((opsA c seq size ws ++ [armU 4 c seq size ws]) ++ [syO])) [(3, size, []), syO] (fun im => (lkV im).2 = newU c size ws) ∧
    Clean (fin t (opsU c seq size ws)) ∧ (fin t (opsU c seq size ws)).now = newU c size ws := by
  obtain ⟨F, bp, k, g⟩ := geo hU
  have hF : (F : Int) ≤ t.room := by rw [← g.fil]; exact hr
  have h3 := g.b1; have h4 := g.b2; have h5 := g.s1; have hsz := hU.siz
  obtain ⟨a1, a2, a3, a4⟩ := phase1 hU g ht hc hq hF
  obtain ⟨t1, ht1⟩ : ∃ t1, t1 = fin t ([clmU c seq size ws] ++ [syO]) := ⟨_, rfl⟩
  have r1 : t1.room = t.room := by rw [ht1]; exact fin_room _ _
  rw [← ht1] at a2 a3 a4
  obtain ⟨b1, b2, b3, b4, b5⟩ := phase2 hU g a2 (by rw [r1]; exact hF) a3 a4
  obtain ⟨t2, ht2⟩ : ∃ t2, t2 = fin t1 (savU c size ws ++ [syO]) := ⟨_, rfl⟩
  have r2 : t2.room = t.room := by rw [ht2, fin_room]; exact r1
  rw [← ht2] at b2 b3 b4 b5
  obtain ⟨c1, c2, c3, c4, c5⟩ := phase3 hU g b2 (by rw [r2]; exact hF) b3 b4 b5
  obtain ⟨t3, ht3⟩ : ∃ t3, t3 = fin t2 ([armU 3 c seq size ws] ++ [syO]) := ⟨_, rfl⟩
  have r3 : t3.room = t.room := by rw [ht3, fin_room]; exact r2
  rw [← ht3] at c2 c3 c4 c5
  obtain ⟨d1, d2, d3, d4, d5⟩ := phase4 hU g c2 (by rw [r3]; exact hF) c3 c4 c5
  obtain ⟨t4, ht4⟩ : ∃ t4, t4 = fin t3 (wrsU ws ++ [syO]) := ⟨_, rfl⟩
  have r4 : t4.room = t.room := by rw [ht4, fin_room]; exact r3
  rw [← ht4] at d2 d3 d4 d5
  have eA : fin t (opsA c seq size ws) = t4 := by unfold opsA; rw [fin_append, ← ht1, fin_append, ← ht2, fin_append, ← ht3, ← ht4]
  obtain ⟨e1, e2, e3⟩ := phase_seal (st' := 4) hU g d2 (by rw [r4]; exact hF) d3
  have eE : fin t (opsA c seq size ws ++ [armU 4 c seq size ws]) = (coS t4 (armU 4 c seq size ws)).2 := by rw [fin_append, eA]; rfl
  have htk : (coS t4 (armU 4 c seq size ws)).2.now.take size.toNat = newU c size ws := by
    rw [← d5]
    have hl1 := e2.len; have hl2 := d3.len
    refine getD_list (by rw [List.length_take, List.length_take, hl1, hl2]) fun x hx => ?_
    rw [List.length_take, hl1] at hx
    rw [getD_take, getD_take, e3 x (by omega)]
  have hnew := sit_lk4 hU g e2
  rw [htk] at hnew
  have hsy := sync_clean (co_free d2.free (armU 4 c seq size ws))
  obtain ⟨t5, ht5⟩ : ∃ t5, t5 = (coS (coS t4 (armU 4 c seq size ws)).2 syO).2 := ⟨_, rfl⟩
  have hsy1 : Clean t5 := by rw [ht5]; exact hsy.1
  have hsy2 : t5.now = (coS t4 (armU 4 c seq size ws)).2.now := by rw [ht5]; exact hsy.2
  have eS : fin t ((opsA c seq size ws ++ [armU 4 c seq size ws]) ++ [syO]) = t5 := by rw [fin_append, eE, ht5]; rfl
  have r5 : t5.room = t.room := by rw [← eS, fin_room]
  have hl5 : t5.now.length = F := by rw [hsy2]; exact e2.len
  obtain ⟨f1, f2, f3⟩ := tr_phase hsy1 hsz.1 (by rw [hl5]; omega) (by rw [r5]; omega)
  rw [hsy2, htk] at f1 f2
  have eU : fin t (opsU c seq size ws) = fin t5 [(3, size, []), syO] := by
    unfold opsU
    rw [← List.append_assoc, ← List.append_assoc, fin_append, eS]
  refine ⟨fun o ho => ?_, ?_, fun ch => ?_, ?_, by rw [eU]; exact f3, by rw [eU]; exact f2⟩
  · have hws := rgt_all size ws 0 (Int.le_refl _) hU.right
    have hse := g.sea; have hfi := g.fil; have hbl := g.bpl
    unfold opsU opsA savU wrsU clmU armU syO at ho
    simp only [List.mem_append, List.mem_singleton, List.mem_cons, List.mem_map, List.not_mem_nil, or_false] at ho
    rcases ho with ((rfl | rfl) | (h | rfl) | (rfl | rfl) | (⟨z, hz, rfl⟩ | rfl)) | rfl | rfl | rfl | rfl
    · left; refine ⟨rfl, by show 0 ≤ seaU c size ws; omega, ?_⟩
      show seaU c size ws + ((secS (slU 2 seq c size ws) ++ List.replicate (filU c size ws - seaU c size ws - 512).toNat 0).length : Int) ≤ _
      rw [List.length_append, secS_len, List.length_replicate]; omega
    · exact .inr (.inr rfl)
    · split at h
      · cases h
      · rw [List.mem_singleton] at h; subst h
        left; exact ⟨rfl, by show 0 ≤ bplU c size; omega, by show bplU c size + ((bodU c ws).length : Int) ≤ _; omega⟩
    · exact .inr (.inr rfl)
    · left; refine ⟨rfl, by show 0 ≤ seaU c size ws; omega, ?_⟩
      show seaU c size ws + ((secS (slU 3 seq c size ws)).length : Int) ≤ _
      rw [secS_len]; omega
    · exact .inr (.inr rfl)
    · have := hws z hz
      unfold wL at this
      left; exact ⟨rfl, this.1, by show z.1 + (z.2.2.2.length : Int) ≤ _; omega⟩
    · exact .inr (.inr rfl)
    · left; refine ⟨rfl, by show 0 ≤ seaU c size ws; omega, ?_⟩
      show seaU c size ws + ((secS (slU 4 seq c size ws)).length : Int) ≤ _
      rw [secS_len]; omega
    · exact .inr (.inr rfl)
    · right; left; exact ⟨rfl, hsz.1, by show size ≤ _; omega⟩
    · exact .inr (.inr rfl)
  · unfold opsA
    refine a1.append ?_
    rw [← ht1]
    refine b1.append ?_
    rw [← ht2]
    refine c1.append ?_
    rw [← ht3]
    exact d1
  · rw [eE]
    rcases e1 ch with h | h
    · left; rw [h]; exact d4
    · right; rw [h]; exact hnew
  · rw [eS]
    intro i hi ch
    rcases f1 i hi ch with h | h
    · rw [h]; exact hnew
    · rw [h, (quiet_self hq2).1]
end
end Vw

namespace Vw
open Go
attribute [local irreducible] Vw.sdS Vw.zt Vw.bkL Vw.upZ Vw.filZ Vw.bkOk Vw.decOk Vw.putPs Vw.segS Vw.lkV Vw.seOk Vw.bodyB
structure Idle (s : DS) : Prop where
  dead : s.dead = false
  fuse : -1 ≤ s.fuse
  pcs : s.pcs = []
  sizes : s.sizes = []
  dur : s.dur = s.now
def offS (s : DS) : DS := { s with fuse := -1 }
theorem off_same (s : DS) : Same4 s (offS s) := ⟨rfl, rfl, rfl, rfl, rfl⟩
theorem off_clean {s : DS} (h : Idle s) : Clean (offS s) := ⟨⟨h.dead, by show (-1 : Int) < 0; omega⟩, h.pcs, h.sizes, h.dur⟩
theorem idle_of {s t : DS} (h : Same4 s t) (hc : Clean t) (hd : s.dead = false) (hf : -1 ≤ s.fuse) : Idle s := ⟨hd, hf, h.pcs.trans hc.pcs, h.sizes.trans hc.sizes, h.dur.trans (hc.dur.trans h.now.symm)⟩
theorem idle_new (im : List UInt8) (room : Int) : Idle (newS im room) := ⟨rfl, by simp [newS], rfl, rfl, rfl⟩
theorem idle_fuse {s : DS} (h : Idle s) (n : Int) : Idle (fuS s n) ∧ Same4 (fuS s n) s ∧ (fuS s n).fuse = max n (-1) ∧ (fuS s n).calls = s.calls := by
  have e : fuS s n = { s with fuse := max n (-1) } := by unfold fuS; rw [if_neg (by simp [h.dead])]
  rw [e]
  exact ⟨⟨h.dead, by show -1 ≤ max n (-1); omega, h.pcs, h.sizes, h.dur⟩, ⟨rfl, rfl, rfl, rfl, rfl⟩, rfl, rfl⟩
theorem idle_out {s : DS} (h : Idle s) (c : Ch) : outS s c = s.now := by rw [out_sync h.pcs h.sizes, h.dur]
theorem foldl_appW (ws : List Wr) : ∀ l, appW l ws = putPs l (pcU ws) := by
  unfold appW putPs pcU
  induction ws with
  | nil => intro l; rfl
  | cons z r ih => intro l; exact ih _
theorem aplR_new {c : List UInt8} {size : Int} {ws : List Wr} (h : aplE c.length size ws = 0) : aplR c size ws = newU c size ws := by
  unfold aplR newU; rw [if_pos h, foldl_appW]
theorem ref_facts {s : DS} {seq size : Int} {ws : List Wr} (h : refE s seq size ws = 0) (hn : s.now.length ≤ 16777216) : UOk s.now seq size ws ∧ filU s.now size ws ≤ s.room ∧ aplE s.now.length size ws = 0 ∧ (lkV s.now).1.1 = 0 ∧ (lkV (aplR s.now size ws)).1.1 = 0 ∧ s.dead = false := by
  unfold refE at h
  split at h
  · exact absurd h (by decide)
  · rename_i h1
    split at h
    · exact absurd h (by decide)
    · rename_i hd
      split at h
      · rename_i h2; exact absurd h h2
      · rename_i h2
        split at h
        · exact absurd h (by decide)
        · rename_i h3
          split at h
          · exact absurd h (by decide)
          · rename_i h4
            have h0 : aplE s.now.length size ws = 0 := by simpa using h2
            have u : (s.now.length : Int) ≤ 16777216 ∧ (0 ≤ size ∧ size ≤ 16777216) ∧ rgt size ws 0 = true := by
              unfold aplE at h0
              split at h0
              · exact absurd h0 (by decide)
              · rename_i h5
                split at h0
                · exact absurd h0 (by decide)
                · rename_i h6
                  exact ⟨by omega, by omega, by simpa using h6⟩
            simp only [not_or, ne_eq, Classical.not_not] at h3
            exact ⟨⟨by omega, by omega, u.2.1, u.2.2⟩, by omega, h0, h3.1, h3.2, by simpa using hd⟩
theorem upd_run {s : DS} {seq size : Int} {ws : List Wr} (hi : Idle s) (hr : refE s seq size ws = 0) (hn : s.now.length ≤ 16777216) :
    (s.fuse < 0 ∨ ((opsU s.now seq size ws).length : Int) ≤ s.fuse → (updR s seq size ws).1 = 0 ∧ Idle (updR s seq size ws).2 ∧ (updR s seq size ws).2.now = aplR s.now size ws) ∧
    (0 ≤ s.fuse → s.fuse < ((opsU s.now seq size ws).length : Int) → (updR s seq size ws).1 = 12 ∧ (updR s seq size ws).2.dead = true ∧
      ∀ ch, (s.fuse ≤ ((opsA s.now seq size ws).length : Int) → (lkV (outS (updR s seq size ws).2 ch)).2 = s.now) ∧
        ((lkV (outS (updR s seq size ws).2 ch)).2 = s.now ∨ (lkV (outS (updR s seq size ws).2 ch)).2 = aplR s.now size ws) ∧
        (((opsA s.now seq size ws).length : Int) + 2 ≤ s.fuse → (lkV (outS (updR s seq size ws).2 ch)).2 = aplR s.now size ws)) := by
  obtain ⟨hU, hro, h0, hq, hq2, hd⟩ := ref_facts hr hn
  have hnew := aplR_new h0
  rw [hnew] at hq2 ⊢
  have hu : updR s seq size ws = runS s (opsU s.now seq size ws) := by unfold updR; rw [if_neg (by simp [hr])]
  rw [hu]
  have hc := off_clean hi
  obtain ⟨a1, a2, a3, a4, a5, a6⟩ := upd_all hU hc (c := s.now) rfl hq (by show _ ≤ s.room; exact hro) hq2
  have hrun := run_cut (opsU s.now seq size ws) (off_same s) hi.dead hi.fuse hc.free a1
  refine ⟨fun h => ?_, fun h1 h2 => ?_⟩
  · obtain ⟨b1, b2, b3, b4, b5⟩ := hrun.1 h
    exact ⟨b1, idle_of b2 a5 b3 b5, b2.now.trans a6⟩
  · obtain ⟨b1, b2, b3⟩ := hrun.2 h1 h2
    refine ⟨b1, b3, fun ch => ?_⟩
    rw [outS_same b2 ch]
    have hlen := opsU_len s.now seq size ws
    obtain ⟨f, hf⟩ := Int.eq_ofNat_of_zero_le h1
    rw [hf] at h2 ⊢
    rw [show (f : Int).toNat = f from Int.toNat_natCast f]
    have eU : opsU s.now seq size ws = ((opsA s.now seq size ws ++ [armU 4 s.now seq size ws]) ++ [syO]) ++ [(3, size, []), syO] := by unfold opsU; simp
    by_cases c1 : f ≤ (opsA s.now seq size ws).length
    · have e : (opsU s.now seq size ws).take f = (opsA s.now seq size ws).take f := by unfold opsU; rw [List.take_append_of_le_length c1]
      have h9 := a2 f c1 ch
      rw [e]
      exact ⟨fun _ => h9, .inl h9, fun h => absurd h (by omega)⟩
    · by_cases c2 : f = (opsA s.now seq size ws).length + 1
      · have e : (opsU s.now seq size ws).take f = opsA s.now seq size ws ++ [armU 4 s.now seq size ws] := by
          rw [eU, List.append_assoc]
          have : f = (opsA s.now seq size ws ++ [armU 4 s.now seq size ws]).length := by rw [List.length_append]; exact c2
          rw [this, List.take_left]
        rw [e]
        exact ⟨fun h => absurd h (by omega), a3 ch, fun h => absurd h (by omega)⟩
      · have e : (opsU s.now seq size ws).take f = ((opsA s.now seq size ws ++ [armU 4 s.now seq size ws]) ++ [syO]) ++ [(3, size, []), syO].take (f - ((opsA s.now seq size ws).length + 2)) := by
          have e2 : f = ((opsA s.now seq size ws ++ [armU 4 s.now seq size ws]) ++ [syO]).length + (f - ((opsA s.now seq size ws).length + 2)) := by simp only [List.length_append, List.length_singleton]; omega
          rw [eU]
          conv => lhs; rw [e2]
          rw [List.take_length_add_append]
        have h9 := a4 (f - ((opsA s.now seq size ws).length + 2)) (by simp; omega) ch
        rw [← fin_append] at h9
        rw [e]
        exact ⟨fun h => absurd h (by omega), .inr h9, fun _ => h9⟩
theorem rec_run {s : DS} (hi : Idle s) (hn : (s.now.length : Int) ≤ s.room) :
    (s.fuse < 0 ∨ ((opsR s.now).length : Int) ≤ s.fuse → (runS s (opsR s.now)).1 = 0 ∧ Idle (runS s (opsR s.now)).2 ∧ (runS s (opsR s.now)).2.now = (lkV s.now).2 ∧ (runS s (opsR s.now)).2.calls = s.calls + (opsR s.now).length) ∧
    (0 ≤ s.fuse → s.fuse < ((opsR s.now).length : Int) → (runS s (opsR s.now)).1 = 12 ∧ (runS s (opsR s.now)).2.dead = true ∧
      ((lkV (lkV s.now).2).1.1 = 0 → ∀ ch, (lkV (outS (runS s (opsR s.now)).2 ch)).2 = (lkV s.now).2)) := by
  have hc := off_clean hi
  obtain ⟨a1, a2, a3⟩ := rec_fin hc (by show (s.now.length : Int) ≤ s.room; exact hn)
  have hrun := run_cut (opsR s.now) (off_same s) hi.dead hi.fuse hc.free a1
  refine ⟨fun h => ?_, fun h1 h2 => ?_⟩
  · obtain ⟨b1, b2, b3, b4, b5⟩ := hrun.1 h
    exact ⟨b1, idle_of b2 a3 b3 b5, b2.now.trans a2, b4⟩
  · obtain ⟨b1, b2, b3⟩ := hrun.2 h1 h2
    refine ⟨b1, b3, fun hq ch => ?_⟩
    rw [outS_same b2 ch]
    exact rec_cuts hc (by show (s.now.length : Int) ≤ s.room; exact hn) hq _ (by show s.fuse.toNat ≤ (opsR s.now).length; omega) ch
theorem lk_size (im : List UInt8) : (lkV im).1.2.2 = ((lkV im).2.length : Int) ∧ (lkV im).2.length ≤ im.length := by
  rcases look_cases im with ⟨h1, h2, h3⟩ | ⟨h1, h2, h3, h4⟩ | ⟨h1, h2, h3, h4, h5, h6, h7⟩
  · rw [h2]; exact ⟨h3, Nat.le_refl _⟩
  · have h9 := congrArg List.length h4
    rw [List.length_take] at h9
    omega
  · have : (lkV im).2.length = (lkZ im).toNat := by rw [h7, putPs_len, List.length_take]; omega
    omega
section
variable {P : Program} {ops : Array Oper} {rest : List Oper} {a : Act} {w : World} {N : Nat} {L : List (Nat × Value)} {d i : Nat} {op : Op} {ty : TypeId} {pos : String} {after : Array Edge}
theorem s_passU {Q : Exit → Act → World → Prop} {j k : Nat} {want : Bool} (hf : Has N a L) (hj : (ops[j]?).bind (·.dst) = some k) (hk : look L k = some undef)
    (h : ∀ a', Has N a' ((d, undef) :: L) → wpList P ops Q rest a' w) (hd : d < N := by decide) : wpList P ops Q (⟨some d, op, ty, pos, after, some (j, want)⟩ :: rest) a w := by
  have := hf.get k _ hk
  unfold wpList
  rw [if_neg (by simp [Region.wanted, yielded, hj, this, undef])]
  exact h _ (hf.put _ hd)
end
end Vw
