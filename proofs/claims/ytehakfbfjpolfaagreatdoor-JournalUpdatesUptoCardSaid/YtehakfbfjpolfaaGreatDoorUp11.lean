/- Texts 11 of 17 that the law rests on: the small library, contracts of functions, printed by a program. -/
import Derived.Lib.ConvBytes
import Derived.Test.YtehakfbfjpolfaaGreatDoorUp1
import Derived.Test.YtehakfbfjpolfaaGreatDoorUp2
import Derived.Test.YtehakfbfjpolfaaGreatDoorUp3
import Derived.Test.YtehakfbfjpolfaaGreatDoorUp4
import Derived.Test.YtehakfbfjpolfaaGreatDoorUp5
import Derived.Test.YtehakfbfjpolfaaGreatDoorUp6
import Derived.Test.YtehakfbfjpolfaaGreatDoorUp7
import Derived.Test.YtehakfbfjpolfaaGreatDoorUp8
import Derived.Test.YtehakfbfjpolfaaGreatDoorUp9
import Derived.Test.YtehakfbfjpolfaaGreatDoorUp10
set_option maxRecDepth 100000
set_option linter.all false
namespace Vw
open Go
def rdA (v : Value) (l : List UInt8) : Asrt := fun h => RdB h v l
section
variable {P : Program} {ρ : Operand → Value} {K : Value → World → Prop} {w : World}
variable {d : Option Nat} {ty : TypeId} {pos : String} {after : Array Edge} {g : Option (Nat × Bool)}
variable {σ : Sig} {L L' R : List Asrt}
theorem y_strBytes {s t e : TypeId} {u : TypeDesc} {x : Operand} {l : List UInt8} (hs : St σ w L) (h1 : P.underlying s = some u) (h2 : P.underlying t = some (.slice e)) (h3 : P.underlying e = some (.int .u8)) (hx : ρ x = .string ⟨l.toArray⟩)
    (h : ∀ v w', St σ w' (rdA v l :: L) → (∃ a c, v = .slice a l.length c) → K v w') :
    Does P ρ ⟨d, .convert s t x, ty, pos, after, g⟩ w K := by
  have hrun := Go.Lib.run_convert_string_bytes (P := P) w s t e ⟨l.toArray⟩ h1 h2 h3
  have hsz : (⟨l.toArray⟩ : ByteArray).size = l.length := rfl
  rw [hsz] at hrun
  refine .value (v := .slice (some ⟨w.heap.size, 0, none⟩) l.length (grownCap w l.length 0 e)) (w' := Go.Lib.bytesWorld w e ⟨l.toArray⟩) ?_ (h _ _ ?_ ⟨_, _, rfl⟩)
  · simp only [execOp, hx, Sem.run_bind, hrun, Result.andThen_ok, Sem.run_pure]
  · have hd : St σ w.drew L := hs.same rfl rfl rfl rfl
    have h9 := hd.alloc (.cells (Go.Lib.bytesCells w e ⟨l.toArray⟩) e)
    have hw : Wrote (w.drew.alloc (.cells (Go.Lib.bytesCells w e ⟨l.toArray⟩) e)) (Go.Lib.bytesWorld w e ⟨l.toArray⟩) w.heap.size (.cells (Go.Lib.bytesCells w e ⟨l.toArray⟩) e ((Go.Lib.bytesCells w e ⟨l.toArray⟩).size, (Go.Lib.bytesCells w e ⟨l.toArray⟩).size + 1)) := by
      refine ⟨rfl, rfl, rfl, ?_, Go.Lib.bytesWorld_at_new w e _, fun k hk => ?_⟩
      · rw [Go.Lib.bytesWorld_size]
        simp [World.alloc, World.drew, -World.alloc_eq, -World.drew_eq]
      · have hk' : w.heap.size ≠ k := fun e9 => hk e9.symm
        simp [Go.Lib.bytesWorld, World.freeze, World.alloc, World.drew, -World.alloc_eq, -World.drew_eq, Array.getElem?_modify, hk']
    have h10 := St.wrote h9 hw
    refine h10.imp fun hh hb => ?_
    have hge : l.length ≤ grownCap w l.length 0 e := grownCap_ge w l.length 0 e
    refine ⟨by simp, .inr ⟨_, _, rfl, hge, fun j u9 hu => ?_⟩⟩
    have hb' : hh w.heap.size = some (.cells (Go.Lib.bytesCells w e ⟨l.toArray⟩) e ((Go.Lib.bytesCells w e ⟨l.toArray⟩).size, (Go.Lib.bytesCells w e ⟨l.toArray⟩).size + 1)) := hb
    have hadd : (⟨w.heap.size, 0, none⟩ : Addr).add j = ⟨w.heap.size, j, none⟩ := by unfold Addr.add; split <;> simp_all
    rw [hadd]
    simp only [cellH, hb']
    have hj : j < l.length := by have := (List.getElem?_eq_some_iff.1 hu).1; simpa using this
    rw [List.getElem?_map, List.getElem?_eq_getElem hj] at hu
    injection hu with hu
    unfold Go.Lib.bytesCells
    rw [Array.getElem?_append_left (by simpa using hj)]
    simp [hj, ← hu, u8v]
end
def datR : List Pt → Asrt
  | [] => fun _ => True
  | p :: r => star (rdA p.2.1 p.2.2) (datR r)
theorem datR_rd : ∀ (ps : List Pt) (h : Heaplet), datR ps h → ∀ p ∈ ps, RdB h p.2.1 p.2.2
  | [], _, _, p, hp => absurd hp (by simp)
  | q :: ps, h, hh, p, hp => by
    obtain ⟨h1, h2, _, l1, l2, a1, a2⟩ := hh
    rcases List.mem_cons.1 hp with rfl | hp
    · exact RdC.mono l1 a1
    · exact RdC.mono l2 (datR_rd ps h2 a2 p hp)
theorem St.datR {σ : Sig} {w : World} {L R : List Asrt} {ps : List Pt} (hs : St σ w L) (tk : Take (datR ps) L R) {i : Nat} (hi : i < ps.length) : RdB (hp w) ps[i].2.1 ps[i].2.2 := by
  refine (hs.take tk).see fun h hh hA => ?_
  exact RdC.mono (fun k o e => hh k o e) (datR_rd ps h hA _ (List.getElem_mem hi))
theorem datR_push {σ : Sig} {w : World} {p : Pt} : ∀ {ps : List Pt} {R : List Asrt}, St σ w (Vw.datR ps :: rdA p.2.1 p.2.2 :: R) → St σ w (Vw.datR (ps ++ [p]) :: R)
  | [], R, hs => by
    have h1 : St σ w (rdA p.2.1 p.2.2 :: R) := hs.drop
    exact ((h1.emp (A := fun _ => True) (fun _ => trivial)).take (.there _ (.here _))).unstar
  | q :: ps, R, hs => by
    have h1 := hs.star
    have h2 : St σ w (Vw.datR ps :: rdA p.2.1 p.2.2 :: rdA q.2.1 q.2.2 :: R) := (h1.take (.there _ (.there _ (.here _)))) |>.take (.there _ (.there _ (.here _)))
    have h3 := datR_push h2
    exact (h3.take (.there _ (.here _))).unstar
theorem tx_step {rest : List UInt8} {tat t n : Nat} {tb : Int} (h1 : tb = 0 → tat = t) (h2 : tb ≠ 0 → rest.length < t) (h3 : tat ≤ rest.length) :
    ((nextC rest.length tat tb n).2.1 = 0 → (nextC rest.length tat tb n).1 = t + n ∧ (rest.drop tat).take (nextC rest.length tat tb n).2.2 = (rest.drop t).take n ∧ tb = 0) ∧
    ((nextC rest.length tat tb n).2.1 ≠ 0 → rest.length < t + n) ∧ (nextC rest.length tat tb n).1 ≤ rest.length := by
  unfold nextC
  by_cases hb : tb = 0
  · have e := h1 hb
    subst hb e
    rw [if_neg (by simp), if_neg (by omega)]
    by_cases hl : (rest.length : Int) - tat < n
    · rw [if_pos hl]
      exact ⟨(fun h => by cases h), (fun _ => by omega), h3⟩
    · rw [if_neg hl]
      refine ⟨fun _ => ⟨by simp, by simp, rfl⟩, fun h => absurd rfl h, by simp only [Int.toNat_natCast]; omega⟩
  · rw [if_pos hb]
    exact ⟨fun h => absurd h hb, fun _ => by have := h2 hb; omega, h3⟩
end Vw

namespace Vw
open Go
def seAt (n : Nat) : Nat := n / 512 * 512 - 512
def segS (l : List UInt8) : List UInt8 := (l.drop (seAt l.length)).take 512
def sdS (l : List UInt8) : Sl := dsF (segS l)
theorem seAt_le {n : Nat} (h : 512 ≤ n) : seAt n + 512 ≤ n := by unfold seAt; omega
theorem segS_len {l : List UInt8} (h : 512 ≤ l.length) : (segS l).length = 512 := by
  have := seAt_le h
  unfold segS; rw [List.length_take, List.length_drop]; omega
def seOk (l : List UInt8) : Bool := decide (512 ≤ l.length) && decOk (segS l) && decide ((sdS l).2.2.1 ≤ 16777216) && decide ((sdS l).2.2.2.1 ≤ 16777216) && decide (filZ (sdS l).2.2.1 (sdS l).2.2.2.1 (sdS l).2.2.2.2.2.1 = (l.length : Int)) && decide ((zt (l.drop (seAt l.length + 512)) : Int) = (l.length : Int) - (seAt l.length : Int) - 512)
def bodyS (l : List UInt8) : List UInt8 := (l.drop (upZ (max (sdS l).2.2.1 (sdS l).2.2.2.1)).toNat).take (sdS l).2.2.2.2.2.1.toNat
def putPs (l : List UInt8) (ps : List Pc) : List UInt8 := ps.foldl putP l
theorem putPs_len : ∀ (ps : List Pc) (l : List UInt8), (putPs l ps).length = l.length
  | [], _ => rfl
  | p :: ps, l => by
    show (putPs (putP l p) ps).length = _
    rw [putPs_len ps, putP_len]
theorem putPs_snoc (l : List UInt8) (ps : List Pc) (p : Pc) : putPs l (ps ++ [p]) = putP (putPs l ps) p := by
  unfold putPs; rw [List.foldl_append]; rfl
def lkB (l : List UInt8) : List UInt8 := putPs (l.take (sdS l).2.2.1.toNat) (bkL (sdS l) (bodyS l) (sdS l).2.2.2.2.1.toNat)
def lkV (l : List UInt8) : (Int × Int × Int) × List UInt8 :=
  if 1024 ≤ zt l then ((1, 0, ((l.length - zt l / 1024 * 1024 : Nat) : Int)), l.take (l.length - zt l / 1024 * 1024))
  else if seOk l = false then ((0, 0, (l.length : Int)), l)
  else if (sdS l).1 = 2 then ((2, (sdS l).2.1, (sdS l).2.2.1), l.take (sdS l).2.2.1.toNat)
  else if (sdS l).1 = 4 then ((4, (sdS l).2.1, (sdS l).2.2.2.1), l.take (sdS l).2.2.2.1.toNat)
  else if bkOk (sdS l) (bodyS l) = false then ((0, 0, (l.length : Int)), l)
  else ((3, (sdS l).2.1, (sdS l).2.2.1), lkB l)
structure SeGood (l : List UInt8) : Prop where
  st : 2 ≤ (sdS l).1 ∧ (sdS l).1 ≤ 4
  flds : (0 ≤ (sdS l).2.1 ∧ (sdS l).2.1 ≤ 4294967295) ∧ (0 ≤ (sdS l).2.2.1 ∧ (sdS l).2.2.1 ≤ 16777216) ∧ (0 ≤ (sdS l).2.2.2.1 ∧ (sdS l).2.2.2.1 ≤ 16777216) ∧ (0 ≤ (sdS l).2.2.2.2.1 ∧ (sdS l).2.2.2.2.1 ≤ 4294967295) ∧ (0 ≤ (sdS l).2.2.2.2.2.1 ∧ (sdS l).2.2.2.2.2.1 ≤ 4294967295)
  sum : (sdS l).2.2.2.2.2.2 < 4294967296
  body : max (sdS l).2.2.1 (sdS l).2.2.2.1 ≤ upZ (max (sdS l).2.2.1 (sdS l).2.2.2.1) ∧ upZ (max (sdS l).2.2.1 (sdS l).2.2.2.1) + (sdS l).2.2.2.2.2.1 ≤ (l.length : Int)
theorem seGood {l : List UInt8} (h : seOk l = true) : SeGood l := by
  unfold seOk at h
  simp only [Bool.and_eq_true, decide_eq_true_eq] at h
  obtain ⟨⟨⟨⟨⟨h1, h2⟩, h3⟩, h4⟩, h5⟩, h6⟩ := h
  have hs : slOk (sdS l) = true := by
    unfold decOk at h2
    simp only [Bool.and_eq_true, decide_eq_true_eq] at h2
    exact h2.1.2
  have hst : 2 ≤ (sdS l).1 ∧ (sdS l).1 ≤ 4 := by
    unfold slOk at hs
    simp only [Bool.and_eq_true, decide_eq_true_eq] at hs
    exact hs.1.1.1.1.1
  have hin : (0 ≤ (sdS l).2.1 ∧ (sdS l).2.1 ≤ 4294967295) ∧ (0 ≤ (sdS l).2.2.1 ∧ (sdS l).2.2.1 ≤ 4294967295) ∧ (0 ≤ (sdS l).2.2.2.1 ∧ (sdS l).2.2.2.1 ≤ 4294967295) ∧ (0 ≤ (sdS l).2.2.2.2.1 ∧ (sdS l).2.2.2.2.1 ≤ 4294967295) ∧ (0 ≤ (sdS l).2.2.2.2.2.1 ∧ (sdS l).2.2.2.2.2.1 ≤ 4294967295) := by
    unfold slOk inF at hs
    simp only [Bool.and_eq_true, decide_eq_true_eq] at hs
    exact ⟨hs.1.1.1.1.2, hs.1.1.1.2, hs.1.1.2, hs.1.2, hs.2⟩
  obtain ⟨i1, i2, i3, i4, i5⟩ := hin
  refine ⟨hst, ⟨i1, ⟨i2.1, h3⟩, ⟨i3.1, h4⟩, i4, i5⟩, ?_, ?_⟩
  · have e9 : (sdS l).2.2.2.2.2.2 = rd32 (segS l) 32 := rfl
    rw [e9]
    exact rd32_lt _ _
  have h9 : max (sdS l).2.2.1 (sdS l).2.2.2.1 ≤ upZ (max (sdS l).2.2.1 (sdS l).2.2.2.1) ∧ upZ (max (sdS l).2.2.1 (sdS l).2.2.2.1) + (sdS l).2.2.2.2.2.1 ≤ filZ (sdS l).2.2.1 (sdS l).2.2.2.1 (sdS l).2.2.2.2.2.1 := by
    generalize (sdS l).2.2.1 = a at *
    generalize (sdS l).2.2.2.1 = b at *
    generalize (sdS l).2.2.2.2.2.1 = c at *
    unfold filZ upZ
    omega
  rw [h5] at h9
  exact h9
end Vw
namespace Vw
open Go
def vdF (v : Int × Int × Int) : List Value := [.int .i64 v.1, .int .i64 v.2.1, .int .i64 v.2.2]
theorem wlk_mono {old : Int} {body : List UInt8} : ∀ {N e t : Nat}, wlk old body N = some (e, t) → ∀ i, i ≤ N → ∃ e' t', wlk old body i = some (e', t') ∧ t' ≤ t
  | 0, e, t, h, i, hi => by
    obtain rfl : i = 0 := by omega
    exact ⟨e, t, h, Nat.le_refl _⟩
  | N + 1, e, t, h, i, hi => by
    by_cases hi9 : i = N + 1
    · subst hi9; exact ⟨e, t, h, Nat.le_refl _⟩
    · cases hw : wlk old body N with
      | none => have := wlk_none hw 1; rw [this] at h; cases h
      | some p =>
        obtain ⟨e1, t1⟩ := p
        obtain ⟨e', t', h1, h2⟩ := wlk_mono hw i (by omega)
        have ht : t1 ≤ t := by
          by_cases hb : spN body N < 1 ∨ spA body N < e1 ∨ old < ((spA body N + spN body N : Nat) : Int)
          · rw [wlk_bad hw hb] at h; cases h
          · rw [wlk_good hw hb] at h
            injection h with h; injection h with h1 h2; omega
        exact ⟨e', t', h1, by omega⟩
theorem bk_span {s : Sl} {body : List UInt8} (h : bkOk s body = true) {N : Nat} (hN : s.2.2.2.2.1 = (N : Int)) {i : Nat} (hi : i < N) :
    1 ≤ spN body i ∧ ((spA body i + spN body i : Nat) : Int) ≤ s.2.2.1 ∧ 8 * N + totB s.2.2.1 body i + spN body i ≤ body.length ∧ totB s.2.2.1 body (i + 1) = totB s.2.2.1 body i + spN body i := by
  have hNt : s.2.2.2.2.1.toNat = N := by omega
  unfold bkOk at h
  rw [hNt] at h
  cases hw : wlk s.2.2.1 body N with
  | none => rw [hw] at h; simp at h
  | some p =>
    obtain ⟨e, t⟩ := p
    rw [hw] at h
    simp only [Bool.and_eq_true, decide_eq_true_eq] at h
    obtain ⟨e1, t1, h1, h2⟩ := wlk_mono hw i (by omega)
    obtain ⟨e2, t2, h3, h4⟩ := wlk_mono hw (i + 1) (by omega)
    have ha : totB s.2.2.1 body i = t1 := by unfold totB; rw [h1]
    have hb9 : totB s.2.2.1 body (i + 1) = t2 := by unfold totB; rw [h3]
    by_cases hb : spN body i < 1 ∨ spA body i < e1 ∨ s.2.2.1 < ((spA body i + spN body i : Nat) : Int)
    · rw [wlk_bad h1 hb] at h3; cases h3
    · rw [wlk_good h1 hb] at h3
      injection h3 with h3; injection h3 with h5 h6
      rw [ha, hb9]
      omega
theorem bk_cnt {s : Sl} {body : List UInt8} (h : bkOk s body = true) : 8 * s.2.2.2.2.1 ≤ (body.length : Int) := by
  unfold bkOk at h
  simp only [Bool.and_eq_true, decide_eq_true_eq] at h
  exact h.1.2
end Vw
namespace Vw
open Go
def lkOk (l : List UInt8) : Bool := seOk l && (!(decide ((sdS l).1 = 3)) || bkOk (sdS l) (bodyS l))
def lkZ (l : List UInt8) : Int := if (sdS l).1 = 4 then (sdS l).2.2.2.1 else (sdS l).2.2.1
def lkP (l : List UInt8) : List Pc := if (sdS l).1 = 3 then bkL (sdS l) (bodyS l) (sdS l).2.2.2.2.1.toNat else []
theorem lk_of {l : List UInt8} (h0 : zt l < 1024) (h : lkOk l = true) : lkV l = (((sdS l).1, (sdS l).2.1, lkZ l), putPs (l.take (lkZ l).toNat) (lkP l)) := by
  unfold lkOk at h
  simp only [Bool.and_eq_true] at h
  obtain ⟨h1, h2⟩ := h
  have hst := (seGood h1).st
  unfold lkV lkZ lkP
  rw [if_neg (by omega), if_neg (by rw [h1]; simp)]
  by_cases c2 : (sdS l).1 = 2
  · rw [if_pos c2, if_neg (show ¬ (sdS l).1 = 4 by omega), if_neg (show ¬ (sdS l).1 = 3 by omega), c2]; rfl
  · by_cases c4 : (sdS l).1 = 4
    · rw [if_neg c2, if_pos c4, if_pos c4, if_neg (show ¬ (sdS l).1 = 3 by omega), c4]; rfl
    · have c3 : (sdS l).1 = 3 := by omega
      rw [c3] at h2
      have hb : bkOk (sdS l) (bodyS l) = true := by simpa using h2
      rw [if_neg c2, if_neg c4, if_neg (by rw [hb]; simp), if_neg c4, if_pos c3, c3]; rfl
theorem lk_no {l : List UInt8} (h0 : zt l < 1024) (h : lkOk l = false) : lkV l = ((0, 0, (l.length : Int)), l) := by
  unfold lkV
  rw [if_neg (by omega)]
  by_cases h1 : seOk l = false
  · rw [if_pos h1]
  · have h1' : seOk l = true := by simpa using h1
    unfold lkOk at h
    rw [h1'] at h
    by_cases c3 : (sdS l).1 = 3
    · rw [c3] at h
      have hb : bkOk (sdS l) (bodyS l) = false := by simpa using h
      rw [if_neg h1, if_neg (show ¬ (sdS l).1 = 2 by omega), if_neg (show ¬ (sdS l).1 = 4 by omega), if_pos hb]
    · simp [c3] at h
theorem bk_mem {s : Sl} {body : List UInt8} (h : bkOk s body = true) {N : Nat} (hN : s.2.2.2.2.1 = (N : Int)) : ∀ p ∈ bkL s body N, 1 ≤ p.2.length ∧ ((p.1 + p.2.length : Nat) : Int) ≤ s.2.2.1 := by
  intro p hp
  obtain ⟨i, hi, rfl⟩ := List.mem_map.1 hp
  have hiN := List.mem_range.1 hi
  obtain ⟨b1, b2, b3, b4⟩ := bk_span h hN hiN
  have hNt : s.2.2.2.2.1.toNat = N := by omega
  have hdl : ((body.drop (8 * s.2.2.2.2.1.toNat + totB s.2.2.1 body i)).take (spN body i)).length = spN body i := by
    rw [hNt, List.length_take, List.length_drop]; omega
  simp only [hdl]
  exact ⟨b1, b2⟩
theorem lk_mem {l : List UInt8} (h : lkOk l = true) : ∀ p ∈ lkP l, 1 ≤ p.2.length ∧ ((p.1 + p.2.length : Nat) : Int) ≤ lkZ l := by
  unfold lkOk at h
  simp only [Bool.and_eq_true] at h
  have hg := seGood h.1
  have hf := hg.flds.2.2.2.1
  have h2 := h.2
  clear hg
  unfold lkP lkZ
  revert h2 hf
  generalize sdS l = s
  generalize bodyS l = b
  intro hf h2
  by_cases c3 : s.1 = 3
  · rw [if_pos c3, if_neg (show ¬ s.1 = 4 by omega)]
    rw [c3] at h2
    exact bk_mem (by simpa using h2) (by omega)
  · rw [if_neg c3]
    intro p hp
    cases hp
end Vw

namespace Vw
open Go
abbrev COp := Int × Int × List UInt8
def dO (o : COp) : DOp := (o.1, o.2.1, 0, (none, 0, o.2.2), 0, (none, 0, []), 0)
def coS (s : DS) (o : COp) : Int × DS := chS s (dO o)
def runS : DS → List COp → Int × DS
  | s, [] => (0, s)
  | s, o :: r => if (coS s o).1 = 0 then runS (coS s o).2 r else coS s o
def fin : DS → List COp → DS
  | s, [] => s
  | s, o :: r => fin (coS s o).2 r
theorem runS_nil (s : DS) : runS s [] = (0, s) := rfl
theorem runS_cons (s : DS) (o : COp) (r : List COp) : runS s (o :: r) = if (coS s o).1 = 0 then runS (coS s o).2 r else coS s o := rfl
theorem runS_append : ∀ (x : List COp) (s : DS) (y : List COp), runS s (x ++ y) = if (runS s x).1 = 0 then runS (runS s x).2 y else runS s x
  | [], s, y => by rw [List.nil_append, runS_nil, if_pos rfl]
  | o :: x, s, y => by
    rw [List.cons_append, runS_cons, runS_cons]
    by_cases h : (coS s o).1 = 0
    · rw [if_pos h, if_pos h]; exact runS_append x _ y
    · rw [if_neg h, if_neg h, if_neg h]
theorem runS_snoc {s : DS} {x : List COp} (h : (runS s x).1 = 0) (o : COp) : runS s (x ++ [o]) = coS (runS s x).2 o := by
  rw [runS_append, if_pos h, runS_cons]
  split
  · rename_i h9
    rw [runS_nil]
    exact Prod.ext h9.symm rfl
  · rfl
theorem runS_stop {s : DS} {x : List COp} (h : (runS s x).1 ≠ 0) (y : List COp) : runS s (x ++ y) = runS s x := by
  rw [runS_append, if_neg h]
theorem runS_go {s : DS} {x : List COp} (h : (runS s x).1 = 0) (y : List COp) : runS s (x ++ y) = runS (runS s x).2 y := by
  rw [runS_append, if_pos h]
theorem fin_append : ∀ (x : List COp) (s : DS) (y : List COp), fin s (x ++ y) = fin (fin s x) y
  | [], _, _ => rfl
  | _ :: x, _, y => fin_append x _ y
theorem runS_ok : ∀ (x : List COp) {s : DS}, DOk s → DOk (runS s x).2
  | [], _, h => h
  | o :: x, s, h => by
    unfold runS; split
    · exact runS_ok x (chS_ok h _)
    · exact chS_ok h _
theorem runS_b : ∀ (x : List COp) {s : DS} {k : Nat}, DOk s → DB s k → DB (runS s x).2 (k + x.length)
  | [], _, _, _, h => h
  | o :: x, s, k, ho, h => by
    unfold runS; split
    · have := runS_b x (chS_ok ho (dO o)) (chS_b ho h (dO o))
      rw [show k + (o :: x).length = k + 1 + x.length by simp; omega]
      exact this
    · exact (chS_b ho h (dO o)).up (by simp)
structure Same4 (s t : DS) : Prop where
  room : s.room = t.room
  now : s.now = t.now
  dur : s.dur = t.dur
  pcs : s.pcs = t.pcs
  sizes : s.sizes = t.sizes
theorem Same4.trans {a b c : DS} (h : Same4 a b) (k : Same4 b c) : Same4 a c := ⟨h.room.trans k.room, h.now.trans k.now, h.dur.trans k.dur, h.pcs.trans k.pcs, h.sizes.trans k.sizes⟩
theorem Same4.symm {a b : DS} (h : Same4 a b) : Same4 b a := ⟨h.room.symm, h.now.symm, h.dur.symm, h.pcs.symm, h.sizes.symm⟩
def Fit (room : Int) (o : COp) : Prop := (o.1 = 2 ∧ 0 ≤ o.2.1 ∧ o.2.1 + (o.2.2.length : Int) ≤ room) ∨ (o.1 = 3 ∧ 0 ≤ o.2.1 ∧ o.2.1 ≤ room) ∨ o.1 = 4
def fz (f : Int) : Int := if 0 < f then f - 1 else f
end Vw

namespace Vw
open Go
structure Clean (s : DS) : Prop where
  free : Free s
  pcs : s.pcs = []
  sizes : s.sizes = []
  dur : s.dur = s.now
def Mix (ms : List (List UInt8)) (im : List UInt8) : Prop :=
  (∃ m ∈ ms, m.length = im.length) ∧ ∀ sec, ∃ m ∈ ms, ∀ x, x / 512 = sec → x < im.length → im.getD x 0 = m.getD x 0
def Agr (base : List UInt8) (W : Nat → Prop) (l : List UInt8) : Prop := l.length = base.length ∧ ∀ x, ¬ W x → l.getD x 0 = base.getD x 0
theorem Agr.refl (l : List UInt8) (W : Nat → Prop) : Agr l W l := ⟨rfl, fun _ _ => rfl⟩
def Cuts (t : DS) (ops : List COp) (P : List UInt8 → Prop) : Prop := ∀ i, i ≤ ops.length → ∀ c, P (outS (fin t (ops.take i)) c)
theorem Cuts.append {t : DS} {x y : List COp} {P : List UInt8 → Prop} (h1 : Cuts t x P) (h2 : Cuts (fin t x) y P) : Cuts t (x ++ y) P := fun i hi c => by
  by_cases h : i ≤ x.length
  · rw [List.take_append_of_le_length h]; exact h1 i h c
  · obtain ⟨j, rfl⟩ : ∃ j, i = x.length + j := ⟨i - x.length, by omega⟩
    rw [List.take_length_add_append, fin_append]
    exact h2 j (by rw [List.length_append] at hi; omega) c
theorem Cuts.none {t : DS} {P : List UInt8 → Prop} (h : ∀ c, P (outS t c)) : Cuts t [] P := fun i hi c => by
  have : i = 0 := by simpa using hi
  subst this; exact h c
theorem Cuts.one {t : DS} {o : COp} {P : List UInt8 → Prop} (h : ∀ c, P (outS t c)) (h1 : ∀ c, P (outS (coS t o).2 c)) : Cuts t [o] P := fun i hi c => by
  have : i = 0 ∨ i = 1 := by simp at hi; omega
  rcases this with rfl | rfl
  · exact h c
  · exact h1 c
end Vw

namespace Vw
open Go
attribute [local irreducible] Vw.sdS Vw.bodyS Vw.zt Vw.bkL Vw.upZ Vw.filZ Vw.bkOk Vw.decOk Vw.putPs Vw.segS
end Vw

namespace Vw
open Go
def syO : COp := (4, 0, [])
def wrO (p : Pc) : COp := (2, (p.1 : Int), p.2)
def opsR (im : List UInt8) : List COp :=
  if (lkV im).1.1 = 0 then [] else (if (lkV im).1.1 = 3 then (lkP im).map wrO ++ [syO] else []) ++ [(3, (lkV im).1.2.2, []), syO]
attribute [local irreducible] Vw.sdS Vw.bodyS Vw.zt Vw.bkL Vw.upZ Vw.filZ Vw.bkOk Vw.decOk Vw.putPs Vw.segS Vw.lkOk Vw.lkP Vw.lkZ Vw.lkV Vw.seOk
end Vw

namespace Vw
open Go
abbrev Sp := Int × Int
def spc (old : Int) : Int → List Sp → Prop
  | _, [] => True
  | e, s :: r => e ≤ s.1 ∧ s.1 < s.2 ∧ s.2 ≤ old ∧ spc old s.2 r
theorem spc_low {old : Int} : ∀ {sp : List Sp} {e e' : Int}, e' ≤ e → spc old e sp → spc old e' sp
  | [], _, _, _, _ => trivial
  | _ :: _, _, _, h, ⟨h1, h2, h3, h4⟩ => ⟨by omega, h2, h3, h4⟩
theorem spc_take {old : Int} : ∀ {sp : List Sp} {e : Int} (i : Nat), spc old e sp → spc old e (sp.take i)
  | [], _, i, _ => by rw [List.take_nil]; trivial
  | _ :: _, _, 0, _ => trivial
  | _ :: _, _, i + 1, ⟨h1, h2, h3, h4⟩ => ⟨h1, h2, h3, spc_take i h4⟩
theorem spc_get {old : Int} : ∀ {sp : List Sp} {e : Int}, spc old e sp → ∀ {i : Nat} (hi : i < sp.length), e ≤ sp[i].1 ∧ sp[i].1 < sp[i].2 ∧ sp[i].2 ≤ old ∧ ∀ j (hj : j < i), (sp[j]'(by omega)).2 ≤ sp[i].1
  | s :: r, e, ⟨h1, h2, h3, h4⟩, 0, _ => ⟨h1, h2, h3, fun j hj => absurd hj (by omega)⟩
  | s :: r, e, ⟨h1, h2, h3, h4⟩, i + 1, hi => by
    have hi' : i < r.length := by simpa using hi
    obtain ⟨k1, k2, k3, k4⟩ := spc_get h4 hi'
    refine ⟨by show e ≤ r[i].1; omega, k2, k3, fun j hj => ?_⟩
    cases j with
    | zero => exact k1
    | succ j => exact k4 j (by omega)
theorem rgt_cons {size : Int} {z : Wr} {l : List Wr} {e : Int} (h : rgt size (z :: l) e = true) : 0 < wL z ∧ e ≤ z.1 ∧ z.1 + wL z ≤ size ∧ rgt size l (z.1 + wL z) = true := by
  unfold rgt at h
  split at h
  · cases h
  · rename_i hb
    simp only [not_or, Int.not_lt] at hb
    have hw : 0 ≤ wL z := Int.natCast_nonneg _
    exact ⟨by omega, by omega, by omega, h⟩
theorem sav_spc {old size : Int} : ∀ {ws : List Wr} {e : Int}, rgt size ws e = true → spc old e (savL old ws)
  | [], _, _ => trivial
  | z :: l, e, h => by
    obtain ⟨h1, h2, h3, h4⟩ := rgt_cons h
    have ih := sav_spc (old := old) h4
    show spc old e ((if z.1 < min old (z.1 + wL z) then [(z.1, min old (z.1 + wL z))] else []) ++ savL old l)
    split
    · rename_i hc
      refine ⟨h2, hc, Int.min_le_left _ _, ?_⟩
      exact spc_low (Int.min_le_right _ _) ih
    · exact spc_low (by omega) ih
theorem rgt_count {size : Int} : ∀ {ws : List Wr} {e : Int}, rgt size ws e = true → e ≤ size → (ws.length : Int) ≤ size - e
  | [], e, _, h => by simp; omega
  | z :: l, e, h, he => by
    obtain ⟨h1, h2, h3, h4⟩ := rgt_cons h
    have := rgt_count h4 (by omega)
    simp only [List.length_cons]
    omega
theorem sav_count (old : Int) : ∀ ws : List Wr, (savL old ws).length ≤ ws.length
  | [] => Nat.le_refl _
  | z :: l => by
    have := sav_count old l
    show ((if z.1 < min old (z.1 + wL z) then [(z.1, min old (z.1 + wL z))] else []) ++ savL old l).length ≤ _
    split <;> simp <;> omega
def spH (s : Sp) : List UInt8 := leB 4 s.1.toNat ++ leB 4 (s.2 - s.1).toNat
def spD (c : List UInt8) (s : Sp) : List UInt8 := (c.drop s.1.toNat).take (s.2 - s.1).toNat
def bodyB (c : List UInt8) (sp : List Sp) : List UInt8 := sp.flatMap spH ++ sp.flatMap (spD c)
def lenS (sp : List Sp) : Nat := (sp.map fun s => (s.2 - s.1).toNat).sum
theorem spH_len (s : Sp) : (spH s).length = 8 := by unfold spH; rw [List.length_append, leB_len, leB_len]
theorem hd_len : ∀ sp : List Sp, (sp.flatMap spH).length = 8 * sp.length
  | [] => rfl
  | s :: r => by rw [List.flatMap_cons, List.length_append, spH_len, hd_len r, List.length_cons]; omega
theorem spD_len {c : List UInt8} {s : Sp} (h0 : 0 ≤ s.1) (h1 : s.1 < s.2) (h2 : s.2 ≤ (c.length : Int)) : (spD c s).length = (s.2 - s.1).toNat := by
  unfold spD; rw [List.length_take, List.length_drop]; omega
theorem dat_len {c : List UInt8} : ∀ {sp : List Sp} {e : Int}, 0 ≤ e → spc (c.length : Int) e sp → (sp.flatMap (spD c)).length = lenS sp
  | [], _, _, _ => rfl
  | s :: r, e, he, ⟨h1, h2, h3, h4⟩ => by
    rw [List.flatMap_cons, List.length_append, spD_len (by omega) h2 h3, dat_len (by omega) h4]; rfl
theorem lenS_le {old : Int} : ∀ {sp : List Sp} {e : Int}, spc old e sp → e ≤ old → (lenS sp : Int) ≤ old - e
  | [], e, _, h => by show ((0 : Nat) : Int) ≤ _; omega
  | s :: r, e, ⟨h1, h2, h3, h4⟩, he => by
    have := lenS_le h4 h3
    have e9 : lenS (s :: r) = (s.2 - s.1).toNat + lenS r := rfl
    rw [e9]; omega
theorem body_len {c : List UInt8} {sp : List Sp} (h : spc (c.length : Int) 0 sp) : (bodyB c sp).length = 8 * sp.length + lenS sp := by
  unfold bodyB; rw [List.length_append, hd_len, dat_len (Int.le_refl _) h]
theorem lenS_succ {sp : List Sp} {i : Nat} (hi : i < sp.length) : lenS (sp.take (i + 1)) = lenS (sp.take i) + (sp[i].2 - sp[i].1).toNat := by
  unfold lenS; rw [List.take_succ_eq_append_getElem hi, List.map_append, List.sum_append]; simp
end Vw

namespace Vw
open Go
def bodU (c : List UInt8) (ws : List Wr) : List UInt8 := bodyB c (savL (c.length : Int) ws)
def filU (c : List UInt8) (size : Int) (ws : List Wr) : Int := filZ (c.length : Int) size ((bodU c ws).length : Int)
def seaU (c : List UInt8) (size : Int) (ws : List Wr) : Int := filU c size ws / 512 * 512 - 512
def bplU (c : List UInt8) (size : Int) : Int := upZ (max (c.length : Int) size)
def slU (st seq : Int) (c : List UInt8) (size : Int) (ws : List Wr) : Sl := (st, seq, (c.length : Int), size, ((savL (c.length : Int) ws).length : Int), ((bodU c ws).length : Int), crcU 0 (bodU c ws))
def clmU (c : List UInt8) (seq size : Int) (ws : List Wr) : COp := (2, seaU c size ws, secS (slU 2 seq c size ws) ++ List.replicate (filU c size ws - seaU c size ws - 512).toNat 0)
def savU (c : List UInt8) (size : Int) (ws : List Wr) : List COp := if bodU c ws = [] then [] else [(2, bplU c size, bodU c ws)]
def armU (st : Int) (c : List UInt8) (seq size : Int) (ws : List Wr) : COp := (2, seaU c size ws, secS (slU st seq c size ws))
def wrsU (ws : List Wr) : List COp := ws.map fun z => (2, z.1, z.2.2.2)
def opsA (c : List UInt8) (seq size : Int) (ws : List Wr) : List COp :=
  ([clmU c seq size ws] ++ [syO]) ++ ((savU c size ws ++ [syO]) ++ (([armU 3 c seq size ws] ++ [syO]) ++ (wrsU ws ++ [syO])))
def opsU (c : List UInt8) (seq size : Int) (ws : List Wr) : List COp := opsA c seq size ws ++ ([armU 4 c seq size ws] ++ ([syO] ++ [(3, size, []), syO]))
theorem opsA_len (c : List UInt8) (seq size : Int) (ws : List Wr) : (opsA c seq size ws).length = 6 + ws.length + (if bodU c ws = [] then 0 else 1) := by
  unfold opsA savU wrsU
  split <;> simp <;> omega
theorem opsU_len (c : List UInt8) (seq size : Int) (ws : List Wr) : (opsU c seq size ws).length = (opsA c seq size ws).length + 4 := by
  unfold opsU; simp
structure UOk (c : List UInt8) (seq size : Int) (ws : List Wr) : Prop where
  sq : 0 ≤ seq ∧ seq ≤ 4294967295
  old : c.length ≤ 16777216
  siz : 0 ≤ size ∧ size ≤ 16777216
  right : rgt size ws 0 = true
structure UGeo (c : List UInt8) (size : Int) (ws : List Wr) (F bp k : Nat) : Prop where
  fil : filU c size ws = (F : Int)
  sea : seaU c size ws = (seAt F : Int)
  bpl : bplU c size = (bp : Int)
  b1 : c.length ≤ bp ∧ size ≤ (bp : Int)
  b2 : bp + (bodU c ws).length ≤ seAt F
  s1 : seAt F + 512 ≤ F
  s2 : seAt F % 512 = 0
  s3 : F < seAt F + 1024
  f1 : F = c.length + 1024 * k
  k1 : 1 ≤ k
theorem geo {c : List UInt8} {seq size : Int} {ws : List Wr} (h : UOk c seq size ws) : ∃ F bp k, UGeo c size ws F bp k := by
  have h1 := h.old
  have h2 := h.siz
  have hb : 0 ≤ ((bodU c ws).length : Int) := Int.natCast_nonneg _
  have e : ∃ k : Int, 1 ≤ k ∧ filU c size ws = (c.length : Int) + k * 1024 ∧ max (c.length : Int) size ≤ bplU c size ∧ bplU c size + ((bodU c ws).length : Int) ≤ filU c size ws / 512 * 512 - 512 ∧ 512 ≤ filU c size ws := by
    refine ⟨max 1 ((upZ (max (c.length : Int) size) + upZ ((bodU c ws).length : Int) + 512 - (c.length : Int) + 1024 - 1) / 1024), by omega, rfl, ?_⟩
    unfold filU bplU filZ
    generalize ((bodU c ws).length : Int) = n at *
    generalize (c.length : Int) = o at *
    unfold upZ
    omega
  obtain ⟨k, k1, k2, k3, k4, k5⟩ := e
  have k6 : 0 ≤ bplU c size := by omega
  refine ⟨(filU c size ws).toNat, (bplU c size).toNat, k.toNat, ?_⟩
  have hF : ((filU c size ws).toNat : Int) = filU c size ws := Int.toNat_of_nonneg (by omega)
  have hS : (seAt (filU c size ws).toNat : Int) = filU c size ws / 512 * 512 - 512 := by unfold seAt; omega
  exact ⟨hF.symm, by unfold seaU; omega, by omega, by omega, by omega, by unfold seAt; omega, by unfold seAt; omega, by unfold seAt; omega, by omega, by omega⟩
theorem slU_ok {c : List UInt8} {seq size : Int} {ws : List Wr} (h : UOk c seq size ws) {st : Int} (h1 : 2 ≤ st) (h2 : st ≤ 4) : slOk (slU st seq c size ws) = true := by
  have hs := sav_spc (old := (c.length : Int)) h.right
  have a1 := rgt_count h.right h.siz.1
  have a2 := sav_count (c.length : Int) ws
  have a3 := lenS_le hs (by omega)
  have a4 := body_len hs
  have a5 := h.old; have a6 := h.siz; have a7 := h.sq
  unfold slOk slU bodU inF
  simp only [Bool.and_eq_true, decide_eq_true_eq]
  omega
theorem crcU_lt0 (l : List UInt8) : crcU 0 l < 4294967296 := crcU_lt (s := 0) (by omega) l
section
variable {c : List UInt8} {seq size : Int} {ws : List Wr} {F bp k : Nat} {t : DS}
structure Sit (c : List UInt8) (seq size : Int) (ws : List Wr) (F : Nat) (st : Int) (l : List UInt8) : Prop where
  len : l.length = F
  sec : ∀ x, x < 512 → l.getD (seAt F + x) 0 = (secS (slU st seq c size ws)).getD x 0
  zer : ∀ x, seAt F + 512 ≤ x → l.getD x 0 = 0
end
end Vw

namespace Vw
open Go
section
variable {P : Program} {ρ : Operand → Value} {K : Value → World → Prop} {w : World}
variable {d : Option Nat} {ty : TypeId} {pos : String} {after : Array Edge} {g : Option (Nat × Bool)}
theorem x_makeFunc {fn : Fn} {xs : List Operand} {vs : List Value} (hx : xs.toArray.map ρ = vs.toArray) (w : World) :
    (execOp ρ ⟨d, .makeFunc fn xs.toArray #[], ty, pos, after, g⟩).run P w = .ok (.value (.func fn vs.toArray #[])) w := by
  simp only [execOp, Instr.makeFunc, hx, Sem.run_bind, Sem.run_pure, Result.andThen_ok, List.map_toArray]
  rfl
theorem y_callF {t : Array TypeId} {f : FuncId} {x : Operand} {u : Value} (hfn : ρ x = .func (.func f) #[u] #[])
    (hc : ∀ vs w, (callFunc f vs).run P w = .ok (.enter f vs) w) (h : Calls P f #[u] w fun e w' => ∃ v, e = .returned v ∧ K v w') :
    Does P ρ ⟨d, .call ⟨.value x, #[], t⟩, ty, pos, after, g⟩ w K := by
  refine .enter (f := f) (args := #[u]) (w' := w) ?_ h
  simp [execOp, resolve, invoke, go_sem, hfn, Deferred.ofValue, hc]
theorem y_appendZ0 {t tn e n c by_ : Nat} {z : Value} {x y : Operand} {b : Option Addr} {kq kn : IntKind} {ni : Int} (ht : SlT P t e 1 by_ z) (htn : P.underlying tn = some (.int kn))
    (hx : ρ x = .slice b n c) (hy : ρ y = .int kq ni) (hni : ni = 0) (hnc : n ≤ c) (h : K (.slice b n c) w) :
    Does P ρ ⟨d, .call ⟨.builtin .append, #[x, y], #[t, tn]⟩, ty, pos, after, g⟩ w K := by
  subst hni
  obtain ⟨i, h4, h5, h6, h7⟩ := ht.info
  have hrun : (Builtin.append_ #[t, tn] ty #[.slice b n c, .int kq 0]).run P w = .ok (.slice b n c) w := by
    have hw : IntKind.i64.wrap 0 = 0 := by decide
    cases b <;> simp [Builtin.append_, run_underlying ht.und, run_underlying htn, Go.sizeOf, typeInfo, h4, h5, asInt, asIntOf, hw, hnc, storeCells, go_sem]
  refine .value (v := .slice b n c) (w' := w) ?_ h
  simp only [execOp, resolve, invoke, builtin, Sem.run_bind, Sem.run_pure, Result.andThen_ok, List.map_toArray, List.map_cons, List.map_nil, hx, hy, hrun]
end
theorem co_tr (s : DS) (n : Int) : coS s (3, n, []) = trS s n := chS_3 (o := dO (3, n, [])) rfl
theorem co_wr (s : DS) (off : Int) (d : List UInt8) : coS s (2, off, d) = wrS s off d := chS_2 (o := dO (2, off, d)) rfl
theorem co_sy (s : DS) : coS s syO = syS s := chS_4 (o := dO syO) rfl
theorem runS_one (s : DS) (o : COp) : runS s [o] = coS s o := runS_snoc (s := s) (x := []) rfl o
theorem runS2_bad {s : DS} {o o' : COp} (h : (coS s o).1 ≠ 0) : runS s [o, o'] = coS s o := by rw [runS_cons, if_neg h]
theorem runS2_ok {s : DS} {o o' : COp} (h : (coS s o).1 = 0) : runS s [o, o'] = coS (coS s o).2 o' := by rw [runS_cons, if_pos h, runS_one]
theorem coS_ok {s : DS} (h : DOk s) (o : COp) : DOk (coS s o).2 := chS_ok h _
theorem coS_b {s : DS} (ho : DOk s) {k : Nat} (h : DB s k) (o : COp) : DB (coS s o).2 (k + 1) := chS_b ho h _
theorem wrsU_succ {ws : List Wr} {i : Nat} (h : i < ws.length) : wrsU (ws.take (i + 1)) = wrsU (ws.take i) ++ [(2, ws[i].1, ws[i].2.2.2)] := by
  unfold wrsU; rw [List.take_succ_eq_append_getElem h, List.map_append]; rfl
theorem wrsU_split {ws : List Wr} {i : Nat} (h : i ≤ ws.length) : wrsU ws = wrsU (ws.take i) ++ wrsU (ws.drop i) := by
  unfold wrsU; rw [← List.map_append, List.take_append_drop]
def runF (dv : Value) (old size : Int) (wv : Value) (s : Sl) (bv : Value) (bp se fi : Int) : List Value :=
  [dv, .int .i64 old, .int .i64 size, wv, .int .i64 s.1, .int .i64 s.2.1, .int .i64 s.2.2.1, .int .i64 s.2.2.2.1, .int .i64 s.2.2.2.2.1, .int .i64 s.2.2.2.2.2.1, .int .u32 (s.2.2.2.2.2.2 : Int), bv, .int .i64 bp, .int .i64 se, .int .i64 fi]
def fnV (pv : Value) (f : Nat) : Value := .func (.func f) #[pv] #[]
end Vw

namespace Vw
open Go
section
variable {P : Program} {ρ : Operand → Value} {K : Value → World → Prop} {w : World}
variable {d : Option Nat} {ty : TypeId} {pos : String} {after : Array Edge} {g : Option (Nat × Bool)}
variable {σ : Sig} {L L' R : List Asrt}
theorem y_storeMid {t n o : Nat} {x y : Operand} {b T : Nat} {cs vs : List Value} (hs : St σ w L) (ht : (P.info? t).map (·.size) = some n) (hx : ρ x = .pointer (some ⟨b, o, none⟩)) (hy : ρ y = .agg cs.toArray)
    (h1 : ∀ v ∈ cs, v.oneCell' = true) (hn : cs.length = n) (hv : o + n ≤ vs.length) (u : Up (cb b T vs) (cb b T (vs.take o ++ cs ++ vs.drop (o + cs.length))) L L') (h : ∀ w', St σ w' L' → K undef w') :
    Does P ρ ⟨d, .store t x y, ty, pos, after, g⟩ w K := by
  obtain ⟨R, t1, t2⟩ := u.takes
  have hs1 := hs.take t1
  have hb := hs1.head
  have hthere : w.there b o cs.toArray.size := fun j hj => by
    have hj' : o + j < vs.length := by simp at hj; omega
    refine ⟨?_, frozen_of_row w b _ _ T hb⟩
    rw [cell_of_row w b _ _ T (0, 0) hb]
    simp [hj']
  refine .skip (w' := w.setCells b o cs) ?_ (h _ ?_)
  · have := run_storeAt_mid (P := P) w b o t cs.toArray hthere (by simpa [hn] using ht) (all_oneCell_toArray h1)
    simp only [execOp, hx, hy, Sem.run_bind, this, Result.andThen_ok, Sem.run_pure]
  · have := St.setCells cs vs o w hs1 (by omega)
    exact this.give t2
end
theorem lonZ_eq {old : Int} : ∀ {sp : List Sp} {e : Int}, spc old e sp → lonZ sp = ((8 * sp.length + lenS sp : Nat) : Int)
  | [], _, _ => rfl
  | s :: r, e, ⟨h1, h2, h3, h4⟩ => by
    have ih := lonZ_eq h4
    have e1 : lonZ (s :: r) = 8 + s.2 - s.1 + lonZ r := by unfold lonZ; simp
    have e2 : lenS (s :: r) = (s.2 - s.1).toNat + lenS r := rfl
    rw [e1, ih, e2, List.length_cons]
    omega
theorem num4 {data : List UInt8} {lim v : Int} (h0 : 0 ≤ v) (h1 : v ≤ 4294967295) (hl : (data.length : Int) + 4 ≤ lim) : numB data lim 0 v 4 = (data ++ leB 4 v.toNat, 0) := by
  unfold numB
  rw [if_neg (by simp), if_neg (by rw [show (((256 ^ 4 : Nat)) : Int) = 4294967296 by decide]; omega), if_neg (by omega)]
theorem txt0 {data s : List UInt8} {lim : Int} (hl : (data.length : Int) + s.length ≤ lim) : txtB data lim 0 s = (data ++ s, 0) := by
  unfold txtB
  rw [if_neg (by simp), if_neg (by omega)]
theorem takeB0 (data : List UInt8) : takeB data 0 = data := by unfold takeB; rw [if_neg (by simp)]
theorem flat_succ {α : Type} {f : α → List UInt8} {l : List α} {i : Nat} (h : i < l.length) : (l.take (i + 1)).flatMap f = (l.take i).flatMap f ++ f l[i] := by
  rw [List.take_succ_eq_append_getElem h, List.flatMap_append]; simp
def refE (s : DS) (seq size : Int) (ws : List Wr) : Int :=
  if seq < 0 ∨ 4294967295 < seq ∨ ¬ (0 ≤ size ∧ size ≤ 16777216) then 1 else if s.dead = true then 12 else if aplE s.now.length size ws ≠ 0 then aplE s.now.length size ws
  else if (lkV s.now).1.1 ≠ 0 ∨ (lkV (aplR s.now size ws)).1.1 ≠ 0 then 141 else if s.room < filU s.now size ws then 142 else 0
def updR (s : DS) (seq size : Int) (ws : List Wr) : Int × DS := if refE s seq size ws ≠ 0 then (refE s seq size ws, s) else runS s (opsU s.now seq size ws)
end Vw

namespace Vw
open Go
section
variable {c : List UInt8} {seq size : Int} {ws : List Wr} {F bp k : Nat} {t : DS}
attribute [local irreducible] Vw.sdS Vw.zt Vw.bkL Vw.upZ Vw.filZ Vw.bkOk Vw.decOk Vw.putPs Vw.segS Vw.lkV Vw.seOk Vw.bodyB
def pcU (ws : List Wr) : List Pc := ws.map fun z => (z.1.toNat, z.2.2.2)
def newU (c : List UInt8) (size : Int) (ws : List Wr) : List UInt8 := putPs (baseW c size.toNat) (pcU ws)
end
end Vw

namespace Vw
open Go
attribute [local irreducible] Vw.sdS Vw.zt Vw.bkL Vw.upZ Vw.filZ Vw.bkOk Vw.decOk Vw.putPs Vw.segS Vw.lkV Vw.seOk Vw.bodyB
structure Idle (s : DS) : Prop where
  dead : s.dead = false
  fuse : -1 ≤ s.fuse
  pcs : s.pcs = []
  sizes : s.sizes = []
  dur : s.dur = s.now
def offS (s : DS) : DS := { s with fuse := -1 }
theorem ref_facts {s : DS} {seq size : Int} {ws : List Wr} (h : refE s seq size ws = 0) (hn : s.now.length ≤ 16777216) : UOk s.now seq size ws ∧ filU s.now size ws ≤ s.room ∧ aplE s.now.length size ws = 0 ∧ (lkV s.now).1.1 = 0 ∧ (lkV (aplR s.now size ws)).1.1 = 0 ∧ s.dead = false := by
  unfold refE at h
  split at h
  · exact absurd h (by decide)
  · rename_i h1
    split at h
    · exact absurd h (by decide)
    · rename_i hd
      split at h
      · rename_i h2; exact absurd h h2
      · rename_i h2
        split at h
        · exact absurd h (by decide)
        · rename_i h3
          split at h
          · exact absurd h (by decide)
          · rename_i h4
            have h0 : aplE s.now.length size ws = 0 := by simpa using h2
            have u : (s.now.length : Int) ≤ 16777216 ∧ (0 ≤ size ∧ size ≤ 16777216) ∧ rgt size ws 0 = true := by
              unfold aplE at h0
              split at h0
              · exact absurd h0 (by decide)
              · rename_i h5
                split at h0
                · exact absurd h0 (by decide)
                · rename_i h6
                  exact ⟨by omega, by omega, by simpa using h6⟩
            simp only [not_or, ne_eq, Classical.not_not] at h3
            exact ⟨⟨by omega, by omega, u.2.1, u.2.2⟩, by omega, h0, h3.1, h3.2, by simpa using hd⟩
section
variable {P : Program} {ops : Array Oper} {rest : List Oper} {a : Act} {w : World} {N : Nat} {L : List (Nat × Value)} {d i : Nat} {op : Op} {ty : TypeId} {pos : String} {after : Array Edge}
end
end Vw
