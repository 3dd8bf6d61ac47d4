/- The small proof library: a range over the map of pieces; pieces read. -/
import Derived.Test.YtehakfbfjpolfaaDoorVN
set_option linter.all false
namespace Vw
open Go
/-- Whoever holds R may read the slice as these parts. -/
def RdyS {α : Type} (f : α → List Value) (sz : Nat) (σ : Sig) (R : List Asrt) (v : Value) (l : List α) : Prop := ∀ (w : World) (L : List Asrt), St σ w (L ++ R) → RdS f sz (hp w) v l
theorem RdyS.old {α : Type} {f : α → List Value} {sz : Nat} {w0 : World} {R : List Asrt} {v : Value} {l : List α} (h : RdS f sz (hp w0) v l) : RdyS f sz ⟨w0, None_⟩ R v l := fun w L hs => hs.old h
theorem RdyS.own {α : Type} {f : α → List Value} {sz T : Nat} {σ : Sig} {R R' : List Asrt} {v : Value} {l : List α} (tk : Take (sl T sz v l.length (l.flatMap f)) R R') : RdyS f sz σ R v l := fun w L hs => hs.rd (take_append tk L) fun h hh => sl_rd hh
def iF (n : Int) : List Value := [.int .i64 n]
theorem RdS.pre {α : Type} {f : α → List Value} {sz : Nat} (hf : ∀ x, (f x).length = sz) {h : Heaplet} {a : Option Addr} {c : Nat} {l : List α} (r : RdS f sz h (.slice a l.length c) l) {m : Nat} (hm : m ≤ l.length) : RdS f sz h (.slice a m c) (l.take m) := by
  have h0 := RdC.sub (l := 0) (m := m) r (by omega) hm
  have e : subA a c 0 sz = a := by unfold subA; split <;> simp [Addr.add]
  rw [e] at h0
  have hlen : ∀ l : List α, (l.flatMap f).length = l.length * sz := by
    intro l
    induction l with
    | nil => simp
    | cons z l ih => simp only [List.flatMap_cons, List.length_append, hf, List.length_cons, Nat.succ_mul, ih]; omega
  have e2 : (l.flatMap f).take (m * sz) = (l.take m).flatMap f := by
    conv => lhs; rw [← List.take_append_drop m l, List.flatMap_append]
    have e3 : ((l.take m).flatMap f).length = m * sz := by rw [hlen, List.length_take, Nat.min_eq_left hm]
    rw [← e3, List.take_left]
  unfold RdS
  have e4 : (l.take m).length = m := by rw [List.length_take]; omega
  rw [e4, ← e2]
  simpa using h0
theorem RdC.get {h : Heaplet} {a : Addr} {sz n c : Nat} {xs : List Value} (r : RdC h (.slice (some a) n c) sz n xs) {j : Nat} {u : Value} (hj : xs[j]? = some u) : cellH h (a.add j) = some u := by
  rcases r.2 with ⟨c', e, hn⟩ | ⟨a', c', e, _, hc⟩
  · cases e
  · cases e; exact hc j u hj
theorem RdC.some {h : Heaplet} {a : Option Addr} {sz n c : Nat} {xs : List Value} (r : RdC h (.slice a n c) sz n xs) (hn : 0 < n) : ∃ a', a = some a' := by
  rcases r.2 with ⟨c', e, h0⟩ | ⟨a', c', e, _⟩
  · omega
  · cases e; exact ⟨a', rfl⟩

theorem RdC.cap {h : Heaplet} {a : Option Addr} {sz n c : Nat} {xs : List Value} (r : RdC h (.slice a n c) sz n xs) : n ≤ c := by
  rcases r.2 with ⟨c', e, hn⟩ | ⟨a', c', e, hc, _⟩
  · omega
  · injection e with e1 e2 e3; omega
theorem pcF_one {h : Heaplet} {p : Pt} (hp : RdB h p.2.1 p.2.2) : ∀ v ∈ pcF p, v.oneCell' = true := by
  obtain ⟨a, c, e⟩ := hp.shape
  intro v hv
  simp only [pcF, List.mem_cons, List.not_mem_nil, or_false] at hv
  rcases hv with rfl | rfl
  · rfl
  · rw [e]; rfl
theorem datA_rd {T : Nat} : ∀ (ps : List Pt) (h : Heaplet), datA T ps h → ∀ p ∈ ps, RdB h p.2.1 p.2.2
  | [], _, _, p, hp => absurd hp (by simp)
  | q :: ps, h, hh, p, hp => by
    obtain ⟨h1, h2, _, l1, l2, a1, a2⟩ := hh
    rcases List.mem_cons.1 hp with rfl | hp
    · exact RdC.mono l1 (slB_rd a1)
    · exact RdC.mono l2 (datA_rd ps h2 a2 p hp)
theorem entsA_rd {Q T : Nat} : ∀ (es : List Ent) (h : Heaplet), entsA Q T es h → ∀ e ∈ es, (∃ a c, e.val = .slice a e.ps.length c) ∧ RdS pcF 2 h e.val e.ps ∧ ∀ p ∈ e.ps, RdB h p.2.1 p.2.2
  | [], _, _, e, he => absurd he (by simp)
  | x :: es, h, hh, e, he => by
    obtain ⟨h1, h2, _, l1, l2, a1, a2⟩ := hh
    rcases List.mem_cons.1 he with rfl | he
    · obtain ⟨h3, h4, _, l3, l4, a3, a4⟩ := a1
      refine ⟨?_, RdC.mono (l3.trans l1) (sl_rd a3), fun p hp => RdC.mono (l4.trans l1) (datA_rd _ h4 a4 p hp)⟩
      rcases a3.2 with ⟨e1, hn⟩ | ⟨b, cap, cur, e1, _⟩
      · exact ⟨none, 0, by rw [e1, hn]⟩
      · exact ⟨_, cap, e1⟩
    · obtain ⟨b1, b2, b3⟩ := entsA_rd es h2 a2 e he
      exact ⟨b1, RdC.mono l2 b2, fun p hp => RdC.mono l2 (b3 p hp)⟩
theorem St.ents {σ : Sig} {w : World} {L R : List Asrt} {Q T : Nat} {es : List Ent} (hs : St σ w L) (tk : Take (entsA Q T es) L R) {e : Ent} (he : e ∈ es) :
    (∃ a c, e.val = .slice a e.ps.length c) ∧ RdS pcF 2 (hp w) e.val e.ps ∧ ∀ p ∈ e.ps, RdB (hp w) p.2.1 p.2.2 := by
  refine (hs.take tk).see fun h hh hA => ?_
  obtain ⟨b1, b2, b3⟩ := entsA_rd es h hA e he
  exact ⟨b1, RdC.mono (fun k o e => hh k o e) b2, fun p hp => RdC.mono (fun k o e => hh k o e) (b3 p hp)⟩
theorem St.dats {σ : Sig} {w : World} {L R : List Asrt} {T : Nat} {ps : List Pt} (hs : St σ w L) (tk : Take (datA T ps) L R) {p : Pt} (hp' : p ∈ ps) : RdB (hp w) p.2.1 p.2.2 := by
  refine (hs.take tk).see fun h hh hA => ?_
  exact RdC.mono (fun k o e => hh k o e) (datA_rd ps h hA p hp')

section
variable {P : Program} {ρ : Operand → Value} {K : Value → World → Prop} {w : World}
variable {d : Option Nat} {ty : TypeId} {pos : String} {after : Array Edge} {g : Option (Nat × Bool)}
variable {σ : Sig} {L L' R R' : List Asrt}
def nxt (b : Bool) (e : Ent) : Array Value := if b then #[.bool true, .int .i64 (e.sec : Int), e.val] else #[.bool false]
def sn (b : Bool) (e : Ent) (seen : Array Nat) : Array Nat := if b then seen.push e.born else seen
theorem nxt_0 (b : Bool) (e : Ent) : (nxt b e)[0]? = some (.bool b) := by cases b <;> rfl
theorem y_nextB {m r since : Nat} {x : Operand} {seen : Array Nat} {es : List Ent} (hs : St σ w (blk r (.mapIter (some m) since seen since) :: R)) (hx : ρ x = .pointer (some ⟨r, 0, none⟩)) (tk : Take (mapA m es since) R R') (hok : MOk es since)
    (h : ∀ (b : Bool) (e : Ent) (w' : World), St σ w' (blk r (.mapIter (some m) since (sn b e seen) since) :: R) → (b = true → e ∈ es ∧ e.born ∉ seen.toList) → (b = false → ∀ e ∈ es, e.born ∈ seen.toList) → K (.tuple (nxt b e)) w') :
    Does P ρ ⟨d, .next x false, ty, pos, after, g⟩ w K := by
  refine y_next hs hx (.there _ tk) hok (fun s' => ⟨_, .here _, fun w' hs' e he h1 h2 => ?_⟩) (fun hall => ?_)
  · subst h1
    exact h true e w' hs' (fun _ => ⟨he, h2⟩) (fun h => by cases h)
  · exact h false ⟨0, 0, .slice none 0 0, []⟩ w hs (fun h => by cases h) (fun _ => hall)
theorem x_entry {m r since clock : Nat} {x : Operand} {seen : Array Nat} {es : List Ent} {e : Ent} (hx : ρ x = .pointer (some ⟨r, 0, none⟩)) (hr : w.heap[r]? = some (.mapIter (some m) since (seen.push e.born) clock)) (hb : w.heap[m]? = some (.map (es.map Ent.mem).toArray clock)) (he : e ∈ es) (hok : MOk es clock) :
    (execOp ρ ⟨d, .entry x, ty, pos, after, g⟩).run P w = .ok (.value (.tuple #[.int .i64 (e.sec : Int), e.val])) w := by
  have hn : ((es.map Ent.mem).toArray.toList.map (·.born)).Nodup := by
    have := hok.borns
    simpa [Ent.mem, Function.comp_def] using this
  have hrun := run_entry_at (P := P) w r m since seen (es.map Ent.mem).toArray clock e.mem (by simpa [Ent.mem] using hr) hb (by simp; exact ⟨e, he, rfl⟩) hn
  simp only [execOp, hx, Sem.run_bind, hrun, Result.andThen_ok, Sem.run_pure, Ent.mem]
/-- A load of one cell of an owned slice. -/
theorem x_loadC {t T n c : Nat} {x : Operand} {a : Addr} {xs : List Value} {i : Int} {u : Value} (hs : St σ w L) (ht : ScT P t) (tk : Take (sl T 1 (.slice (some a) n c) n xs) L R) (hx : ρ x = .pointer (some (a.add (i.toNat * 1)))) (hi : xs[i.toNat]? = some u) :
    (execOp ρ ⟨d, .load t x, ty, pos, after, g⟩).run P w = .ok (.value u) w :=
  x_load ht hx (by rw [Nat.mul_one, cell_hp]; exact (hs.rd tk fun h hh => sl_rd hh).get hi)
theorem x_loadI {t c n : Nat} {x : Operand} {a : Addr} {l : List Int} {i : Int} (ht : ScT P t) (hr : RdS iF 1 (hp w) (.slice (some a) n c) l) (hn : l.length = n) (hx : ρ x = .pointer (some (a.add (i.toNat * 1)))) (hi : i.toNat < l.length) :
    (execOp ρ ⟨d, .load t x, ty, pos, after, g⟩).run P w = .ok (.value (.int .i64 l[i.toNat])) w := by
  subst hn
  refine x_load ht hx ?_
  rw [Nat.mul_one, cell_hp]
  have h1 : (l.flatMap iF)[i.toNat * 1 + 0]? = (iF l[i.toNat])[0]? := flatMap_get (sz := 1) (fun _ => rfl) l _ _ hi (by decide)
  refine RdC.get hr ?_
  rw [Nat.mul_one, Nat.add_zero] at h1
  rw [h1]
  rfl
end
theorem unseen_lt {es : List Ent} {seen : Array Nat} {e : Ent} (he : e ∈ es) (hn : e.born ∉ seen.toList) :
    (es.filter fun x => decide (x.born ∉ (seen.push e.born).toList)).length < (es.filter fun x => decide (x.born ∉ seen.toList)).length :=
  filter_lt (fun x => decide (x.born ∉ seen.toList)) (fun x => decide (x.born ∉ (seen.push e.born).toList)) (fun x hx => by simp at hx ⊢; exact hx.1) e (by simpa using hn) (by simp) es he
theorem kept_eq {s : DS} {c : Ch} {es : List Ent} {e : Ent} {clock : Nat} (hm : MOk es clock) (hg : Grp es s.pcs) (he : e ∈ es) : keptP s c e.sec = (e.ps.map pcOf).take (keepOf c e.sec).toNat := by
  unfold keptP
  rw [← hg]
  obtain ⟨pre, post, rfl⟩ := List.append_of_mem he
  rw [eps_in]
  intro x hx
  have hnd := hm.secs
  rw [List.map_append, List.nodup_append] at hnd
  exact hnd.2.2 x.sec (List.mem_map_of_mem hx) e.sec (by simp)
theorem take_min {α : Type} (l : List α) (n : Nat) : l.take (min l.length n) = l.take n := by
  rcases Nat.le_total l.length n with h | h
  · rw [Nat.min_eq_left h, List.take_length, List.take_of_length_le h]
  · rw [Nat.min_eq_right h]
theorem putP_in {out : List UInt8} {p : Pc} (h : p.1 < out.length) : putP out p = spl out p.1 (p.2.take (min p.2.length (out.length - p.1))) := by unfold putP; rw [if_pos h, take_min]
theorem putP_out {out : List UInt8} {p : Pc} (h : out.length ≤ p.1) : putP out p = out := by unfold putP; rw [if_neg (by omega)]
theorem outN_some {s : DS} {c : Ch} (h : 0 < szIx s c) : outN s c = s.sizes.getD ((szIx s c).toNat - 1) 0 := by unfold outN; rw [if_pos h]
theorem outN_none {s : DS} {c : Ch} (h : ¬ 0 < szIx s c) : outN s c = s.dur.length := by unfold outN; rw [if_neg h]
theorem keepOf_in {c : Ch} {sec : Nat} (h : sec < c.2.1.length) : keepOf c sec = c.2.1[sec] := by unfold keepOf; rw [dif_pos h]
theorem keepOf_out {c : Ch} {sec : Nat} (h : ¬ sec < c.2.1.length) : keepOf c sec = c.2.2 := by unfold keepOf; rw [dif_neg h]
theorem szC_get {l : List Nat} {i : Nat} (h : i < l.length) : (szC l)[i]? = some (.int .i64 ((l.getD i 0 : Nat) : Int)) := by simp [szC, h]
end Vw
namespace Vw
open Go
theorem subA_at {b c o : Nat} (h : o < c) : subA (some (⟨b, 0, none⟩ : Addr)) c o 1 = some ⟨b, o, none⟩ := by
  unfold subA
  rw [if_neg (by omega)]
  unfold Addr.add
  simp
  intro h; exact h.symm
end Vw
namespace Vw
open Go
theorem eps_mem {es : List Ent} {e : Ent} {clock : Nat} (hm : MOk es clock) (he : e ∈ es) : eps es e.sec = e.ps.map pcOf := by
  obtain ⟨pre, post, rfl⟩ := List.append_of_mem he
  refine eps_in ?_
  intro x hx
  have hnd := hm.secs
  rw [List.map_append, List.nodup_append] at hnd
  exact hnd.2.2 x.sec (List.mem_map_of_mem hx) e.sec (by simp)
theorem ps_len {es : List Ent} {pcs : List Pc} {e : Ent} {clock : Nat} (hm : MOk es clock) (hg : Grp es pcs) (he : e ∈ es) : e.ps.length ≤ pcs.length := by
  have h1 := eps_len hg e.sec
  rw [eps_mem hm he, List.length_map] at h1
  exact h1
end Vw
