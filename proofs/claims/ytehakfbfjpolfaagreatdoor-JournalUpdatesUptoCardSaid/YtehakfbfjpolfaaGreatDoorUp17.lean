/- Texts 17 of 17 that the law rests on: the small library, contracts of functions, printed by a program. -/
import Derived.Test.YtehakfbfjpolfaaGreatDoorRows
import Derived.Deep.Slices
import Derived.OpenShut
import Derived.ProofKit
import Derived.Carry
import Derived.JoinedCond
import Derived.Test.YtehakfbfjpolfaaGreatDoorUp1
import Derived.Test.YtehakfbfjpolfaaGreatDoorUp2
import Derived.Test.YtehakfbfjpolfaaGreatDoorUp3
import Derived.Test.YtehakfbfjpolfaaGreatDoorUp4
import Derived.Test.YtehakfbfjpolfaaGreatDoorUp5
import Derived.Test.YtehakfbfjpolfaaGreatDoorUp6
import Derived.Test.YtehakfbfjpolfaaGreatDoorUp7
import Derived.Test.YtehakfbfjpolfaaGreatDoorUp8
import Derived.Test.YtehakfbfjpolfaaGreatDoorUp9
import Derived.Test.YtehakfbfjpolfaaGreatDoorUp10
import Derived.Test.YtehakfbfjpolfaaGreatDoorUp11
import Derived.Test.YtehakfbfjpolfaaGreatDoorUp12
import Derived.Test.YtehakfbfjpolfaaGreatDoorUp13
import Derived.Test.YtehakfbfjpolfaaGreatDoorUp14
import Derived.Test.YtehakfbfjpolfaaGreatDoorUp15
import Derived.Test.YtehakfbfjpolfaaGreatDoorUp16
set_option maxRecDepth 100000
set_option linter.all false
namespace Go.Proofs.YtehakfbfjpolfaaGreatDoor
open Go Vw
open Go.Deep Go.ChangeShapes Go.WideShapes Go.ChangeAt Go.RowKit
theorem choose_list {α : Type} {p : Nat → α → Prop} : ∀ n : Nat, (∀ i, i < n → ∃ y, p i y) → ∃ l : List α, l.length = n ∧ ∀ (i : Nat) (h : i < l.length), p i l[i]
  | 0, _ => ⟨[], rfl, fun i h => absurd h (by simp)⟩
  | n + 1, h => by
    obtain ⟨l, hl, hp⟩ := choose_list n (fun i hi => h i (by omega))
    obtain ⟨y, hy⟩ := h n (by omega)
    refine ⟨l ++ [y], by simp [hl], fun i hi => ?_⟩
    by_cases e : i < l.length
    · rw [List.getElem_append_left e]; exact hp i e
    · have e2 : i = l.length := by simp at hi; omega
      subst e2
      rw [List.getElem_append_right (Nat.le_refl _)]
      simpa [hl] using hy
theorem sum_le {α H : Type} (bulk : α → Nat) : ∀ (l : List α) (D : Nat → DataW H), (∀ (i : Nat) (h : i < l.length), bulk l[i] ≤ Rows.uptoBulk (D i)) → (l.map bulk).sum ≤ Rows.uptoBulkAll ((List.range l.length).map D)
  | [], _, _ => by simp
  | x :: l, D, h => by
    have ih := sum_le bulk l (fun i => D (i + 1)) (fun i hi => h (i + 1) (by simpa using hi))
    have h0 := h 0 (by simp)
    simp only [List.length_cons, List.range_succ_eq_map, List.map_cons, List.map_map, List.sum_cons, Rows.uptoBulkAll]
    exact Nat.add_le_add h0 ih
def Opens {α : Type} (t : TypeId) (f : α → List Value) (good : Heaplet → α → Prop) (bulk : α → Nat) : Prop :=
  ∀ (H : Type) (enc : TypeId × Value → H) (w : World) (fuel : Nat) (cs : List Value) (x : DataW H × List MemPlace),
    DataW.trod enc Tryz.prog w 0 (fun _ => true) true fuel t cs = some x → ∃ y : α, cs = f y ∧ good (hp w) y ∧ bulk y ≤ Rows.uptoBulk x.1
theorem opens_slice {α : Type} {t e sz : Nat} {f : α → List Value} {good : Heaplet → α → Prop} {bulk : α → Nat} (ht : Tryz.prog.underlying t = some (.slice e)) (hc : Tryz.prog.cellsOf e = sz) (h0 : 0 < sz) (hf : ∀ y, (f y).length = sz) (he : Opens e f good bulk) :
    Opens t (fun y : Option Addr × Nat × List α => [.slice y.1 y.2.2.length y.2.1]) (fun h y => RdS f sz h (.slice y.1 y.2.2.length y.2.1) y.2.2 ∧ ∀ z ∈ y.2.2, good h z) (fun y => (y.2.2.map bulk).sum + 1) := by
  intro H enc w fuel cs x h
  rcases open_slice ht h with ⟨rfl, rfl⟩ | ⟨a, len, cap, m, n, D, Pl, rfl, hb, hl, hm, hmm, rfl, hx⟩
  · exact ⟨(none, 0, []), rfl, ⟨⟨by simp, .inl ⟨0, rfl, rfl⟩⟩, by simp⟩, Nat.le_refl _⟩
  · have hm' : m = cap := by simpa using hmm
    obtain ⟨l, hl1, hl2⟩ := choose_list (p := fun i y => w.cells? 0 (a.add (i * sz)) sz = some (f y) ∧ good (hp w) y ∧ bulk y ≤ Rows.uptoBulk (D i)) len (fun i hi => by
      obtain ⟨cs', h1, h2⟩ := hx i (by omega)
      rw [hc] at h1
      obtain ⟨y, rfl, hg, hb'⟩ := he H enc w n cs' _ h2
      exact ⟨y, h1, hg, hb'⟩)
    subst hl1
    refine ⟨(some a, cap, l), rfl, ⟨⟨?_, .inr ⟨a, cap, rfl, hl, ?_⟩⟩, ?_⟩, ?_⟩
    · show (l.flatMap f).length = l.length * sz
      clear hl hx hl2 hmm h
      induction l with
      | nil => simp
      | cons z l ih => simp only [List.flatMap_cons, List.length_append, hf, List.length_cons, Nat.succ_mul]; omega
    · intro j u hj
      have hlen : (l.flatMap f).length = l.length * sz := by
        clear hl hx hl2 hmm h hj
        induction l with
        | nil => simp
        | cons z l ih => simp only [List.flatMap_cons, List.length_append, hf, List.length_cons, Nat.succ_mul]; omega
      have hjl : j < l.length * sz := by rw [← hlen]; exact (List.getElem?_eq_some_iff.1 hj).1
      have hi : j / sz < l.length := (Nat.div_lt_iff_lt_mul h0).2 hjl
      have hr : j % sz < sz := Nat.mod_lt _ h0
      have e : j = j / sz * sz + j % sz := by rw [Nat.mul_comm]; exact (Nat.div_add_mod j sz).symm
      rw [e, flatMap_get hf l _ _ hi hr] at hj
      have := (World.cells?_some (hl2 _ hi).1).2.2 _ hr
      rw [hj, Addr_add_add, ← e, cell_hp] at this
      exact this
    · intro z hz
      obtain ⟨i, hi, rfl⟩ := List.getElem_of_mem hz
      exact (hl2 i hi).2.1
    · have := sum_le bulk l D (fun i hi => (hl2 i hi).2.2)
      show (l.map bulk).sum + 1 ≤ Rows.uptoBulkAll _ + Rows.uptoBulkAll _ + 1
      omega
theorem opens_i64 {t : Nat} (ht : Tryz.prog.underlying t = some (.int .i64)) : Opens t (fun n : Int => [.int .i64 n]) (fun _ n => -9223372036854775808 ≤ n ∧ n ≤ 9223372036854775807) (fun _ => 1) := by
  intro H enc w fuel cs x h
  obtain ⟨n, rfl, rfl, hw⟩ := DataW.trod_int ht h
  refine ⟨n, rfl, by simpa [Lit.wf, IntKind.min, IntKind.max, IntKind.signed, IntKind.bits] using hw, Nat.le_refl _⟩
theorem opens_u8 {t : Nat} (ht : Tryz.prog.underlying t = some (.int .u8)) : Opens t (fun n : UInt8 => [u8v n]) (fun _ _ => True) (fun _ => 1) := by
  intro H enc w fuel cs x h
  obtain ⟨n, rfl, rfl, hw⟩ := DataW.trod_int ht h
  have hw' : 0 ≤ n ∧ n ≤ 255 := by simpa [Lit.wf, IntKind.min, IntKind.max, IntKind.signed, IntKind.bits] using hw
  refine ⟨UInt8.ofNat n.toNat, ?_, trivial, Nat.le_refl _⟩
  have : (UInt8.ofNat n.toNat).toNat = n.toNat := by simp [UInt8.toNat_ofNat]; omega
  simp only [u8v, this, Int.toNat_of_nonneg hw'.1]
theorem opens_bytes {t e : Nat} (ht : Tryz.prog.underlying t = some (.slice e)) (he : Tryz.prog.underlying e = some (.int .u8)) (hc : Tryz.prog.cellsOf e = 1) :
    Opens t (fun y : Option Addr × Nat × List UInt8 => [.slice y.1 y.2.2.length y.2.1]) (fun h y => RdB h (.slice y.1 y.2.2.length y.2.1) y.2.2) (fun y => y.2.2.length + 1) := by
  intro H enc w fuel cs x h
  obtain ⟨y, hy, ⟨hg, _⟩, hb⟩ := opens_slice ht hc (by omega) (fun _ => rfl) (opens_u8 he) H enc w fuel cs x h
  refine ⟨y, hy, ?_, ?_⟩
  · have e1 : y.2.2.flatMap (fun n : UInt8 => [u8v n]) = y.2.2.map u8v := by
      induction y.2.2 with
      | nil => rfl
      | cons a l ih => simp; exact ih
    unfold RdS at hg
    rw [e1] at hg
    exact hg
  · have e2 : (y.2.2.map (fun _ : UInt8 => 1)).sum = y.2.2.length := by
      induction y.2.2 with
      | nil => rfl
      | cons a l ih => simp; omega
    simp only [e2] at hb
    exact hb
theorem trodAll_stays {H : Type} {enc : TypeId × Value → H} (hl : laidOutB Tryz.prog = true) {W W' : World} {sp' : Nat → Bool} : ∀ {ts : List TypeId} {vs : List Value} {ds : List (DataW H)} {ps : List MemPlace},
    (∀ t ∈ ts, Tryz.prog.readableRec t = true ∧ t < Tryz.prog.types.size) → DataW.TrodAll enc Tryz.prog W 0 (fun _ => true) true ts vs ds ps → (∀ p ∈ ps, W.sameAt W' p) → (∀ p ∈ ps, sp' p.block = true) →
    DataW.TrodAll enc Tryz.prog W' 0 sp' true ts vs ds ps
  | [], vs, ds, ps, _, h, _, _ => by
    obtain ⟨rfl, rfl, rfl⟩ := trodAll_nil h
    exact trodAll_mk0
  | t :: ts, vs, ds, ps, ht, h, hs, hp => by
    obtain ⟨v0, vs0, d0, ds0, p0, q0, rfl, rfl, rfl, h0, r0⟩ := trodAll_cons h
    exact trodAll_cons_mk (WideElems.Trod_stays hl (ht t (by simp)).1 (ht t (by simp)).2 h0 (fun x hx => hs x (by simp [hx])) (fun x hx => hp x (by simp [hx])))
      (trodAll_stays hl (fun u hu => ht u (by simp [hu])) r0 (fun x hx => hs x (by simp [hx])) (fun x hx => hp x (by simp [hx])))
theorem post_of_kept {H : Type} {enc : TypeId × Value → H} {f : Func} {s : ChangeSpec} {apart fresh handsOn again : Bool} {W W' : World} {args : Array Value} {v : Value} {ds gs : List (DataW H)} {before pa pv : List MemPlace}
    (hW : DataW.Whole enc Tryz.prog f.params.toList s.vars apart W args.toList ds gs before)
    (hres : ∀ (b : Nat) (sp : Nat → Bool) (hd : Bool), DataW.TrodAll enc Tryz.prog W' b sp hd f.resultTypes.toList (v.resultList f.resultTypes.size) (s.fn H (ds ++ gs)).results [])
    (hargs : ∀ sp : Nat → Bool, (∀ p ∈ before, sp p.block = true) → DataW.TrodAll enc Tryz.prog W' 0 sp true f.params.toList args.toList (s.fn H (ds ++ gs)).args pa)
    (hvars : ∀ sp : Nat → Bool, (∀ p ∈ before, sp p.block = true) → DataW.TrodVars enc Tryz.prog W' sp s.vars (s.fn H (ds ++ gs)).vars pv)
    (hps : before = pa ++ pv) (hk : Kept W W' None_)
    (hok : ∀ (j : Nat) (t : TypeId) (r : Value), f.resultTypes[j]? = some t → (v.resultList f.resultTypes.size)[j]? = some r → Value.okWide Tryz.prog W' .any 0 t r) :
    s.post enc Tryz.prog f apart fresh handsOn again W args v W' := by
  have hold : ∀ p ∈ before, (fun b => decide (b < W.heap.size)) p.block = true := fun p hp => by simpa using hW.lt p hp
  refine ⟨ds, gs, before, [], pa, pv, hW, hres _ _ _, hargs _ hold, hvars _ hold, World.keptBut_mono (fun p hp => ⟨hp, ?_⟩) (hk.below.frame (· ∈ before)), fun _ => ?_⟩
  · rw [hps, List.mem_append] at hp
    exact Or.inr hp
  · have hlt := hW.lt
    obtain ⟨_, _, _, _, _, hz, hn⟩ := hW
    refine ⟨hok, _, _, ([] ++ pa) ++ pv, ⟨[] ++ pa, pv, trodAll_append (hargs _ (fun _ _ => rfl)) (hres _ _ _), hvars _ (fun _ _ => rfl), rfl, ?_, ?_⟩, ?_⟩
    · intro b off hp
      have hp' : MemPlace.cell b off ∈ before := by rw [hps]; simpa using hp
      rw [hk.below.frozen (p := ⟨b, off, none⟩) (hlt _ hp')]
      exact hz b off hp'
    · intro ha
      have := hn ha
      rw [hps] at this
      simpa using this
    · intro p hp _
      rw [hps]
      simpa using hp
theorem len_le_sum {α : Type} {bulk : α → Nat} (h : ∀ y, 1 ≤ bulk y) : ∀ l : List α, l.length ≤ (l.map bulk).sum
  | [] => Nat.le_refl _
  | x :: l => by have := len_le_sum h l; have := h x; simp only [List.map_cons, List.sum_cons, List.length_cons]; omega
theorem laid : laidOutB Tryz.prog = true := by kernel_rfl
theorem one_cell {v u : Value} (hv : v.cells = #[v]) (h : v.cells.toList = [u]) : v = u := by
  rw [hv] at h; simpa using h
theorem cells_int {W : World} {r : Reach} {b t : Nat} {k : IntKind} {v : Value} (ht : Tryz.prog.underlying t = some (.int k)) (h : Value.okWide Tryz.prog W r b t v) : v.cells = #[v] := by
  obtain ⟨n, rfl⟩ := okWide_int ht h; rfl
theorem cells_slice {W : World} {r : Reach} {b t e : Nat} {v : Value} (ht : Tryz.prog.underlying t = some (.slice e)) (h : Value.okWide Tryz.prog W r b t v) : v.cells = #[v] := by
  obtain ⟨_, _, _, rfl⟩ := okWide_slice ht h; rfl
theorem opens_54 : Opens 54 (fun y : Int × Option Addr × Nat × List UInt8 => [.int .i64 y.1, .slice y.2.1 y.2.2.2.length y.2.2.1]) (fun h y => ((-9223372036854775808 ≤ y.1 ∧ y.1 ≤ 9223372036854775807) ∧ (RdB h (.slice y.2.1 y.2.2.2.length y.2.2.1) y.2.2.2))) (fun y => (1 + (y.2.2.2.length + 1) + 1)) := by
  intro H enc w fuel cs x h
  obtain ⟨xs, n, _, rfl, hl, hlen, hf⟩ := DataW.trod_struct Tryz.underlying54 h
  replace hl : cs.length = 2 := hl.trans (by kernel_rfl)
  match xs, hlen with
  | [x0, x1], _ =>
    match cs, hl with
    | [c0, c1], _ =>
      have h0 := hf 0 _ rfl
      have s0 : Tryz.prog.cellsOf 3 = 1 := by kernel_rfl
      replace h0 : DataW.trod enc Tryz.prog w 0 (fun _ => true) true n 3 (([c0, c1].drop 0).take (Tryz.prog.cellsOf 3)) = some x0 := h0
      rw [s0] at h0
      obtain ⟨y0, e0, g0, b0⟩ := (opens_i64 Tryz.underlying3) H enc w n [c0] x0 h0
      have h1 := hf 1 _ rfl
      have s1 : Tryz.prog.cellsOf 22 = 1 := by kernel_rfl
      replace h1 : DataW.trod enc Tryz.prog w 0 (fun _ => true) true n 22 (([c0, c1].drop 1).take (Tryz.prog.cellsOf 22)) = some x1 := h1
      rw [s1] at h1
      obtain ⟨y1, e1, g1, b1⟩ := (opens_bytes Tryz.underlying22 Tryz.underlying5 (by kernel_rfl)) H enc w n [c1] x1 h1
      refine ⟨(y0, y1), ?_, ⟨g0, g1⟩, ?_⟩
      · simp only [List.cons.injEq, and_true] at e0 e1 ⊢
        simp_all
      · simp only [List.map_cons, List.map_nil, Rows.uptoBulk, Rows.uptoBulkAll]
        replace b0 : 1 ≤ Rows.uptoBulk x0.1 := b0
        replace b1 : (y1.2.2.length + 1) ≤ Rows.uptoBulk x1.1 := b1
        omega
theorem opens_64 : Opens 64 (fun y : Int × (Option Addr × Nat × List (Int)) × Int => [.int .i64 y.1, .slice y.2.1.1 y.2.1.2.2.length y.2.1.2.1, .int .i64 y.2.2]) (fun h y => ((-9223372036854775808 ≤ y.1 ∧ y.1 ≤ 9223372036854775807) ∧ (RdS (fun z : Int => [(.int .i64 z : Value)]) 1 h (.slice y.2.1.1 y.2.1.2.2.length y.2.1.2.1) y.2.1.2.2 ∧ ∀ z ∈ y.2.1.2.2, (-9223372036854775808 ≤ z ∧ z ≤ 9223372036854775807)) ∧ (-9223372036854775808 ≤ y.2.2 ∧ y.2.2 ≤ 9223372036854775807))) (fun y => (1 + ((y.2.1.2.2.map (fun z : Int => 1)).sum + 1) + 1 + 1)) := by
  intro H enc w fuel cs x h
  obtain ⟨xs, n, _, rfl, hl, hlen, hf⟩ := DataW.trod_struct Tryz.underlying64 h
  replace hl : cs.length = 3 := hl.trans (by kernel_rfl)
  match xs, hlen with
  | [x0, x1, x2], _ =>
    match cs, hl with
    | [c0, c1, c2], _ =>
      have h0 := hf 0 _ rfl
      have s0 : Tryz.prog.cellsOf 3 = 1 := by kernel_rfl
      replace h0 : DataW.trod enc Tryz.prog w 0 (fun _ => true) true n 3 (([c0, c1, c2].drop 0).take (Tryz.prog.cellsOf 3)) = some x0 := h0
      rw [s0] at h0
      obtain ⟨y0, e0, g0, b0⟩ := (opens_i64 Tryz.underlying3) H enc w n [c0] x0 h0
      have h1 := hf 1 _ rfl
      have s1 : Tryz.prog.cellsOf 62 = 1 := by kernel_rfl
      replace h1 : DataW.trod enc Tryz.prog w 0 (fun _ => true) true n 62 (([c0, c1, c2].drop 1).take (Tryz.prog.cellsOf 62)) = some x1 := h1
      rw [s1] at h1
      obtain ⟨y1, e1, g1, b1⟩ := (opens_slice (sz := 1) Tryz.underlying62 (by kernel_rfl) (by decide) (fun _ => rfl) (opens_i64 Tryz.underlying3)) H enc w n [c1] x1 h1
      have h2 := hf 2 _ rfl
      have s2 : Tryz.prog.cellsOf 3 = 1 := by kernel_rfl
      replace h2 : DataW.trod enc Tryz.prog w 0 (fun _ => true) true n 3 (([c0, c1, c2].drop 2).take (Tryz.prog.cellsOf 3)) = some x2 := h2
      rw [s2] at h2
      obtain ⟨y2, e2, g2, b2⟩ := (opens_i64 Tryz.underlying3) H enc w n [c2] x2 h2
      refine ⟨(y0, y1, y2), ?_, ⟨g0, g1, g2⟩, ?_⟩
      · simp only [List.cons.injEq, and_true] at e0 e1 e2 ⊢
        simp_all
      · simp only [List.map_cons, List.map_nil, Rows.uptoBulk, Rows.uptoBulkAll]
        replace b0 : 1 ≤ Rows.uptoBulk x0.1 := b0
        replace b1 : ((y1.2.2.map (fun z : Int => 1)).sum + 1) ≤ Rows.uptoBulk x1.1 := b1
        replace b2 : 1 ≤ Rows.uptoBulk x2.1 := b2
        omega
end Go.Proofs.YtehakfbfjpolfaaGreatDoor
