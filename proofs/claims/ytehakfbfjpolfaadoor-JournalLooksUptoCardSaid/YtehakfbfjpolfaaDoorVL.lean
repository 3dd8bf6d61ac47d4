/- The small proof library: maps in memory; zeros appended; the disk in memory. -/
import Derived.Test.YtehakfbfjpolfaaDoorVK
import Derived.Lib.AppendZerosOnto
import Derived.Maps.RangeRun
import Derived.MapKept
set_option linter.all false
namespace Vw
open Go Go.Lib
theorem zeroCells_u8 (n : Nat) : Builtin.zeroCells (Value.int .u8 0).cells n = ((List.replicate n (0 : UInt8)).map u8v).toArray := by
  apply Array.toList_inj.1
  apply List.ext_getElem?
  intro i
  simp only [Builtin.zeroCells, List.map_replicate]
  rw [List.getElem?_replicate]
  by_cases h : i < n
  · simp [h, Value.cells, u8v, Nat.mod_one]
  · simp [h, Value.cells]
section
variable {P : Program} {ρ : Operand → Value} {K : Value → World → Prop} {w : World}
variable {d : Option Nat} {ty : TypeId} {pos : String} {after : Array Edge} {g : Option (Nat × Bool)}
variable {σ : Sig} {L L' R : List Asrt}
theorem run_append_room_zeros (t tn ty e : TypeId) (i : TypeInfo) (kq kn : IntKind) (ht : P.underlying t = some (.slice e)) (htn : P.underlying tn = some (.int kn)) (hi : P.info? e = some i) (hz : i.zero = some (.int .u8 0)) (hs1 : i.size = 1)
    (b sLen sCap : Nat) (cur : List Value) (hg : w.heap[b]? = some (.cells cur.toArray e (0, 0))) (n : Nat) (h0 : 0 < n) (hn : (n : Int) ≤ 9223372036854775807) (hroom : sLen + n ≤ sCap) (hfit : sLen + n ≤ cur.length) (h48 : n * i.bytes ≤ 281474976710656) :
    (Builtin.append_ #[t, tn] ty #[.slice (some ⟨b, 0, none⟩) sLen sCap, .int kq n]).run P w =
      .ok (.slice (some ⟨b, 0, none⟩) (sLen + n) sCap) (w.setRow b (cur.take sLen ++ (List.replicate n (0 : UInt8)).map u8v ++ cur.drop (sLen + n)).toArray) := by
  have hst := run_storeCells_at P b sLen e ((List.replicate n (0 : UInt8)).map u8v) 0 cur.toArray w hg (by simpa using hfit) (by intro v hv; obtain ⟨x, _, rfl⟩ := List.mem_map.1 hv; rfl)
  simp only [Nat.add_zero, List.length_map, List.length_replicate] at hst
  have hzc := zeroCells_u8 n
  have hk : n ≠ 0 := by omega
  have hw : IntKind.i64.wrap (n : Int) = n := wrap_i64 (by omega) (by omega)
  have hneg : ¬ ((n : Int) < 0) := by omega
  have h48i : ¬ (281474976710656 < (n : Int) * (i.bytes : Int)) := by
    rw [← Int.natCast_mul]
    omega
  simp [Builtin.append_, run_underlying ht, run_underlying htn, Go.sizeOf, typeInfo, zeroValue, hi, hz, hs1, asInt, asIntOf, hw, hneg, h48i, hk, hroom, Addr.add_lit, hzc]
  have hst' := hst
  simp at hst'
  rw [hst']
  simp

/-- append of so many zeros onto an owned slice of bytes. -/
theorem y_appendZ {t tn e n : Nat} {x y : Operand} {v : Value} {l : List UInt8} {kq kn : IntKind} {ni : Int} (hs : St σ w L) (ht : SlT P t e 1 1 (.int .u8 0)) (htn : P.underlying tn = some (.int kn))
    (hx : ρ x = v) (hy : ρ y = .int kq ni) (hni : ni = n) (h0 : 0 < n) (tk : Take (slB e v l) L R) (hb : l.length + n ≤ 140737488355328)
    (h : ∀ v' w', St σ w' (slB e v' (l ++ List.replicate n 0) :: R) → K v' w') :
    Does P ρ ⟨d, .call ⟨.builtin .append, #[x, y], #[t, tn]⟩, ty, pos, after, g⟩ w K := by
  subst hni
  obtain ⟨inf, h4, h5, h6, h7⟩ := ht.info
  have hs' := hs.take tk
  obtain ⟨hxs, hcase⟩ : (l.map u8v).length = l.length * 1 ∧ ((v = .slice none 0 0 ∧ l.length = 0) ∨
      ∃ b cap cur, v = .slice (some ⟨b, 0, none⟩) l.length cap ∧ l.length ≤ cap ∧ cap ≤ maxLen ∧ cur.length = cap * 1 ∧ cur.take (l.length * 1) = l.map u8v ∧ St σ w (cb b e cur :: R)) := by
    obtain ⟨hh, hhp, A0, r0, d0, la, lr, ha, hr0⟩ := hs'.has
    refine ⟨ha.1, ?_⟩
    rcases ha.2 with x | ⟨b, cap, cur, e1, e2, e3, e4, e5, e6⟩
    · exact .inl x
    · exact .inr ⟨b, cap, cur, e1, e2, e3, e4, e5, hs'.kept, hh, hhp, A0, r0, d0, la, lr, e6, hr0⟩
  simp only [Nat.mul_one] at hcase
  have hz1 : (Value.int IntKind.u8 0).cells.size = 1 := rfl
  have h63 : l.length + n ≤ maxLen := by rw [maxLen_eq]; omega
  have grown : ∀ (old : Nat), old < l.length + n → St σ (w.drew.alloc (.cells ((l.map u8v).toArray ++ Builtin.zeroCells (Value.int .u8 0).cells n ++ Builtin.zeroCells (Value.int .u8 0).cells (grownCap w (l.length + n) old e - (l.length + n))) e))
      (slB e (.slice (some ⟨w.heap.size, 0, none⟩) (l.length + n) (grownCap w (l.length + n) old e)) (l ++ List.replicate n 0) :: R) := by
    intro old ho
    have hge := grownCap_ge w (l.length + n) old e
    have hcm : grownCap w (l.length + n) old e ≤ maxLen := grownCap_le_maxLen w (l.length + n) old e h63
    have hd : St σ w.drew R := hs'.drop.same rfl rfl rfl rfl
    have := hd.alloc (.cells ((l.map u8v).toArray ++ Builtin.zeroCells (Value.int .u8 0).cells n ++ Builtin.zeroCells (Value.int .u8 0).cells (grownCap w (l.length + n) old e - (l.length + n))) e)
    refine this.imp fun hh hb => ?_
    have e0 : ∀ k, (Builtin.zeroCells (Value.int .u8 0).cells k).toList.length = k := fun k => by rw [Array.length_toList, size_zeroCells, hz1, Nat.mul_one]
    refine ⟨by simp, .inr ⟨w.heap.size, _, ((l ++ List.replicate n 0).map u8v ++ (Builtin.zeroCells (Value.int .u8 0).cells (grownCap w (l.length + n) old e - (l.length + n))).toList), by rw [List.length_append, List.length_replicate], by rw [List.length_append, List.length_replicate]; exact hge, hcm, ?_, ?_, ?_⟩⟩
    · rw [List.length_append, List.length_map, List.length_append, List.length_replicate, e0]; omega
    · rw [Nat.mul_one]
      have : (l ++ List.replicate n (0 : UInt8)).length = ((l ++ List.replicate n (0 : UInt8)).map u8v).length := by simp
      rw [this, List.take_left]
    · show hh w.heap.size = _
      rw [show hh w.heap.size = _ from hb]
      congr 2
      apply Array.toList_inj.1
      have hzc := zeroCells_u8 n
      simp [hzc]
  have fin : ∀ v' w', (Builtin.append_ #[t, tn] ty #[v, .int kq n]).run P w = .ok v' w' → K v' w' → Does P ρ ⟨d, .call ⟨.builtin .append, #[x, y], #[t, tn]⟩, ty, pos, after, g⟩ w K := by
    intro v' w' hrun hk
    refine .value (v := v') (w' := w') ?_ hk
    simp only [execOp, resolve, invoke, builtin, Sem.run_bind, Sem.run_pure, Result.andThen_ok, List.map_toArray, List.map_cons, List.map_nil, hx, hy, hrun]
  rcases hcase with ⟨rfl, hn⟩ | ⟨b, cap, cur, rfl, hnc, hcm, hcl2, htk, hsb⟩
  · have hx0 : l = [] := List.eq_nil_of_length_eq_zero hn
    subst hx0
    have hrun := run_append_nil_zeros (P := P) w t tn ty e inf _ kq kn ht.und htn h4 h7 n h0 (by omega) (by simp at hb; omega) (by rw [h6]; simp at hb; omega)
    have hgr := grown 0 (by simp; omega)
    simp only [List.length_nil, Nat.zero_add, List.nil_append, List.map_nil, Array.empty_append] at hgr hrun h ⊢
    exact fin _ _ hrun (h _ _ (by simpa using hgr))
  · by_cases hroom : l.length + n ≤ cap
    · have hbk : w.heap[b]? = some (.cells cur.toArray e (0, 0)) := hsb.head
      have hrun := run_append_room_zeros (P := P) (w := w) t tn ty e inf kq kn ht.und htn h4 h7 h5 b l.length cap cur hbk n h0 (by omega) hroom (by omega) (by rw [h6]; omega)
      refine fin _ _ hrun (h _ _ ((hsb.wrote (setRow_wrote hbk)).imp fun hh hb' => ⟨by simp, .inr ⟨b, cap, _, by rw [List.length_append, List.length_replicate], by rw [List.length_append, List.length_replicate]; exact hroom, hcm, ?_, ?_, hb'⟩⟩))
      · simp; omega
      · rw [List.length_append, List.length_replicate, Nat.mul_one, htk, ← List.map_append]
        have : l.length + n = ((l ++ List.replicate n (0 : UInt8)).map u8v).length := by simp
        rw [this]
        exact List.take_left
    · have holds : ∀ j u, (l.map u8v)[j]? = some u → w.cell? ((⟨b, 0, none⟩ : Addr).add j) = some u := by
        intro j u hu
        have hadd : (⟨b, 0, none⟩ : Addr).add j = ⟨b, j, none⟩ := by unfold Addr.add; split <;> simp_all
        rw [hadd]
        refine hsb.cell (.here _) ?_
        rw [← htk, List.getElem?_take] at hu
        split at hu
        · exact hu
        · cases hu
      have hold := run_firstCells_some (P := P) w.drew inf.size l.length ⟨b, 0, none⟩ l.length cap (l.map u8v) (by rw [h5]; simp) (by simpa using holds)
      have hrun := run_append_grow_zeros (P := P) w t tn ty e inf _ kq kn ht.und htn h4 h7 (some ⟨b, 0, none⟩) l.length cap (l.map u8v) hold n h0 (by omega) (by omega) (by omega) (by rw [h6]; omega)
        (by rw [h6]; exact growslice_fits (by omega) (by omega))
      exact fin _ _ hrun (h _ _ (grown cap (by omega)))
end

/-! ### The map of pieces -/
structure Ent where
  sec : Nat
  born : Nat
  val : Value
  ps : List (Nat × Value × List UInt8)
def Ent.mem (e : Ent) : MapEntry := ⟨.int .i64 e.sec, e.val, e.born⟩
abbrev Pt := Nat × Value × List UInt8
def pcF (p : Pt) : List Value := [.int .i64 p.1, p.2.1]
def pcOf (p : Pt) : Pc := (p.1, p.2.2)
def datA (T : Nat) : List Pt → Asrt
  | [] => fun _ => True
  | p :: r => star (slB T p.2.1 p.2.2) (datA T r)
def entA (Q T : Nat) (e : Ent) : Asrt := star (sl Q 2 e.val e.ps.length (e.ps.flatMap pcF)) (datA T e.ps)
def entsA (Q T : Nat) : List Ent → Asrt
  | [] => fun _ => True
  | e :: r => star (entA Q T e) (entsA Q T r)
abbrev mapA (m : Nat) (es : List Ent) (clock : Nat) : Asrt := blk m (.map (es.map Ent.mem).toArray clock)
structure MOk (es : List Ent) (clock : Nat) : Prop where
  secs : (es.map (·.sec)).Nodup
  born : ∀ e ∈ es, e.born < clock
  borns : (es.map (·.born)).Nodup
/-- The pieces at a sector. -/
def eps (es : List Ent) (s : Nat) : List Pc := match es.find? (fun e => decide (e.sec = s)) with
  | some e => e.ps.map pcOf
  | none => []
def Grp (es : List Ent) (pcs : List Pc) : Prop := ∀ s, eps es s = secP pcs s
theorem MOk.nil (c : Nat) : MOk [] c := ⟨by simp, by simp, by simp⟩
theorem Grp.nil : Grp [] [] := fun s => rfl

theorem datA_push {σ : Sig} {w : World} {T : Nat} {p : Pt} : ∀ {ps : List Pt} {R : List Asrt}, St σ w (datA T ps :: slB T p.2.1 p.2.2 :: R) → St σ w (datA T (ps ++ [p]) :: R)
  | [], R, hs => by
    have h1 : St σ w (slB T p.2.1 p.2.2 :: R) := hs.drop
    exact ((h1.emp (A := fun _ => True) (fun _ => trivial)).take (.there _ (.here _))).unstar
  | q :: ps, R, hs => by
    have h1 := hs.star
    have h2 : St σ w (datA T ps :: slB T p.2.1 p.2.2 :: slB T q.2.1 q.2.2 :: R) := (h1.take (.there _ (.there _ (.here _)))) |>.take (.there _ (.there _ (.here _)))
    have h3 := datA_push h2
    exact (h3.take (.there _ (.here _))).unstar

theorem entsA_take {σ : Sig} {w : World} {Q T : Nat} {e : Ent} {post : List Ent} : ∀ {pre : List Ent} {R : List Asrt}, St σ w (entsA Q T (pre ++ e :: post) :: R) → St σ w (entA Q T e :: entsA Q T (pre ++ post) :: R)
  | [], R, hs => hs.star
  | q :: pre, R, hs => by
    have h1 := hs.star
    have h2 : St σ w (entsA Q T (pre ++ e :: post) :: entA Q T q :: R) := h1.take (.there _ (.here _))
    have h3 := entsA_take h2
    have h4 : St σ w (entA Q T q :: entsA Q T (pre ++ post) :: entA Q T e :: R) := (h3.take (.there _ (.here _))).take (.there _ (.there _ (.here _)))
    exact (h4.unstar).take (.there _ (.here _))
theorem entsA_give {σ : Sig} {w : World} {Q T : Nat} {e : Ent} {post : List Ent} : ∀ {pre : List Ent} {R : List Asrt}, St σ w (entA Q T e :: entsA Q T (pre ++ post) :: R) → St σ w (entsA Q T (pre ++ e :: post) :: R)
  | [], R, hs => hs.unstar
  | q :: pre, R, hs => by
    have h1 : St σ w (entsA Q T (q :: (pre ++ post)) :: entA Q T e :: R) := hs.take (.there _ (.here _))
    have h2 := h1.star
    have h3 : St σ w (entA Q T e :: entsA Q T (pre ++ post) :: entA Q T q :: R) := (h2.take (.there _ (.here _))).take (.there _ (.there _ (.here _)))
    have h4 := entsA_give h3
    exact (h4.take (.there _ (.here _))).unstar

theorem split_sec (s : Nat) : ∀ es : List Ent, (∃ pre e post, es = pre ++ e :: post ∧ e.sec = s ∧ ∀ x ∈ pre, x.sec ≠ s) ∨ ∀ x ∈ es, x.sec ≠ s
  | [] => .inr (by simp)
  | e :: es => by
    by_cases h : e.sec = s
    · exact .inl ⟨[], e, es, rfl, h, by simp⟩
    · rcases split_sec s es with ⟨pre, e', post, rfl, h1, h2⟩ | h1
      · exact .inl ⟨e :: pre, e', post, rfl, h1, fun x hx => by rcases List.mem_cons.1 hx with rfl | hx; exact h; exact h2 x hx⟩
      · exact .inr fun x hx => by rcases List.mem_cons.1 hx with rfl | hx; exact h; exact h1 x hx

theorem eps_in {pre post : List Ent} {e : Ent} (h : ∀ x ∈ pre, x.sec ≠ e.sec) : eps (pre ++ e :: post) e.sec = e.ps.map pcOf := by
  unfold eps
  have : (pre ++ e :: post).find? (fun x => decide (x.sec = e.sec)) = some e := by
    rw [List.find?_append, List.find?_eq_none.2 (by intro x hx; simpa using h x hx)]
    simp
  rw [this]
theorem eps_out {es : List Ent} {s : Nat} (h : ∀ x ∈ es, x.sec ≠ s) : eps es s = [] := by
  unfold eps
  rw [List.find?_eq_none.2 (by intro x hx; simpa using h x hx)]
theorem eps_other {pre post : List Ent} {e e' : Ent} {s : Nat} (h1 : e.sec ≠ s) (h2 : e'.sec ≠ s) : eps (pre ++ e :: post) s = eps (pre ++ e' :: post) s := by
  unfold eps
  rw [List.find?_append, List.find?_append, List.find?_cons, List.find?_cons]
  simp [h1, h2]
theorem eps_push {es : List Ent} {e : Ent} {s : Nat} (h : e.sec ≠ s) : eps (es ++ [e]) s = eps es s := by
  unfold eps
  rw [List.find?_append]
  simp [h]

theorem findNow_none {s : Nat} : ∀ (l : List Ent) (i : Nat), (∀ e ∈ l, e.sec ≠ s) → Instr.findNow (.int .i64) (.int .i64 (s : Int)) (l.map Ent.mem) i = some none
  | [], _, _ => rfl
  | e :: l, i, h => by
    have h1 : ((s : Int) == (e.sec : Int)) = false := by have := h e (by simp); simp; omega
    simp only [List.map_cons, Instr.findNow, Ent.mem, Instr.sameNow, if_true, h1]
    exact findNow_none l (i + 1) fun x hx => h x (by simp [hx])
theorem findNow_some {e : Ent} {post : List Ent} : ∀ (pre : List Ent) (i : Nat), (∀ x ∈ pre, x.sec ≠ e.sec) → Instr.findNow (.int .i64) (.int .i64 (e.sec : Int)) ((pre ++ e :: post).map Ent.mem) i = some (some (i + pre.length, e.val))
  | [], i, _ => by simp [Instr.findNow, Ent.mem, Instr.sameNow]
  | x :: pre, i, h => by
    have h1 : ((e.sec : Int) == (x.sec : Int)) = false := by have := h x (by simp); simp; omega
    have ih := findNow_some (e := e) (post := post) pre (i + 1) fun y hy => h y (by simp [hy])
    simp only [List.cons_append, List.map_cons, Instr.findNow, Ent.mem, Instr.sameNow, if_true, h1] at ih ⊢
    rw [ih]
    simp only [List.length_cons]
    congr 3
    omega
theorem setObj_wrote {w : World} {r : Nat} {o o' : Obj} (hb : w.heap[r]? = some o) : Wrote w { w with heap := w.heap.setIfInBounds r o' } r o' := by
  have hlt : r < w.heap.size := (Array.getElem?_eq_some_iff.1 hb).1
  exact ⟨rfl, rfl, rfl, by simp, by simp [hlt], fun k hk => by simp [Array.getElem?_setIfInBounds, Ne.symm hk]⟩

/-- The types of a map of pieces. -/
structure MpT (P : Program) (t kt et : Nat) : Prop where
  und : P.underlying t = some (.map kt et)
  key : P.underlying kt = some (.int .i64)
  zero : ∀ w, (zeroValue et).run P w = .ok (.slice none 0 0) w

section
variable {P : Program} {ρ : Operand → Value} {K : Value → World → Prop} {w : World}
variable {d : Option Nat} {ty : TypeId} {pos : String} {after : Array Edge} {g : Option (Nat × Bool)}
variable {σ : Sig} {L L' R : List Asrt}

theorem run_updIn {t kt et m clock : Nat} {pre post : List Ent} {e : Ent} {v : Value} (ht : MpT P t kt et) (hb : w.heap[m]? = some (.map ((pre ++ e :: post).map Ent.mem).toArray clock)) (hpre : ∀ x ∈ pre, x.sec ≠ e.sec) :
    ∃ w', (Instr.mapUpdate t (.map (some m)) (.int .i64 (e.sec : Int)) v).run P w = .ok () w' ∧ Wrote w w' m (.map ((pre ++ { e with val := v } :: post).map Ent.mem).toArray clock) := by
  refine ⟨_, ?_, setObj_wrote hb⟩
  have hk : MapKept.IsKey (.int .i64) (.int .i64 (e.sec : Int)) := rfl
  have hf := findNow_some (e := e) (post := post) pre 0 hpre
  have hfk := MapKept.run_findKey (P := P) (w := w) (kt := kt) ht.key hf
  have hc := MapKept.run_checkKey (P := P) (w := w) ht.key hk false 9999
  have hst := MapKept.run_keyThatStays (P := P) (w := w) (d := .int .i64) (k := .int .i64 (e.sec : Int)) hk
  have hget : (((pre ++ e :: post).map Ent.mem).toArray[0 + pre.length]?).map (·.key) = some (.int .i64 (e.sec : Int)) := by simp [Ent.mem]
  have hmod : ((pre ++ e :: post).map Ent.mem).toArray.modify (0 + pre.length) (fun x => { x with key := .int .i64 (e.sec : Int), val := v }) = ((pre ++ { e with val := v } :: post).map Ent.mem).toArray := by
    apply Array.toList_inj.1
    apply List.ext_getElem?
    intro j
    simp only [Array.getElem?_toList, Array.getElem?_modify, List.getElem?_toArray, List.map_append, List.map_cons, Nat.zero_add]
    by_cases hj : pre.length = j
    · subst hj; simp [Ent.mem]
    · rw [if_neg hj]
      simp only [List.getElem?_append, List.length_map]
      split
      · rfl
      · obtain ⟨k, hk⟩ : ∃ k, j - pre.length = k + 1 := ⟨j - pre.length - 1, by omega⟩
        rw [hk]; simp
  simp only [Instr.mapUpdate, Sem.run_bind, run_underlying ht.und, Result.andThen_ok, MapKept.run_getObj_map hb, hc, hfk, hget, Option.getD_some, hst, hmod, MapKept.run_setObj_map _ hb]

theorem run_updOut {t kt et m clock s : Nat} {es : List Ent} {v : Value} (ps : List Pt) (ht : MpT P t kt et) (hb : w.heap[m]? = some (.map (es.map Ent.mem).toArray clock)) (hpre : ∀ x ∈ es, x.sec ≠ s) :
    ∃ w', (Instr.mapUpdate t (.map (some m)) (.int .i64 (s : Int)) v).run P w = .ok () w' ∧ Wrote w w' m (.map ((es ++ [(⟨s, clock, v, ps⟩ : Ent)]).map Ent.mem).toArray (clock + 1)) := by
  refine ⟨_, ?_, setObj_wrote hb⟩
  have hk : MapKept.IsKey (.int .i64) (.int .i64 (s : Int)) := rfl
  have hfk := MapKept.run_findKey (P := P) (w := w) (kt := kt) ht.key (findNow_none es 0 hpre)
  have hc := MapKept.run_checkKey (P := P) (w := w) ht.key hk false 9999
  have hpush : (es.map Ent.mem).toArray.push { key := .int .i64 (s : Int), val := v, born := clock } = ((es ++ [(⟨s, clock, v, ps⟩ : Ent)]).map Ent.mem).toArray := by simp [Ent.mem]
  simp only [Instr.mapUpdate, Sem.run_bind, run_underlying ht.und, Result.andThen_ok, MapKept.run_getObj_map hb, hc, hfk, hpush, MapKept.run_setObj_map _ hb]

theorem run_lookIn {t kt et m clock : Nat} {pre post : List Ent} {e : Ent} (ht : MpT P t kt et) (hb : w.heap[m]? = some (.map ((pre ++ e :: post).map Ent.mem).toArray clock)) (hpre : ∀ x ∈ pre, x.sec ≠ e.sec) :
    (Instr.lookup t (.map (some m)) (.int .i64 (e.sec : Int)) false).run P w = .ok e.val w := by
  have hk : MapKept.IsKey (.int .i64) (.int .i64 (e.sec : Int)) := rfl
  have hf := findNow_some (e := e) (post := post) pre 0 hpre
  have hfk := MapKept.run_findKey (P := P) (w := w) (kt := kt) ht.key hf
  have hc := fun b => MapKept.run_checkKey (P := P) (w := w) ht.key hk b 9999
  simp only [Instr.lookup, Sem.run_bind, run_underlying ht.und, Result.andThen_ok, MapKept.run_getObj_map hb, hc, Sem.run_pure, hfk]
  rfl
theorem run_lookOut {t kt et m clock s : Nat} {es : List Ent} (ht : MpT P t kt et) (hb : w.heap[m]? = some (.map (es.map Ent.mem).toArray clock)) (hpre : ∀ x ∈ es, x.sec ≠ s) :
    (Instr.lookup t (.map (some m)) (.int .i64 (s : Int)) false).run P w = .ok (.slice none 0 0) w := by
  have hk : MapKept.IsKey (.int .i64) (.int .i64 (s : Int)) := rfl
  have hfk := MapKept.run_findKey (P := P) (w := w) (kt := kt) ht.key (findNow_none es 0 hpre)
  have hc := fun b => MapKept.run_checkKey (P := P) (w := w) ht.key hk b 9999
  simp only [Instr.lookup, Sem.run_bind, run_underlying ht.und, Result.andThen_ok, MapKept.run_getObj_map hb, hc, Sem.run_pure, hfk, ht.zero]
  rfl

/-- The pieces of a sector, taken out of the map: what a look-up gives; what an update makes of them. -/
theorem map_open {t kt et m clock Q T : Nat} {es : List Ent} (s : Nat) (ht : MpT P t kt et) (hok : MOk es clock) (hs : St σ w (mapA m es clock :: entsA Q T es :: R)) :
    ∃ (v : Value) (ps : List Pt) (er : List Ent), ps.map pcOf = eps es s ∧ St σ w (sl Q 2 v ps.length (ps.flatMap pcF) :: datA T ps :: mapA m es clock :: entsA Q T er :: R) ∧
      (∀ w' : World, w'.heap[m]? = some (.map (es.map Ent.mem).toArray clock) → (Instr.lookup t (.map (some m)) (.int .i64 (s : Int)) false).run P w' = .ok v w') ∧
      ∀ (v' : Value) (ps' : List Pt), ∃ es' clock', MOk es' clock' ∧ eps es' s = ps'.map pcOf ∧ (∀ s', s' ≠ s → eps es' s' = eps es s') ∧
        ∀ w', St σ w' (sl Q 2 v' ps'.length (ps'.flatMap pcF) :: datA T ps' :: mapA m es clock :: entsA Q T er :: R) →
          ∃ w'', (Instr.mapUpdate t (.map (some m)) (.int .i64 (s : Int)) v').run P w' = .ok () w'' ∧ St σ w'' (mapA m es' clock' :: entsA Q T es' :: R) := by
  rcases split_sec s es with ⟨pre, e, post, rfl, rfl, hpre⟩ | hout
  · refine ⟨e.val, e.ps, pre ++ post, (eps_in hpre).symm, ?_, fun w' hb => run_lookIn ht hb hpre, fun v' ps' => ?_⟩
    · have h1 : St σ w (entsA Q T (pre ++ e :: post) :: mapA m (pre ++ e :: post) clock :: R) := hs.take (.there _ (.here _))
      have h2 := (entsA_take h1).star
      exact ((h2.take (.there _ (.there _ (.there _ (.here _))))).take (.there _ (.there _ (.here _)))).take (.there _ (.there _ (.here _)))
    · refine ⟨pre ++ { e with val := v', ps := ps' } :: post, clock, ⟨?_, ?_, ?_⟩, eps_in (e := { e with val := v', ps := ps' }) hpre, fun s' hs' => eps_other (Ne.symm hs') (Ne.symm hs'), fun w' hs' => ?_⟩
      · have := hok.secs; simpa using this
      · intro x hx
        rcases List.mem_append.1 hx with hx | hx
        · exact hok.born x (by simp [hx])
        · rcases List.mem_cons.1 hx with rfl | hx
          · exact hok.born e (by simp)
          · exact hok.born x (by simp [hx])
      · have := hok.borns; simpa using this
      · have h1 : St σ w' (mapA m (pre ++ e :: post) clock :: sl Q 2 v' ps'.length (ps'.flatMap pcF) :: datA T ps' :: entsA Q T (pre ++ post) :: R) := hs'.take (.there _ (.there _ (.here _)))
        obtain ⟨w'', hr, hw⟩ := run_updIn (v := v') ht h1.head hpre
        refine ⟨w'', hr, ?_⟩
        have em : (pre ++ { e with val := v' } :: post).map Ent.mem = (pre ++ { e with val := v', ps := ps' } :: post).map Ent.mem := by simp [Ent.mem]
        rw [em] at hw
        have h2 := h1.wrote hw
        have h3 : St σ w'' (sl Q 2 v' ps'.length (ps'.flatMap pcF) :: datA T ps' :: entsA Q T (pre ++ post) :: mapA m (pre ++ { e with val := v', ps := ps' } :: post) clock :: R) :=
          ((h2.take (.there _ (.there _ (.there _ (.here _))))).take (.there _ (.there _ (.there _ (.here _))))).take (.there _ (.there _ (.there _ (.here _))))
        have h4 : St σ w'' (entA Q T { e with val := v', ps := ps' } :: entsA Q T (pre ++ post) :: mapA m (pre ++ { e with val := v', ps := ps' } :: post) clock :: R) := h3.unstar
        exact (entsA_give h4).take (.there _ (.here _))
  · refine ⟨.slice none 0 0, [], es, (eps_out hout).symm, ?_, fun w' hb => run_lookOut ht hb hout, fun v' ps' => ?_⟩
    · exact (hs.emp (A := datA T []) (fun _ => trivial)).emp (A := sl Q 2 (.slice none 0 0) 0 []) (fun _ => ⟨rfl, .inl ⟨rfl, rfl⟩⟩)
    · refine ⟨es ++ [⟨s, clock, v', ps'⟩], clock + 1, ⟨?_, ?_, ?_⟩, eps_in (pre := es) (e := ⟨s, clock, v', ps'⟩) (post := []) hout, fun s' hs' => eps_push (Ne.symm hs'), fun w' hs' => ?_⟩
      · rw [List.map_append, List.nodup_append]
        refine ⟨hok.secs, by simp, ?_⟩
        intro a ha b hb
        obtain ⟨x, hx, rfl⟩ := List.mem_map.1 ha
        simp at hb; subst hb
        exact hout x hx
      · intro x hx
        rcases List.mem_append.1 hx with hx | hx
        · exact Nat.lt_succ_of_lt (hok.born x hx)
        · simp at hx; subst hx; exact Nat.lt_succ_self _
      · rw [List.map_append, List.nodup_append]
        refine ⟨hok.borns, by simp, ?_⟩
        intro a ha b hb
        obtain ⟨x, hx, rfl⟩ := List.mem_map.1 ha
        simp at hb; subst hb
        exact Nat.ne_of_lt (hok.born x hx)
      · have h1 : St σ w' (mapA m es clock :: sl Q 2 v' ps'.length (ps'.flatMap pcF) :: datA T ps' :: entsA Q T es :: R) := hs'.take (.there _ (.there _ (.here _)))
        obtain ⟨w'', hr, hw⟩ := run_updOut (v := v') ps' ht h1.head hout
        refine ⟨w'', hr, ?_⟩
        have h2 := h1.wrote hw
        have h3 : St σ w'' (sl Q 2 v' ps'.length (ps'.flatMap pcF) :: datA T ps' :: entsA Q T es :: mapA m (es ++ [⟨s, clock, v', ps'⟩]) (clock + 1) :: R) :=
          ((h2.take (.there _ (.there _ (.there _ (.here _))))).take (.there _ (.there _ (.there _ (.here _))))).take (.there _ (.there _ (.there _ (.here _))))
        have h4 : St σ w'' (entA Q T ⟨s, clock, v', ps'⟩ :: entsA Q T (es ++ []) :: mapA m (es ++ [⟨s, clock, v', ps'⟩]) (clock + 1) :: R) := by rw [List.append_nil]; exact h3.unstar
        exact (entsA_give h4).take (.there _ (.here _))

theorem x_lookup {t : TypeId} {x y : Operand} {vm vk v : Value} (hx : ρ x = vm) (hy : ρ y = vk) (hr : (Instr.lookup t vm vk false).run P w = .ok v w) :
    (execOp ρ ⟨d, .lookup t x y false, ty, pos, after, g⟩).run P w = .ok (.value v) w := by
  simp only [execOp, hx, hy, Sem.run_bind, hr, Result.andThen_ok, Sem.run_pure]
theorem y_mapUpdate {t : TypeId} {m x y : Operand} {vm vk v : Value} {w' : World} (hm : ρ m = vm) (hx : ρ x = vk) (hy : ρ y = v) (hr : (Instr.mapUpdate t vm vk v).run P w = .ok () w') (h : K undef w') :
    Does P ρ ⟨d, .mapUpdate t m x y, ty, pos, after, g⟩ w K := by
  refine .skip (w' := w') ?_ h
  simp only [execOp, hm, hx, hy, Sem.run_bind, hr, Result.andThen_ok, Sem.run_pure]

theorem y_range {t k e m clock : Nat} {x : Operand} {arr : Array MapEntry} (hs : St σ w L) (ht : P.underlying t = some (.map k e)) (hx : ρ x = .map (some m)) (tk : Take (blk m (.map arr clock)) L R)
    (h : ∀ r w', St σ w' (blk r (.mapIter (some m) clock #[] clock) :: L) → K (.pointer (some ⟨r, 0, none⟩)) w') : Does P ρ ⟨d, .range t x, ty, pos, after, g⟩ w K := by
  have hb := hs.blk_at tk
  have hr := run_range_map (P := P) w t k e m arr clock ht hb
  refine .value (v := .pointer (some ⟨w.heap.size, 0, none⟩)) ?_ (h _ _ (hs.alloc _))
  simp only [execOp, hx, Sem.run_bind, hr, Result.andThen_ok, Sem.run_pure]

/-- A step of the range over a map that stays: the entry is one that has not come yet, whichever. -/
theorem y_next {m r since : Nat} {x : Operand} {seen : Array Nat} {es : List Ent} (hs : St σ w L) (hx : ρ x = .pointer (some ⟨r, 0, none⟩)) (tk : Take (mapA m es since) L R) (hok : MOk es since)
    (up : ∀ s' : Array Nat, ∃ L', Up (blk r (.mapIter (some m) since seen since)) (blk r (.mapIter (some m) since s' since)) L L' ∧ (∀ w', St σ w' L' → ∀ e ∈ es, s' = seen.push e.born → e.born ∉ seen.toList → K (.tuple #[.bool true, .int .i64 (e.sec : Int), e.val]) w'))
    (hno : (∀ e ∈ es, e.born ∈ seen.toList) → K (.tuple #[.bool false]) w) : Does P ρ ⟨d, .next x false, ty, pos, after, g⟩ w K := by
  have hb := hs.blk_at tk
  obtain ⟨L0, u0, _⟩ := up seen
  obtain ⟨R0, t1, _⟩ := u0.takes
  have hr := hs.blk_at t1
  have hold : ∀ y ∈ (es.map Ent.mem).toArray.toList, y.born < since := by
    intro y hy
    simp only [List.mem_map] at hy
    obtain ⟨e, he, rfl⟩ := hy
    exact hok.born e he
  rcases run_next_at (P := P) w ty r m since since seen (es.map Ent.mem).toArray since hr hb hold (Nat.le_refl _) with ⟨h1, h2⟩ | ⟨e, he, w1, hw1, h2⟩
  · refine .value (v := .tuple #[.bool false]) (w' := w) (by simp only [execOp, hx, Sem.run_bind, h2, Result.andThen_ok, Sem.run_pure]) (hno fun e he => ?_)
    have hemp : leftOf (es.map Ent.mem).toArray seen = #[] := Array.eq_empty_of_size_eq_zero h1
    unfold leftOf at hemp
    rw [Array.filter_eq_empty_iff] at hemp
    have := hemp e.mem (by simp; exact ⟨e, he, rfl⟩)
    simpa [Ent.mem] using this
  · unfold leftOf at he
    simp only [Array.toList_filter, List.mem_filter, List.mem_map] at he
    obtain ⟨⟨e', he', rfl⟩, hns⟩ := he
    obtain ⟨L', u, hk⟩ := up (seen.push e'.born)
    refine .value (v := .tuple #[.bool true, .int .i64 (e'.sec : Int), e'.val]) (w' := ChangeMaps.setBlock w1 r (.mapIter (some m) since (seen.push e'.born) since)) ?_ (hk _ ?_ e' he' rfl (by simpa [Ent.mem] using hns))
    · simp only [execOp, hx, Sem.run_bind, h2, Result.andThen_ok, Sem.run_pure, Ent.mem]
    · have hs1 : St σ w1 L := by rcases hw1 with rfl | rfl; exact hs; exact hs.same rfl rfl rfl rfl
      exact hs1.wrote_at u (setObj_wrote (hs1.blk_at t1))
end

/-! ### The disk in memory -/
def szC (l : List Nat) : List Value := l.map fun n : Nat => Value.int .i64 (n : Int)
theorem szC_length (l : List Nat) : (szC l).length = l.length := by simp [szC]
def rpF (p : Pt) : List Value := [.int .i64 ((p.1 / 512 : Nat) : Int), .int .i64 (p.1 : Int), p.2.1]
structure DM where
  v1 : Value
  v2 : Value
  m : Nat
  v4 : Value
  es : List Ent
  clock : Nat
abbrev dcell (T p : Nat) (s : DS) (x : DM) : Asrt := cb p T [.int .i64 s.room, x.v1, x.v2, .map (some x.m), x.v4, .int .i64 (s.calls : Int), .int .i64 s.fuse, .bool s.dead]
def diskA (T Q U I p : Nat) (s : DS) : Asrt := ex fun x : DM => star (pure_ (MOk x.es x.clock ∧ Grp x.es s.pcs)) (star (dcell T p s x) (star (slB U x.v1 s.now) (star (slB U x.v2 s.dur) (star (mapA x.m x.es x.clock) (star (entsA Q U x.es) (sl I 1 x.v4 s.sizes.length (szC s.sizes)))))))
structure RM where
  v1 : Value
  v2 : Value
  v3 : Value
  v4 : Value
  ps : List Pt
abbrev rcell (T p : Nat) (s : DS) (x : RM) : Asrt := cb p T [.int .i64 s.room, x.v1, x.v2, x.v3, x.v4, .int .i64 (s.calls : Int), .int .i64 s.fuse, .bool (!s.dead)]
def refA (T Q U I p : Nat) (s : DS) : Asrt := ex fun x : RM => star (pure_ (x.ps.map pcOf = s.pcs)) (star (rcell T p s x) (star (slB U x.v1 s.now) (star (slB U x.v2 s.dur) (star (sl Q 3 x.v3 x.ps.length (x.ps.flatMap rpF)) (star (datA U x.ps) (sl I 1 x.v4 s.sizes.length (szC s.sizes)))))))
section
variable {σ : Sig} {w : World} {R : List Asrt} {T Q U I p : Nat} {s : DS}
theorem pure_intro {A : Asrt} {q : Prop} (hq : q) (hs : St σ w (A :: R)) : St σ w (star (Vw.pure_ q) A :: R) := (hs.emp (A := Vw.pure_ q) (fun _ => hq)).unstar
theorem diskA_open (hs : St σ w (diskA T Q U I p s :: R)) : ∃ x : DM, MOk x.es x.clock ∧ Grp x.es s.pcs ∧
    St σ w (dcell T p s x :: slB U x.v1 s.now :: slB U x.v2 s.dur :: mapA x.m x.es x.clock :: entsA Q U x.es :: sl I 1 x.v4 s.sizes.length (szC s.sizes) :: R) := by
  obtain ⟨x, hs⟩ := hs.ex
  obtain ⟨⟨h1, h2⟩, hs⟩ := hs.pure_
  refine ⟨x, h1, h2, ?_⟩
  have h3 := hs.star
  have h4 := (h3.take (.there _ (.here _))).star
  have h5 := (h4.take (.there _ (.here _))).star
  have h6 := (h5.take (.there _ (.here _))).star
  have h7 := (h6.take (.there _ (.here _))).star
  -- entsA, sl, mapA, dur, now, cell
  exact ((((((h7.take (.there _ (.here _))).take (.there _ (.here _))).take (.there _ (.there _ (.here _)))).take (.there _ (.there _ (.there _ (.here _))))).take (.there _ (.there _ (.there _ (.there _ (.here _)))))).take (.there _ (.there _ (.there _ (.there _ (.there _ (.here _)))))))
theorem diskA_close {x : DM} (h1 : MOk x.es x.clock) (h2 : Grp x.es s.pcs)
    (hs : St σ w (dcell T p s x :: slB U x.v1 s.now :: slB U x.v2 s.dur :: mapA x.m x.es x.clock :: entsA Q U x.es :: sl I 1 x.v4 s.sizes.length (szC s.sizes) :: R)) : St σ w (diskA T Q U I p s :: R) := by
  -- bring to: entsA :: sl :: ...
  have h7 : St σ w (entsA Q U x.es :: sl I 1 x.v4 s.sizes.length (szC s.sizes) :: mapA x.m x.es x.clock :: slB U x.v2 s.dur :: slB U x.v1 s.now :: dcell T p s x :: R) :=
    ((((((hs.take (.here _)).take (.there _ (.here _))).take (.there _ (.there _ (.here _)))).take (.there _ (.there _ (.there _ (.here _))))).take (.there _ (.there _ (.there _ (.there _ (.there _ (.here _))))))).take (.there _ (.there _ (.there _ (.there _ (.there _ (.here _)))))))
  have h6 := (h7.unstar.take (.there _ (.here _))).unstar
  have h5 := (h6.take (.there _ (.here _))).unstar
  have h4 := (h5.take (.there _ (.here _))).unstar
  have h3 := (h4.take (.there _ (.here _))).unstar
  exact (pure_intro (And.intro h1 h2) h3).imp fun h hh => ⟨x, hh⟩
theorem refA_open (hs : St σ w (refA T Q U I p s :: R)) : ∃ x : RM, x.ps.map pcOf = s.pcs ∧
    St σ w (rcell T p s x :: slB U x.v1 s.now :: slB U x.v2 s.dur :: sl Q 3 x.v3 x.ps.length (x.ps.flatMap rpF) :: datA U x.ps :: sl I 1 x.v4 s.sizes.length (szC s.sizes) :: R) := by
  obtain ⟨x, hs⟩ := hs.ex
  obtain ⟨h1, hs⟩ := hs.pure_
  refine ⟨x, h1, ?_⟩
  have h3 := hs.star
  have h4 := (h3.take (.there _ (.here _))).star
  have h5 := (h4.take (.there _ (.here _))).star
  have h6 := (h5.take (.there _ (.here _))).star
  have h7 := (h6.take (.there _ (.here _))).star
  exact ((((((h7.take (.there _ (.here _))).take (.there _ (.here _))).take (.there _ (.there _ (.here _)))).take (.there _ (.there _ (.there _ (.here _))))).take (.there _ (.there _ (.there _ (.there _ (.here _)))))).take (.there _ (.there _ (.there _ (.there _ (.there _ (.here _)))))))
theorem refA_close {x : RM} (h1 : x.ps.map pcOf = s.pcs)
    (hs : St σ w (rcell T p s x :: slB U x.v1 s.now :: slB U x.v2 s.dur :: sl Q 3 x.v3 x.ps.length (x.ps.flatMap rpF) :: datA U x.ps :: sl I 1 x.v4 s.sizes.length (szC s.sizes) :: R)) : St σ w (refA T Q U I p s :: R) := by
  have h7 : St σ w (datA U x.ps :: sl I 1 x.v4 s.sizes.length (szC s.sizes) :: sl Q 3 x.v3 x.ps.length (x.ps.flatMap rpF) :: slB U x.v2 s.dur :: slB U x.v1 s.now :: rcell T p s x :: R) :=
    ((((((hs.take (.here _)).take (.there _ (.here _))).take (.there _ (.there _ (.here _)))).take (.there _ (.there _ (.there _ (.here _))))).take (.there _ (.there _ (.there _ (.there _ (.there _ (.here _))))))).take (.there _ (.there _ (.there _ (.there _ (.there _ (.here _)))))))
  have h6 := (h7.unstar.take (.there _ (.here _))).unstar
  have h5 := (h6.take (.there _ (.here _))).unstar
  have h4 := (h5.take (.there _ (.here _))).unstar
  have h3 := (h4.take (.there _ (.here _))).unstar
  exact (pure_intro h1 h3).imp fun h hh => ⟨x, hh⟩
end
end Vw
